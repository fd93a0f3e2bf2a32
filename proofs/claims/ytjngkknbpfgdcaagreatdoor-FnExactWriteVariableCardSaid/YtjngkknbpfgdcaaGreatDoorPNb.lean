import Derived.Test.YtjngkknbpfgdcaaGreatDoorPOw
import Derived.Test.YtjngkknbpfgdcaaGreatDoorPTV
import Derived.Test.YtjngkknbpfgdcaaGreatDoorPMActive
import Derived.Deep.RegionHeld3
import Derived.Deep.MidRow
import Derived.Deep.Cut
import Derived.Test.YtjngkknbpfgdcaaGreatDoorPB
set_option linter.unusedVariables false
set_option linter.unusedSimpArgs false
set_option maxRecDepth 100000
set_option maxHeartbeats 8000000
namespace Go.Proofs.YtjngkknbpfgdcaaGreatDoor
open Go.RowKit
def cA.fl:cA->List ByteArray | .mk _ f _=>f
theorem mq (cs:List ByteArray):∀ds∈cs.map (fun x=>[Dat.str x]),∀d∈ds,d.flat:=by
 intro ds hds d hd
 obtain⟨x,-,rfl⟩:=List.mem_map.1 hds
 rw[List.mem_singleton.1 hd]
 trivial
theorem zH:(Tryz.prog.info? 9).map (fun i=>(i.zero,i.size,i.bytes))=some (some (.string ByteArray.empty),1,16):=by kernel_rfl
theorem IZ:(Tryz.prog.info? 109).map (fun i=>(i.zero,i.size,i.bytes))=some (some (.agg #[.string ByteArray.empty,.slice none 0 0,.int .i64 0]),3,48):=by kernel_rfl
abbrev acY (f:FuncId):Prop:=∀(xs:List cA) (S:Nat->Prop) (w:World) (A:Option Addr) (c:Nat),Row w S 3 A c (xs.map cA.D)->xs.length<=1048576->(∀(k:Nat) (h:k<xs.length),xs[k].fl.length<=1048576) ->
 Calls Tryz.prog f #[.slice A xs.length c] w fun e w'=>∃v L,e=.returned v/\fp w' 109 3 v L (xs.map cA.D)/\(∀b,mW v L b->w.heap.size<=b)/\cE w w'
theorem zU {α:Type} (D:α->List Dat) {l:List α} {i:Nat} (h:i<l.length):(l.take (i+1)).map D=(l.take i).map D++[D l[i]]:=by
 rw[List.take_succ_eq_append_getElem h,List.map_append,List.map_cons,List.map_nil]
theorem dO {P:Program} {c:Code} {Q:Exit->Act->World->Prop} {a:Act} {W:World} (h:∀wq,W=wq->Code.wp P c Q a wq):Code.wp P c Q a W:=h W rfl
theorem Dt:acY 89:=by
 intro xs S w A c hR hx hf
 have HR:=hide hR
 have HF:=hide hf
 have hlc:=hR.1
 have hcm:=hR.2.1
 simp only[aj]at hlc
 unfold maxLen at hcm
 clear hR hf
 obtain⟨is,his,zs0,zs1,zs2⟩:=info_parts zH
 obtain⟨ir,hir,zr0,zr1,zr2⟩:=info_parts IZ
 go_enter Tryz.func89,Tryz.ntmps89
 go_wp2_with (fail)
 go_loopw [3,4] (fun lv iv wr=>∃(i:Nat) (v:Value) (L:List Nat),v=lv/\iv=.int .i64 i/\i<=xs.length/\Hid (fp wr 109 3 v L ((xs.take i).map cA.D))/\Hid (∀b,mW v L b->w.heap.size<=b)/\Hid (cE w wr)) (fun _ iv _=>xs.length - (intOf iv).toNat)
 case atStart=>exact⟨0,_,[],rfl,rfl,Nat.zero_le _,hide (fp.te _ _ _),hide (fun b hb=>by rcases hb with hb | hb;(have e:=Option.some.inj (show some w.heap.size=some b from hb);omega);cases hb),hide bl⟩
 case round =>
  obtain⟨i,v,L,rfl,rfl,hi,HO,HB,HBR⟩:=hrel
  by_cases h:i<xs.length
  ·
   skip
   have hdc:decide ((i:Int)<(xs.length:Int))=true:=aD
   have hi0:(0:Int)<=(i:Int):=aB
   have hi1:(i:Int)<(xs.length:Int):=aB
   have hbw:=HBR.out
   (obtain⟨b1,o1,cH,cM,cN,Ad,xW,hA1,hS1,hl1,hx1,hv1,eY,eG,fa,db,de,dq⟩:=cA.at HR.out i h;subst hA1;have jh:=hide (Dat.cC.bel hbw hv1);have hh1:=hbw.box b1 hl1;have hw1:=ak hl1 (cE.size hbw);replace db:=(hh1 _).trans db;replace de:=(hh1 _).trans de;replace dq:=(hh1 _).trans dq;have gv:=hide hx1;have kX:=hide eG;clear hh1 hv1 hx1 hS1 eG)
   have hfl:=HF.out i h
   rw[gv.out]at hfl
   simp only[cA.fl]at hfl
   have hlf:=kX.out.1
   have hmf:=kX.out.2.1
   simp only[aj]at hlf
   unfold maxLen at hmf
   go_upto_region 5 with (fail)
   have Oh:cE wr wr:=cE.refl _
   have k0:=db
   have k1:=de
   have k2:=dq
   have HOA:=hide (HO.out.bel Oh)
   have El:=cE.trans hbw Oh
   refine wp_region_held_drew (S:=fun w'=>w'.cell? ⟨b1,o1+i*3,none⟩=some (.string cH)/\w'.cell? ⟨b1,o1+i*3+1,none⟩=some (.slice Ad cM.length xW)/\w'.cell? ⟨b1,o1+i*3+2,none⟩=some (.int .i64 cN)) aC ?_ (fun hHeld=>?_)
   ·
    exact⟨k0,k1,k2⟩
   refine eH 0 ?_
   refine eH 1 ?_
   refine eH 2 ?_
   refine eH 3 ?_
   refine eH 4 ?_
   refine eH 5 ?_
   refine eH 7 ?_
   refine eH 8 ?_
   refine eH 9 ?_
   refine eH 10 ?_
   refine eH 11 ?_
   refine eH 13 ?_
   refine eH 14 ?_
   refine eH 15 ?_
   refine eH 16 ?_
   refine eH 17 ?_
   have hlB:b1<wr.heap.size:=by exact hw1
   refine wpAnyH_ready (rs:=[6]) aC aK ?_
   refine AllReadyH.cons (o:=_) rfl (fun K hK=>?_) AllReadyH.nil
   go_simp
   clear hHeld
   have hb1:cE wr ((wr.alloc (.cells #[] 9)).drew):=bl
   have Oi:=fp.bel (fp.te wr 9 1) (show cE _ ((wr.alloc (.cells #[] 9)).drew)from bl)
   refine hK.out _ _ ?_ (fun hHeld=>?_)
   ·
    exact⟨(hb1.box b1 hlB _).trans k0,(hb1.box b1 hlB _).trans k1,(hb1.box b1 hlB _).trans k2⟩
   clear hK K
   (try simp only[Act.put,aa,ab,ae,af,ag,ah])
   refine wpAnyH_ready (rs:=[12]) aC aK ?_
   refine AllReadyH.cons (o:=_) rfl (fun K hK=>?_) AllReadyH.nil
   rw[if_pos (by rfl)]
   obtain⟨nw1,GQ⟩:=Row.src (mq cM) (Row.bel (cE.trans El hb1) kX.out)
   rw[aj]at GQ
   refine ly (.tmp 18) (.tmp 23) 24 rfl 9 is (.string ByteArray.empty) 1 16 Tryz.underlying24 his zs0 zs1 zs2 aF aF Oi GQ xW rfl rfl (fun b _ h=>by cases h) bj (by unfold maxLen;simp only[aA];omega) fun v5 w5 hO6 hg5 hw5=>?_
   have hb2:cE wr w5:=Below.grown hb1 hg5 aK (fun k hk=>by have:=Option.some.inj (show some wr.heap.size=some k from hk);omega)
   obtain⟨A6,c6,L6,Zr,Zs,hn6,hk6⟩:=hO6.ownRow
   subst Zr
   simp only[List.nil_append,aj]at Zs hk6 hw5 |-
   have IK:=hide Zs
   have HN6:=hide hn6
   have HK6:=hide (show ∀b,b∈L6->wr.heap.size<=b from fun b hb=>(hk6 b hb).elim (fun q=>(hw5 b q).elim (fun q=>by have:=Option.some.inj (show some wr.heap.size=some b from q);omega) (fun q=>by have:=hb1.size;omega)) (fun q=>by cases q))
   clear GQ Oi hO6 hg5 hw5 Zs hn6 hk6
   refine hK.out _ _ ?_ (fun hHeld=>?_)
   ·
    exact⟨(hb2.box b1 hlB _).trans k0,(hb2.box b1 hlB _).trans k1,(hb2.box b1 hlB _).trans k2⟩
   clear hK K
   (try simp only[Act.put,aa,ab,ae,af,ag,ah])
   refine eH 18 ?_
   refine wpAnyH_ready (rs:=[19]) aC aK ?_
   refine AllReadyH.cons (o:=_) rfl (fun K hK=>?_) AllReadyH.nil
   go_simp
   clear hHeld
   have hb3:cE wr (w5.alloc (.cells #[.string cH,.slice A6 cM.length c6,.int .i64 cN] 109)):=bl
   have hown:=fp.Za (k:=3) w5 109 (cA.jQ eY IK.out fa) rfl HN6.out
   obtain⟨nw3,Oj⟩:=hown.src
   have Zt:=hide Oj
   clear hown Oj
   have HO7:=hide (HOA.out.bel hb3)
   refine hK.out _ _ ?_ (fun hHeld=>?_)
   ·
    exact⟨(hb3.box b1 hlB _).trans k0,(hb3.box b1 hlB _).trans k1,(hb3.box b1 hlB _).trans k2⟩
   clear hK K
   (try simp only[Act.put,aa,ab,ae,af,ag,ah])
   refine wpAnyH_ready (rs:=[20]) aC aK ?_
   refine AllReadyH.cons (o:=_) rfl (fun K hK=>?_) AllReadyH.nil
   rw[if_pos (by rfl)]
   refine ly (.tmp 12) (.tmp 31) 25 rfl 109 ir (.agg #[.string ByteArray.empty,.slice none 0 0,.int .i64 0]) 3 48 Tryz.underlying25 hir zr0 zr1 zr2 aF aF HO7.out Zt.out 1 rfl rfl (fun b hb hm=>by have h1:=HOA.out.lt b hb;have h2:=HK6.out b hm;omega) cf bL fun v8 w8 Ol WI hw8=>?_
   have hb8:cE w w8:=Below.grown (cE.trans El hb3) WI (cE.trans El hb3).size (fun k hk=>HB.out k (Or.inl hk))
   have hne:v.ownBlock≠some b1:=fun q=>by have:=HB.out _ (Or.inl q);omega
   have hz3:=hb3.size
   have e8:=WI.block b1 aB (fun q=>hne q.symm)
   refine hK.out _ _ ?_ (fun hHeld=>?_)
   ·
    exact⟨(World.cell?_of_block e8).trans ((hb3.box b1 hlB _).trans k0),(World.cell?_of_block e8).trans ((hb3.box b1 hlB _).trans k1),(World.cell?_of_block e8).trans ((hb3.box b1 hlB _).trans k2)⟩
   clear hK K
   (try simp only[Act.put,aa,ab,ae,af,ag,ah])
   refine eH 21 ?_
   refine wpAnyH_done aC ?_ _
   clear hHeld
   have mK:=hide (show fp w8 109 3 v8 (L++L6) ((xs.take (i+1)).map cA.D) by rw[zU cA.D h,gv.out];exact Ol)
   have Zu:=El.size
   have Ez:=hide (show ∀b,mW v8 (L++L6) b->w.heap.size<=b from fun b hb=>hb.elim (fun q=>(hw8 b q).elim (fun q=>HB.out b (Or.inl q)) (fun q=>by have:=(cE.trans El hb3).size;omega)) (fun q=>(List.mem_append.1 q).elim (fun q=>HB.out b (Or.inr q)) (fun q=>by have:=HK6.out b q;omega)))
   clear Ol WI hw8 e8
   go_wp2_with (fail)
   all_goals go_roundw
   case rel=>exact⟨i+1,_,_,rfl,by go_num,by omega,hide (mK.out.bel bl),hide Ez.out,hide (cE.trans hb8 bl)⟩
   case measure=>simp[intOf];omega
  ·
   skip
   have hdc:decide ((i:Int)<(xs.length:Int))=false:=aD
   have mK:=hide (show fp wr 109 3 v L (xs.map cA.D) by have:=HO.out;rw[List.take_of_length_le aB]at this;exact this)
   obtain⟨A9,n9,c9,rfl⟩:∃A9 n9 c9,v=.slice A9 n9 c9:=by obtain⟨A0,c0,L0,hv0,_⟩:=HO.out.ownRow;exact⟨_,_,_,hv0⟩
   go_wp2_with (fail)
   all_goals
    go_returns
    exact⟨_,L,rfl,mK.out.bel bl,HB.out,cE.trans HBR.out bl⟩
theorem Dp:acY 84:=by
 intro xs S w A c hR hx hf
 have HR:=hide hR
 have HF:=hide hf
 have hlc:=hR.1
 have hcm:=hR.2.1
 simp only[aj]at hlc
 unfold maxLen at hcm
 clear hR hf
 obtain⟨is,his,zs0,zs1,zs2⟩:=info_parts zH
 obtain⟨ir,hir,zr0,zr1,zr2⟩:=info_parts IZ
 go_enter Tryz.func84,Tryz.ntmps84
 go_wp2_with (fail)
 go_loopw [3,9] (fun lv iv wr=>∃(i:Nat) (v:Value) (L:List Nat),v=lv/\iv=.int .i64 i/\i<=xs.length/\Hid (fp wr 109 3 v L ((xs.take i).map cA.D))/\Hid (∀b,mW v L b->w.heap.size<=b)/\Hid (cE w wr)) (fun _ iv _=>xs.length - (intOf iv).toNat)
 case atStart=>exact⟨0,_,[],rfl,rfl,Nat.zero_le _,hide (fp.te _ _ _),hide (fun b hb=>by rcases hb with hb | hb;(have e:=Option.some.inj (show some w.heap.size=some b from hb);omega);cases hb),hide bl⟩
 case round =>
  obtain⟨i,v,L,rfl,rfl,hi,HO,HB,HBR⟩:=hrel
  by_cases h:i<xs.length
  ·
   skip
   have hdc:decide ((i:Int)<(xs.length:Int))=true:=aD
   have hi0:(0:Int)<=(i:Int):=aB
   have hi1:(i:Int)<(xs.length:Int):=aB
   have hbw:=HBR.out
   (obtain⟨b1,o1,cH,cM,cN,Ad,xW,hA1,hS1,hl1,hx1,hv1,eY,eG,fa,db,de,dq⟩:=cA.at HR.out i h;subst hA1;have jh:=hide (Dat.cC.bel hbw hv1);have hh1:=hbw.box b1 hl1;have hw1:=ak hl1 (cE.size hbw);replace db:=(hh1 _).trans db;replace de:=(hh1 _).trans de;replace dq:=(hh1 _).trans dq;have gv:=hide hx1;have kX:=hide eG;clear hh1 hv1 hx1 hS1 eG)
   have hfl:=HF.out i h
   rw[gv.out]at hfl
   simp only[cA.fl]at hfl
   have hlf:=kX.out.1
   have hmf:=kX.out.2.1
   simp only[aj]at hlf
   unfold maxLen at hmf
   go_upto_region 5 with (fail)
   refine dO fun wA hwA=>?_
   have Oh:cE wr wA:=by rw[<-hwA];exact bl
   have hzA:wr.heap.size<wA.heap.size:=by rw[<-hwA];simp
   have k0:wA.cell? ⟨wr.heap.size,0,none⟩=some (.string cH):=by rw[<-hwA];simp[go_sem]
   have k1:wA.cell? ⟨wr.heap.size,1,none⟩=some (.slice Ad cM.length xW):=by rw[<-hwA];simp[go_sem]
   have k2:wA.cell? ⟨wr.heap.size,2,none⟩=some (.int .i64 cN):=by rw[<-hwA];simp[go_sem]
   clear hwA
   have HOA:=hide (HO.out.bel Oh)
   have El:=cE.trans hbw Oh
   refine wp_region_held_drew (S:=fun w'=>w'.cell? ⟨wr.heap.size,0,none⟩=some (.string cH)/\w'.cell? ⟨wr.heap.size,1,none⟩=some (.slice Ad cM.length xW)/\w'.cell? ⟨wr.heap.size,2,none⟩=some (.int .i64 cN)) aC ?_ (fun hHeld=>?_)
   ·
    exact⟨k0,k1,k2⟩
   refine eH 0 ?_
   refine eH 1 ?_
   refine eH 2 ?_
   refine eH 4 ?_
   refine eH 5 ?_
   refine eH 7 ?_
   refine eH 8 ?_
   have hlB:wr.heap.size<wA.heap.size:=aB
   refine wpAnyH_ready (rs:=[3]) aC aK ?_
   refine AllReadyH.cons (o:=_) rfl (fun K hK=>?_) AllReadyH.nil
   go_simp
   clear hHeld
   have hb1:cE wA ((wA.alloc (.cells #[] 9)).drew):=bl
   have Oi:=fp.bel (fp.te wA 9 1) (show cE _ ((wA.alloc (.cells #[] 9)).drew)from bl)
   refine hK.out _ _ ?_ (fun hHeld=>?_)
   ·
    exact⟨(hb1.box wr.heap.size hlB _).trans k0,(hb1.box wr.heap.size hlB _).trans k1,(hb1.box wr.heap.size hlB _).trans k2⟩
   clear hK K
   (try simp only[Act.put,aa,ab,ae,af,ag,ah])
   refine wpAnyH_ready (rs:=[6]) aC aK ?_
   refine AllReadyH.cons (o:=_) rfl (fun K hK=>?_) AllReadyH.nil
   rw[if_pos (by rfl)]
   obtain⟨nw1,GQ⟩:=Row.src (mq cM) (Row.bel (cE.trans El hb1) kX.out)
   rw[aj]at GQ
   refine ly (.tmp 16) (.tmp 18) 24 rfl 9 is (.string ByteArray.empty) 1 16 Tryz.underlying24 his zs0 zs1 zs2 aF aF Oi GQ xW rfl rfl (fun b _ h=>by cases h) bj (by unfold maxLen;simp only[aA];omega) fun v5 w5 hO6 hg5 hw5=>?_
   have hb2:cE wA w5:=Below.grown hb1 hg5 aK (fun k hk=>by have:=Option.some.inj (show some wA.heap.size=some k from hk);omega)
   obtain⟨A6,c6,L6,Zr,Zs,hn6,hk6⟩:=hO6.ownRow
   subst Zr
   simp only[List.nil_append,aj]at Zs hk6 hw5 |-
   have IK:=hide Zs
   have HN6:=hide hn6
   have HK6:=hide (show ∀b,b∈L6->wA.heap.size<=b from fun b hb=>(hk6 b hb).elim (fun q=>(hw5 b q).elim (fun q=>by have:=Option.some.inj (show some wA.heap.size=some b from q);omega) (fun q=>by have:=hb1.size;omega)) (fun q=>by cases q))
   clear GQ Oi hO6 hg5 hw5 Zs hn6 hk6
   refine hK.out _ _ ?_ (fun hHeld=>?_)
   ·
    exact⟨(hb2.box wr.heap.size hlB _).trans k0,(hb2.box wr.heap.size hlB _).trans k1,(hb2.box wr.heap.size hlB _).trans k2⟩
   clear hK K
   (try simp only[Act.put,aa,ab,ae,af,ag,ah])
   refine eH 9 ?_
   refine wpAnyH_ready (rs:=[10]) aC aK ?_
   refine AllReadyH.cons (o:=_) rfl (fun K hK=>?_) AllReadyH.nil
   go_simp
   clear hHeld
   have hb3:cE wA (w5.alloc (.cells #[.string cH,.slice A6 cM.length c6,.int .i64 cN] 109)):=bl
   have hown:=fp.Za (k:=3) w5 109 (cA.jQ eY IK.out fa) rfl HN6.out
   obtain⟨nw3,Oj⟩:=hown.src
   have Zt:=hide Oj
   clear hown Oj
   have HO7:=hide (HOA.out.bel hb3)
   refine hK.out _ _ ?_ (fun hHeld=>?_)
   ·
    exact⟨(hb3.box wr.heap.size hlB _).trans k0,(hb3.box wr.heap.size hlB _).trans k1,(hb3.box wr.heap.size hlB _).trans k2⟩
   clear hK K
   (try simp only[Act.put,aa,ab,ae,af,ag,ah])
   refine wpAnyH_ready (rs:=[11]) aC aK ?_
   refine AllReadyH.cons (o:=_) rfl (fun K hK=>?_) AllReadyH.nil
   rw[if_pos (by rfl)]
   refine ly (.tmp 13) (.tmp 23) 25 rfl 109 ir (.agg #[.string ByteArray.empty,.slice none 0 0,.int .i64 0]) 3 48 Tryz.underlying25 hir zr0 zr1 zr2 aF aF HO7.out Zt.out 1 rfl rfl (fun b hb hm=>by have h1:=HOA.out.lt b hb;have h2:=HK6.out b hm;omega) cf bL fun v8 w8 Ol WI hw8=>?_
   have hb8:cE w w8:=Below.grown (cE.trans El hb3) WI (cE.trans El hb3).size (fun k hk=>HB.out k (Or.inl hk))
   have hne:v.ownBlock≠some wr.heap.size:=fun q=>by have:=HO.out.lt _ (Or.inl q);omega
   have hz3:=hb3.size
   have e8:=WI.block wr.heap.size aB (fun q=>hne q.symm)
   refine hK.out _ _ ?_ (fun hHeld=>?_)
   ·
    exact⟨(World.cell?_of_block e8).trans ((hb3.box wr.heap.size hlB _).trans k0),(World.cell?_of_block e8).trans ((hb3.box wr.heap.size hlB _).trans k1),(World.cell?_of_block e8).trans ((hb3.box wr.heap.size hlB _).trans k2)⟩
   clear hK K
   (try simp only[Act.put,aa,ab,ae,af,ag,ah])
   refine eH 12 ?_
   refine wpAnyH_done aC ?_ _
   clear hHeld
   have mK:=hide (show fp w8 109 3 v8 (L++L6) ((xs.take (i+1)).map cA.D) by rw[zU cA.D h,gv.out];exact Ol)
   have Zu:=El.size
   have Ez:=hide (show ∀b,mW v8 (L++L6) b->w.heap.size<=b from fun b hb=>hb.elim (fun q=>(hw8 b q).elim (fun q=>HB.out b (Or.inl q)) (fun q=>by have:=(cE.trans El hb3).size;omega)) (fun q=>(List.mem_append.1 q).elim (fun q=>HB.out b (Or.inr q)) (fun q=>by have:=HK6.out b q;omega)))
   clear Ol WI hw8 e8
   go_wp2_with (fail)
   all_goals go_roundw
   case rel=>exact⟨i+1,_,_,rfl,by go_num,by omega,hide (mK.out.bel bl),hide Ez.out,hide (cE.trans hb8 bl)⟩
   case measure=>simp[intOf];omega
  ·
   skip
   have hdc:decide ((i:Int)<(xs.length:Int))=false:=aD
   have mK:=hide (show fp wr 109 3 v L (xs.map cA.D) by have:=HO.out;rw[List.take_of_length_le aB]at this;exact this)
   obtain⟨A9,n9,c9,rfl⟩:∃A9 n9 c9,v=.slice A9 n9 c9:=by obtain⟨A0,c0,L0,hv0,_⟩:=HO.out.ownRow;exact⟨_,_,_,hv0⟩
   go_wp2_with (fail)
   all_goals
    go_returns
    exact⟨_,L,rfl,mK.out.bel bl,HB.out,cE.trans HBR.out bl⟩
theorem eX {w:World} {b b':Nat} (o:Nat) (u:Value) (hn:b'≠b):(w.setCell ⟨b',o,none⟩ u).heap[b]?=w.heap[b]?:=by
 unfold World.setCell
 split
 all_goals
  show (w.heap.modify b' _)[b]?=_
  rw[Array.getElem?_modify,if_neg hn]
theorem uM {P:Program} {ops:Array Oper} {Q:Exit->Act->World->Prop} {l:List Oper} {a:Act} {W:World} (h:∀wz,wz=W->wpList P ops Q l a wz):wpList P ops Q l a W:=h W rfl
def SB (w:World) (b:Nat) (v0 v1 v2 v3 v4 v5 v6 v7 v8 v9 v10 v11 v12:Value):Prop:=b<w.heap.size/\(∀o,w.frozen? ⟨b,o,none⟩=false)/\w.cell? ⟨b,0,none⟩=some v0/\w.cell? ⟨b,1,none⟩=some v1/\w.cell? ⟨b,2,none⟩=some v2/\w.cell? ⟨b,3,none⟩=some v3/\w.cell? ⟨b,4,none⟩=some v4/\w.cell? ⟨b,5,none⟩=some v5/\w.cell? ⟨b,6,none⟩=some v6/\w.cell? ⟨b,7,none⟩=some v7/\w.cell? ⟨b,8,none⟩=some v8/\w.cell? ⟨b,9,none⟩=some v9/\w.cell? ⟨b,10,none⟩=some v10/\w.cell? ⟨b,11,none⟩=some v11/\w.cell? ⟨b,12,none⟩=some v12
section
variable {w w':World} {b:Nat} {v0 v1 v2 v3 v4 v5 v6 v7 v8 v9 v10 v11 v12:Value}
theorem SB.block (h:SB w b v0 v1 v2 v3 v4 v5 v6 v7 v8 v9 v10 v11 v12) (hs:w.heap.size<=w'.heap.size) (hb:w'.heap[b]?=w.heap[b]?):SB w' b v0 v1 v2 v3 v4 v5 v6 v7 v8 v9 v10 v11 v12:=by
 obtain⟨l,f,c0,c1,c2,c3,c4,c5,c6,c7,c8,c9,c10,c11,c12⟩:=h
 have e:∀o,w'.cell? ⟨b,o,none⟩=w.cell? ⟨b,o,none⟩:=fun o=>World.cell?_of_block hb
 exact⟨by omega,fun o=>(World.frozen?_of_block hb).trans (f o),(e 0).trans c0,(e 1).trans c1,(e 2).trans c2,(e 3).trans c3,(e 4).trans c4,(e 5).trans c5,(e 6).trans c6,(e 7).trans c7,(e 8).trans c8,(e 9).trans c9,(e 10).trans c10,(e 11).trans c11,(e 12).trans c12⟩
theorem SB.on (h:SB w b v0 v1 v2 v3 v4 v5 v6 v7 v8 v9 v10 v11 v12) (k:cE w w'):SB w' b v0 v1 v2 v3 v4 v5 v6 v7 v8 v9 v10 v11 v12:=h.block k.size (Below.block k b h.1)
theorem SB.new (w:World) (t:TypeId):SB (w.alloc (.cells #[v0,v1,v2,v3,v4,v5,v6,v7,v8,v9,v10,v11,v12] t)) w.heap.size v0 v1 v2 v3 v4 v5 v6 v7 v8 v9 v10 v11 v12 :=
 ⟨by simp,fun o=>by simp,by simp,by simp,by simp,by simp,by simp,by simp,by simp,by simp,by simp,by simp,by simp,by simp,by simp⟩
theorem SB.far (h:SB w b v0 v1 v2 v3 v4 v5 v6 v7 v8 v9 v10 v11 v12) {b':Nat} (o:Nat) (u:Value) (hn:b'≠b):SB (w.setCell ⟨b',o,none⟩ u) b v0 v1 v2 v3 v4 v5 v6 v7 v8 v9 v10 v11 v12 :=
 h.block aK (eX o u hn)
theorem SB.Dn (h:SB w b v0 v1 v2 v3 v4 v5 v6 v7 v8 v9 v10 v11 v12) (u:Value):SB (w.setCell ⟨b,0,none⟩ u) b u v1 v2 v3 v4 v5 v6 v7 v8 v9 v10 v11 v12:=by
 obtain⟨l,f,c0,c1,c2,c3,c4,c5,c6,c7,c8,c9,c10,c11,c12⟩:=h
 exact⟨by simpa using l,fun o=>by simp[f],by simp[c0,go_sem],by simp[c1,go_sem],by simp[c2,go_sem],by simp[c3,go_sem],by simp[c4,go_sem],by simp[c5,go_sem],by simp[c6,go_sem],by simp[c7,go_sem],by simp[c8,go_sem],by simp[c9,go_sem],by simp[c10,go_sem],by simp[c11,go_sem],by simp[c12,go_sem]⟩
theorem SB.Dq (h:SB w b v0 v1 v2 v3 v4 v5 v6 v7 v8 v9 v10 v11 v12) (u:Value):SB (w.setCell ⟨b,1,none⟩ u) b v0 u v2 v3 v4 v5 v6 v7 v8 v9 v10 v11 v12:=by
 obtain⟨l,f,c0,c1,c2,c3,c4,c5,c6,c7,c8,c9,c10,c11,c12⟩:=h
 exact⟨by simpa using l,fun o=>by simp[f],by simp[c0,go_sem],by simp[c1,go_sem],by simp[c2,go_sem],by simp[c3,go_sem],by simp[c4,go_sem],by simp[c5,go_sem],by simp[c6,go_sem],by simp[c7,go_sem],by simp[c8,go_sem],by simp[c9,go_sem],by simp[c10,go_sem],by simp[c11,go_sem],by simp[c12,go_sem]⟩
theorem SB.zT (h:SB w b v0 v1 v2 v3 v4 v5 v6 v7 v8 v9 v10 v11 v12) (u:Value):SB (w.setCell ⟨b,2,none⟩ u) b v0 v1 u v3 v4 v5 v6 v7 v8 v9 v10 v11 v12:=by
 obtain⟨l,f,c0,c1,c2,c3,c4,c5,c6,c7,c8,c9,c10,c11,c12⟩:=h
 exact⟨by simpa using l,fun o=>by simp[f],by simp[c0,go_sem],by simp[c1,go_sem],by simp[c2,go_sem],by simp[c3,go_sem],by simp[c4,go_sem],by simp[c5,go_sem],by simp[c6,go_sem],by simp[c7,go_sem],by simp[c8,go_sem],by simp[c9,go_sem],by simp[c10,go_sem],by simp[c11,go_sem],by simp[c12,go_sem]⟩
theorem SB.xg (h:SB w b v0 v1 v2 v3 v4 v5 v6 v7 v8 v9 v10 v11 v12) (u:Value):SB (w.setCell ⟨b,3,none⟩ u) b v0 v1 v2 u v4 v5 v6 v7 v8 v9 v10 v11 v12:=by
 obtain⟨l,f,c0,c1,c2,c3,c4,c5,c6,c7,c8,c9,c10,c11,c12⟩:=h
 exact⟨by simpa using l,fun o=>by simp[f],by simp[c0,go_sem],by simp[c1,go_sem],by simp[c2,go_sem],by simp[c3,go_sem],by simp[c4,go_sem],by simp[c5,go_sem],by simp[c6,go_sem],by simp[c7,go_sem],by simp[c8,go_sem],by simp[c9,go_sem],by simp[c10,go_sem],by simp[c11,go_sem],by simp[c12,go_sem]⟩
theorem SB.EA (h:SB w b v0 v1 v2 v3 v4 v5 v6 v7 v8 v9 v10 v11 v12) (u:Value):SB (w.setCell ⟨b,4,none⟩ u) b v0 v1 v2 v3 u v5 v6 v7 v8 v9 v10 v11 v12:=by
 obtain⟨l,f,c0,c1,c2,c3,c4,c5,c6,c7,c8,c9,c10,c11,c12⟩:=h
 exact⟨by simpa using l,fun o=>by simp[f],by simp[c0,go_sem],by simp[c1,go_sem],by simp[c2,go_sem],by simp[c3,go_sem],by simp[c4,go_sem],by simp[c5,go_sem],by simp[c6,go_sem],by simp[c7,go_sem],by simp[c8,go_sem],by simp[c9,go_sem],by simp[c10,go_sem],by simp[c11,go_sem],by simp[c12,go_sem]⟩
theorem SB.Ze (h:SB w b v0 v1 v2 v3 v4 v5 v6 v7 v8 v9 v10 v11 v12) (u:Value):SB (w.setCell ⟨b,5,none⟩ u) b v0 v1 v2 v3 v4 u v6 v7 v8 v9 v10 v11 v12:=by
 obtain⟨l,f,c0,c1,c2,c3,c4,c5,c6,c7,c8,c9,c10,c11,c12⟩:=h
 exact⟨by simpa using l,fun o=>by simp[f],by simp[c0,go_sem],by simp[c1,go_sem],by simp[c2,go_sem],by simp[c3,go_sem],by simp[c4,go_sem],by simp[c5,go_sem],by simp[c6,go_sem],by simp[c7,go_sem],by simp[c8,go_sem],by simp[c9,go_sem],by simp[c10,go_sem],by simp[c11,go_sem],by simp[c12,go_sem]⟩
theorem SB.wv (h:SB w b v0 v1 v2 v3 v4 v5 v6 v7 v8 v9 v10 v11 v12) (u:Value):SB (w.setCell ⟨b,6,none⟩ u) b v0 v1 v2 v3 v4 v5 u v7 v8 v9 v10 v11 v12:=by
 obtain⟨l,f,c0,c1,c2,c3,c4,c5,c6,c7,c8,c9,c10,c11,c12⟩:=h
 exact⟨by simpa using l,fun o=>by simp[f],by simp[c0,go_sem],by simp[c1,go_sem],by simp[c2,go_sem],by simp[c3,go_sem],by simp[c4,go_sem],by simp[c5,go_sem],by simp[c6,go_sem],by simp[c7,go_sem],by simp[c8,go_sem],by simp[c9,go_sem],by simp[c10,go_sem],by simp[c11,go_sem],by simp[c12,go_sem]⟩
theorem SB.Nd (h:SB w b v0 v1 v2 v3 v4 v5 v6 v7 v8 v9 v10 v11 v12) (u:Value):SB (w.setCell ⟨b,7,none⟩ u) b v0 v1 v2 v3 v4 v5 v6 u v8 v9 v10 v11 v12:=by
 obtain⟨l,f,c0,c1,c2,c3,c4,c5,c6,c7,c8,c9,c10,c11,c12⟩:=h
 exact⟨by simpa using l,fun o=>by simp[f],by simp[c0,go_sem],by simp[c1,go_sem],by simp[c2,go_sem],by simp[c3,go_sem],by simp[c4,go_sem],by simp[c5,go_sem],by simp[c6,go_sem],by simp[c7,go_sem],by simp[c8,go_sem],by simp[c9,go_sem],by simp[c10,go_sem],by simp[c11,go_sem],by simp[c12,go_sem]⟩
theorem SB.Nf (h:SB w b v0 v1 v2 v3 v4 v5 v6 v7 v8 v9 v10 v11 v12) (u:Value):SB (w.setCell ⟨b,8,none⟩ u) b v0 v1 v2 v3 v4 v5 v6 v7 u v9 v10 v11 v12:=by
 obtain⟨l,f,c0,c1,c2,c3,c4,c5,c6,c7,c8,c9,c10,c11,c12⟩:=h
 exact⟨by simpa using l,fun o=>by simp[f],by simp[c0,go_sem],by simp[c1,go_sem],by simp[c2,go_sem],by simp[c3,go_sem],by simp[c4,go_sem],by simp[c5,go_sem],by simp[c6,go_sem],by simp[c7,go_sem],by simp[c8,go_sem],by simp[c9,go_sem],by simp[c10,go_sem],by simp[c11,go_sem],by simp[c12,go_sem]⟩
theorem SB.Zf (h:SB w b v0 v1 v2 v3 v4 v5 v6 v7 v8 v9 v10 v11 v12) (u:Value):SB (w.setCell ⟨b,9,none⟩ u) b v0 v1 v2 v3 v4 v5 v6 v7 v8 u v10 v11 v12:=by
 obtain⟨l,f,c0,c1,c2,c3,c4,c5,c6,c7,c8,c9,c10,c11,c12⟩:=h
 exact⟨by simpa using l,fun o=>by simp[f],by simp[c0,go_sem],by simp[c1,go_sem],by simp[c2,go_sem],by simp[c3,go_sem],by simp[c4,go_sem],by simp[c5,go_sem],by simp[c6,go_sem],by simp[c7,go_sem],by simp[c8,go_sem],by simp[c9,go_sem],by simp[c10,go_sem],by simp[c11,go_sem],by simp[c12,go_sem]⟩
theorem SB.Nh (h:SB w b v0 v1 v2 v3 v4 v5 v6 v7 v8 v9 v10 v11 v12) (u:Value):SB (w.setCell ⟨b,10,none⟩ u) b v0 v1 v2 v3 v4 v5 v6 v7 v8 v9 u v11 v12:=by
 obtain⟨l,f,c0,c1,c2,c3,c4,c5,c6,c7,c8,c9,c10,c11,c12⟩:=h
 exact⟨by simpa using l,fun o=>by simp[f],by simp[c0,go_sem],by simp[c1,go_sem],by simp[c2,go_sem],by simp[c3,go_sem],by simp[c4,go_sem],by simp[c5,go_sem],by simp[c6,go_sem],by simp[c7,go_sem],by simp[c8,go_sem],by simp[c9,go_sem],by simp[c10,go_sem],by simp[c11,go_sem],by simp[c12,go_sem]⟩
theorem SB.Ni (h:SB w b v0 v1 v2 v3 v4 v5 v6 v7 v8 v9 v10 v11 v12) (u:Value):SB (w.setCell ⟨b,11,none⟩ u) b v0 v1 v2 v3 v4 v5 v6 v7 v8 v9 v10 u v12:=by
 obtain⟨l,f,c0,c1,c2,c3,c4,c5,c6,c7,c8,c9,c10,c11,c12⟩:=h
 exact⟨by simpa using l,fun o=>by simp[f],by simp[c0,go_sem],by simp[c1,go_sem],by simp[c2,go_sem],by simp[c3,go_sem],by simp[c4,go_sem],by simp[c5,go_sem],by simp[c6,go_sem],by simp[c7,go_sem],by simp[c8,go_sem],by simp[c9,go_sem],by simp[c10,go_sem],by simp[c11,go_sem],by simp[c12,go_sem]⟩
theorem SB.Nj (h:SB w b v0 v1 v2 v3 v4 v5 v6 v7 v8 v9 v10 v11 v12) (u:Value):SB (w.setCell ⟨b,12,none⟩ u) b v0 v1 v2 v3 v4 v5 v6 v7 v8 v9 v10 v11 u:=by
 obtain⟨l,f,c0,c1,c2,c3,c4,c5,c6,c7,c8,c9,c10,c11,c12⟩:=h
 exact⟨by simpa using l,fun o=>by simp[f],by simp[c0,go_sem],by simp[c1,go_sem],by simp[c2,go_sem],by simp[c3,go_sem],by simp[c4,go_sem],by simp[c5,go_sem],by simp[c6,go_sem],by simp[c7,go_sem],by simp[c8,go_sem],by simp[c9,go_sem],by simp[c10,go_sem],by simp[c11,go_sem],by simp[c12,go_sem]⟩
theorem SB.there (h:SB w b v0 v1 v2 v3 v4 v5 v6 v7 v8 v9 v10 v11 v12):w.there b 0 13:=by
 obtain⟨l,f,c0,c1,c2,c3,c4,c5,c6,c7,c8,c9,c10,c11,c12⟩:=h
 intro j hj
 rcases (show j=0\/j=1\/j=2\/j=3\/j=4\/j=5\/j=6\/j=7\/j=8\/j=9\/j=10\/j=11\/j=12 by omega)with rfl | rfl | rfl | rfl | rfl | rfl | rfl | rfl | rfl | rfl | rfl | rfl | rfl
 all_goals exact⟨by simp[c0,c1,c2,c3,c4,c5,c6,c7,c8,c9,c10,c11,c12],f _⟩
end
theorem xf:(Tryz.prog.info? 34).map (fun i=>(i.zero,i.size,i.bytes))=some (some (.agg #[.int .i64 0,.int .i64 0,.int .i64 0,.string ByteArray.empty,.int .i64 0,.int .i64 0]),6,56):=by kernel_rfl
structure GH where
 E:TypeId
 k:Nat
 v:Value
 L:List Nat
 ds:List (List Dat)
structure mv (N:Nat) (w:World) (l:List GH):Prop where
 own:∀e∈l,fp w e.E e.k e.v e.L e.ds
 low:∀e∈l,∀b,mW e.v e.L b->N<=b
 sep:l.Pairwise (fun e f=>∀b,mW e.v e.L b->¬mW f.v f.L b)
section
variable {N:Nat} {w w':World} {l:List GH}
theorem mv.nil (N:Nat) (w:World):mv N w []:=⟨(fun _ h=>(by cases h)),(fun _ h=>(by cases h)),List.Pairwise.nil⟩
theorem mv.keep (h:mv N w l) (hs:w.heap.size<=w'.heap.size) (hb:∀e∈l,∀b,mW e.v e.L b->w'.heap[b]?=w.heap[b]?):mv N w' l :=
 ⟨fun e he=>(h.own e he).keep hs (hb e he),h.low,h.sep⟩
theorem mv.bel (h:mv N w l) (hb:cE w w'):mv N w' l:=h.keep hb.size fun e he b hm=>Below.block hb b ((h.own e he).lt b hm)
theorem mv.far (h:mv N w l) {b:Nat} (hb:b<N) (o:Nat) (u:Value):mv N (w.setCell ⟨b,o,none⟩ u) l:=by
 refine h.keep aK fun e he x hx=>?_
 have hn:b≠x:=by have:=h.low e he x hx;omega
 unfold World.setCell
 split
 all_goals
  show (w.heap.modify b _)[x]?=_
  rw[Array.getElem?_modify,if_neg hn]
theorem mv.snoc (h:mv N w l) (hb:cE w w') {e:GH} (ho:fp w' e.E e.k e.v e.L e.ds) (hN:N<=w.heap.size) (hn:∀b,mW e.v e.L b->w.heap.size<=b):mv N w' (l++[e]):=by
 have h':=h.bel hb
 refine⟨fun f hf=>?_,fun f hf=>?_,List.pairwise_append.2 ⟨h.sep,List.pairwise_singleton _ _,fun f hf g hg b hb hc=>?_⟩⟩
 ·
  rcases List.mem_append.1 hf with hf | hf
  ·
   exact h'.own f hf
  ·
   rw[List.mem_singleton.1 hf];exact ho
 ·
  rcases List.mem_append.1 hf with hf | hf
  ·
   exact h.low f hf
  ·
   rw[List.mem_singleton.1 hf];exact fun b hb=>al hN (hn b hb)
 ·
  rw[List.mem_singleton.1 hg]at hc
  have h1:=(h.own f hf).lt b hb
  have h2:=hn b hc
  omega
theorem mv.grow {e e':GH} (h:mv N w (l++[e])) {wm:World} (hm:cE w wm) (hg:wm.grownBy w' e.v.ownBlock) (hN:N<=w.heap.size) (ho:fp w' e'.E e'.k e'.v e'.L e'.ds) (hn:∀b,mW e'.v e'.L b->mW e.v e.L b\/w.heap.size<=b):mv N w' (l++[e']):=by
 have hp:=List.pairwise_append.1 h.sep
 have low:∀b,mW e'.v e'.L b->N<=b:=fun b hb=>(hn b hb).elim (fun q=>h.low e aK b q) (fun q=>al hN q)
 have sep:∀f∈l,∀b,mW f.v f.L b->¬mW e.v e.L b:=fun f hf=>hp.2.2 f hf e aK
 refine⟨fun f hf=>?_,fun f hf=>?_,List.pairwise_append.2 ⟨hp.1,List.pairwise_singleton _ _,fun f hf g hg b hb hc=>?_⟩⟩
 ·
  rcases List.mem_append.1 hf with hf | hf
  ·
   refine (h.own f (by simp[hf])).keep (al hm.size hg.size) fun b hb=>?_
   have hl:=(h.own f (by simp[hf])).lt b hb
   exact (hg.block b (ak hl hm.size) (fun q=>sep f hf b hb (Or.inl q.symm))).trans (Below.block hm b hl)
  ·
   rw[List.mem_singleton.1 hf];exact ho
 ·
  rcases List.mem_append.1 hf with hf | hf
  ·
   exact h.low f (by simp[hf])
  ·
   rw[List.mem_singleton.1 hf];exact low
 ·
  rw[List.mem_singleton.1 hg]at hc
  rcases hn b hc with q | q
  ·
   exact sep f hf b hb q
  ·
   have:=(h.own f (by simp[hf])).lt b hb
   omega
theorem mv.at (h:mv N w l) {i:Nat} {e:GH} (he:l[i]?=some e):fp w e.E e.k e.v e.L e.ds:=h.own e (List.mem_of_getElem? he)
theorem fp.SF {b:Nat} (h:mW (.slice none 0 0) [] b):False:=by
 rcases h with h | h <;> cases h
end
theorem ti (cs:List cw):∀ds∈cs.map cw.D,∀d∈ds,d.flat:=by
 intro ds hds d hd
 obtain⟨⟨a,b,c,t,e,f⟩,-,rfl⟩:=List.mem_map.1 hds
 rw[cw.fU]at hd
 simp only[List.mem_cons,List.not_mem_nil,or_false]at hd
 rcases hd with rfl | rfl | rfl | rfl | rfl | rfl <;> trivial
theorem EB (cs:List cJ):∀ds∈cs.map cJ.D,∀d∈ds,d.flat:=by
 intro ds hds d hd
 obtain⟨⟨a,b⟩,-,rfl⟩:=List.mem_map.1 hds
 rw[cJ.fU]at hd
 simp only[List.mem_cons,List.not_mem_nil,or_false]at hd
 rcases hd with rfl | rfl <;> trivial
theorem IL:(Tryz.prog.info? 76).map (fun i=>(i.zero,i.size,i.bytes))=some (some (.agg #[.int .i64 0,.int .i64 0]),2,16):=by kernel_rfl
theorem IM:(Tryz.prog.info? 81).map (fun i=>(i.zero,i.size,i.bytes))=some (some (.agg #[.int .i64 0,.int .i64 0,.int .i64 0,.slice none 0 0,.slice none 0 0]),5,72):=by kernel_rfl
structure Zv (w:World) (N:Nat) (wx:World) (b:Nat) (v0 v1 v2 v3 v4 v5 v6 v7 v8 v9 v10 v11 v12:Value) (l:List GH):Prop where
 box:SB wx b v0 v1 v2 v3 v4 v5 v6 v7 v8 v9 v10 v11 v12
 uD:mv N wx l
 bel:cE w wx
 low:w.heap.size<=b/\b<N/\N<=wx.heap.size
section
variable {w wx wy:World} {N b:Nat} {v0 v1 v2 v3 v4 v5 v6 v7 v8 v9 v10 v11 v12:Value} {l:List GH}
theorem Zv.on (h:Zv w N wx b v0 v1 v2 v3 v4 v5 v6 v7 v8 v9 v10 v11 v12 l) (k:cE wx wy):Zv w N wy b v0 v1 v2 v3 v4 v5 v6 v7 v8 v9 v10 v11 v12 l:=⟨h.box.on k,h.uD.bel k,h.bel.trans k,h.low.1,h.low.2.1,al h.low.2.2 k.size⟩
theorem Zv.next (h:Zv w N wx b v0 v1 v2 v3 v4 v5 v6 v7 v8 v9 v10 v11 v12 l) (hb:cE wx wy) {E:TypeId} {k:Nat} {u:Value} {L:List Nat} {ds:List (List Dat)} (ho:fp wy E k u L ds) (hn:∀x,mW u L x->wx.heap.size<=x) (o:Nat) {u0 u1 u2 u3 u4 u5 u6 u7 u8 u9 u10 u11 u12:Value} (hbx:SB (wy.setCell ⟨b,o,none⟩ u) b u0 u1 u2 u3 u4 u5 u6 u7 u8 u9 u10 u11 u12):Zv w N (wy.setCell ⟨b,o,none⟩ u) b u0 u1 u2 u3 u4 u5 u6 u7 u8 u9 u10 u11 u12 (l++[⟨E,k,u,L,ds⟩]):=by
 refine⟨hbx,(h.uD.snoc hb (e:=⟨E,k,u,L,ds⟩) ho h.low.2.2 hn).far h.low.2.1 o u,Below.setCell (h.bel.trans hb) h.low.1 u,h.low.1,h.low.2.1,?_⟩
 have h1:=hb.size
 have h2:=h.low.2.2
 simp only[World.size_setCell]
 omega
end
def waitsFor (ops:Array Oper) (j:Nat):List Nat:=match ops[j]? with
 | some o=>(o.after.toList.filter (fun e=>Region.binds .any e)).map (·.on)
 | none=>[]
def me (ops:Array Oper):Nat->List Nat->List Nat
 | 0,s=>s
 | f+1,s=>me ops f (s++s.flatMap (waitsFor ops)).eraseDups
def rf (u:Nat->Value):List (Option Tmp)->Nat->Act->Act
 | [],_,a=>a
 | d :: r,k,a=>rf u r (k+1) (a.put d (u k))
def SZ:List (Option Tmp)->Nat->List (Nat × Option Tmp)
 | [],_=>[]
 | d :: r,k=>(k,d) :: SZ r (k+1)
def iT (u:Nat->Value):List (Nat × Option Tmp)->Act->Act
 | [],a=>a
 | (k,d) :: r,a=>iT u r (a.put d (u k))
theorem Ah (u:Nat->Value):∀(l:List (Option Tmp)) (k:Nat) (a:Act),iT u (SZ l k) a=rf u l k a
 | [],_,_=>rfl
 | d :: r,k,a=>Ah u r (k+1) (a.put d (u k))
def rP (ops:Array Oper):List (Option Tmp):=ops.toList.map (·.dst)
def rj (u:Nat->Value) (i:Nat) (v:Value):Nat->Value:=fun j=>if j=i then v else u j
def Aj:List (Option Tmp)->Bool
 | []=>true
 | d :: r=>(d.isNone||r.all (fun e=>e != d))&&Aj r
def DF (ops:Array Oper) (m:Nat):Bool :=
 (List.range ops.size).all (fun j=>(waitsFor ops j).all (fun k=>decide (k<j)))&&Aj (rP ops)&&(List.range m).all (fun j=>(me ops 12 [m]).contains j)&&decide (ops.size=m+1)&&ops.toList.all (fun o=>o.guard.isNone)
theorem Al {u u':Nat->Value}:∀(l:List (Option Tmp)) (k:Nat) (a:Act),(∀j,k<=j->u j=u' j)->rf u l k a=rf u' l k a
 | [],_,_,_=>rfl
 | d :: r,k,a,h=>by
  simp only[rf]
  rw[h k (Nat.le_refl k)]
  exact Al r (k+1) _ (fun j hj=>h j aB)
theorem S2 (a:Act) (d:Option Tmp) (x v:Value):(a.put d x).put d v=a.put d v:=by
 cases d with
 | none=>rfl
 | some t=>simp[Act.put]
theorem EP {u:Nat->Value} {d:Option Tmp} (v:Value):∀(l:List (Option Tmp)) (k:Nat) (a:Act),(d.isNone||l.all (fun e=>e != d))=true->(rf u l k a).put d v=rf u l k (a.put d v)
 | [],_,_,_=>rfl
 | e :: r,k,a,h=>by
  simp only[rf]
  have hr:(d.isNone||r.all (fun e=>e != d))=true:=by
   cases hd:d.isNone
   ·
    simp only[hd,Bool.false_or,List.all_cons,Bool.and_eq_true]at h |-
    exact h.2
   ·
    rfl
  rw[EP v r (k+1) _ hr]
  congr 1
  refine Act.put_comm a _ _ fun t ht hd=>?_
  subst hd
  simp[ht]at h
theorem Am {u:Nat->Value} (v:Value):∀(l:List (Option Tmp)) (k i:Nat) (d:Option Tmp) (a:Act),Aj l=true->l[i]?=some d->(rf u l k a).put d v=rf (rj u (k+i) v) l k a
 | [],_,_,_,_,_,h=>by simp at h
 | e :: r,k,0,d,a,hp,h=>by
  obtain rfl:e=d:=by simpa using h
  simp only[Aj,Bool.and_eq_true]at hp
  simp only[rf]
  rw[EP v r (k+1) _ hp.1,S2]
  have e2:rj u (k+0) v k=v:=by simp[rj]
  rw[e2]
  exact Al r (k+1) _ (fun j hj=>by simp only[rj];rw[if_neg aB])
 | e :: r,k,i+1,d,a,hp,h=>by
  simp only[Aj,Bool.and_eq_true]at hp
  simp only[rf]
  rw[Am v r (k+1) i d _ hp.2 bM,show k+1+i=k+(i+1) by omega]
  have e2:rj u (k+(i+1)) v k=u k:=by simp only[rj];rw[if_neg aB]
  rw[e2]
theorem Om (a:Act) (d:Option Tmp):a.put d ((d.map (fun t=>a.tmps.getD t undef)).getD undef)=a:=by
 cases d with
 | none=>rfl
 | some t =>
  simp only[Act.put,Option.map_some,Option.getD_some]
  congr 1
  refine Array.ext aK fun i h1 h2=>?_
  rw[Array.getElem_setIfInBounds (by simpa using h2)]
  split
  ·
   rename_i e
   subst e
   simp[h2]
  ·
   rfl
theorem xX (a:Act):∀(l:List (Option Tmp)) (k:Nat) (u:Nat->Value),(∀i d,l[i]?=some d->u (k+i)=(d.map (fun t=>a.tmps.getD t undef)).getD undef)->rf u l k a=a
 | [],_,_,_=>rfl
 | d :: r,k,u,h=>by
  simp only[rf]
  have h0:=h 0 d aK
  rw[Nat.add_zero]at h0
  rw[h0,Om]
  exact xX a r (k+1) u (fun i e he=>by rw[show k+1+i=k+(i+1) by omega];exact h (i+1) e (by simpa using he))
theorem tP {p p':Nat->Bool}:∀{l:List Nat} {i:Nat},i∈l->p i=true->p' i=false->(∀j,p' j=true->p j=true)->l.countP p'<l.countP p
 | x :: r,i,hm,h1,h2,h=>by
  rw[List.countP_cons,List.countP_cons]
  rcases List.mem_cons.1 hm with rfl | hm
  ·
   have:=List.countP_mono_left (l:=r) (fun j _ hj=>h j hj)
   simp only[h1,h2,if_true,Bool.false_eq_true,if_false]
   omega
  ·
   have:=tP hm h1 h2 h
   cases q:p' x
   ·
    simp only[Bool.false_eq_true,if_false]
    split <;> omega
   ·
    simp only[h x q,if_true]
    omega
section
variable {P:Program} {ops:Array Oper} {Q:Exit->Act->World->Prop}
def rQ (ops:Array Oper) (listed:Array Bool):Prop:=∀j,listed.getD j false=true->∀k∈waitsFor ops j,listed.getD k false=true
theorem kz {listed:Array Bool} (hc:rQ ops listed):∀(f:Nat) (s:List Nat),(∀j∈s,listed.getD j false=true)->∀j∈me ops f s,listed.getD j false=true
 | 0,_,h,j,hj=>h j hj
 | f+1,s,h,j,hj=>kz hc f _ (fun i hi=>by
   rw[List.mem_eraseDups,List.mem_append]at hi
   rcases hi with hi | hi
   ·
    exact h i hi
   ·
    obtain⟨k,hk,hki⟩:=List.mem_flatMap.1 hi
    exact hc k (h k hk) i hki) j hj
theorem tq {j:Nat} {listed:Array Bool} (h:j∈Region.ready .any ops listed):∀k∈waitsFor ops j,listed.getD k false=true:=by
 obtain⟨-,o,ho,hall⟩:=mem_ready.1 h
 intro k hk
 unfold waitsFor at hk
 rw[ho]at hk
 simp only[List.mem_map,List.mem_filter,Array.mem_toList_iff]at hk
 obtain⟨e,⟨he,hb⟩,rfl⟩:=hk
 exact hall e he hb
theorem fH {l:Array Bool} {j:Nat} (h:j<l.size) (d:Bool):l.getD j d=l[j]:=by simp[h]
theorem mh {listed:Array Bool} {i:Nat} (hc:rQ ops listed) (hr:i∈Region.ready .any ops listed):rQ ops (listed.setIfInBounds i true):=by
 intro j hj k hk
 refine getD_set_true ?_
 by_cases h:i=j
 ·
  subst h
  exact tq hr k hk
 ·
  rw[getD_set_ne false h]at hj
  exact hc j hj k hk
theorem ready_nil {listed:Array Bool} (hw:∀j,j<ops.size->∀k∈waitsFor ops j,k<j) (hs:listed.size=ops.size) (hr:Region.ready .any ops listed=[]):∀(n j:Nat),j<n->j<ops.size->listed.getD j false=true
 | 0,_,h,_=>by omega
 | n+1,j,h,hj=>by
  cases hb:listed.getD j false with
  | true=>rfl
  | false =>
   exfalso
   have hm:j∈Region.ready .any ops listed:=by
    refine mem_ready.2 ⟨by rw[fH aB]at hb |-;exact hb,ops[j],Array.getElem?_eq_getElem hj,fun e he hbn=>?_⟩
    have hk:e.on∈waitsFor ops j:=by
     unfold waitsFor
     rw[Array.getElem?_eq_getElem hj]
     exact List.mem_map.2 ⟨e,List.mem_filter.2 ⟨Array.mem_toList_iff.2 he,hbn⟩,rfl⟩
    have:=hw j hj _ hk
    exact ready_nil hw hs hr n e.on aB aB
   rw[hr]at hm
   cases hm
theorem xh {X Y:Prop} {b:Bool} (hG:X\/(Y/\b=false)) (h:b=true):X:=hG.resolve_right fun q=>by rw[h]at q;cases q.2
end
def p8 (dep:Nat->List Nat) (j:Nat) (u:Nat->Value):Nat->Value:=fun k=>if k=j\/(dep j).contains k=true then u k else undef
def WJ (ops:Array Oper) (dep:Nat->List Nat) (m:Nat):Bool:=(List.range m).all (fun j=>(dep j).all (fun k=>(me ops 12 (waitsFor ops j)).contains k))
theorem J6 {dep:Nat->List Nat} {i j:Nat} {u:Nat->Value} {v:Value} (hj:j≠i) (hd:(dep j).contains i=false):p8 dep j (rj u i v)=p8 dep j u:=by
 funext k
 unfold p8
 by_cases h:k=j\/(dep j).contains k=true
 ·
  rw[if_pos h,if_pos h]
  unfold rj
  rw[if_neg]
  rintro rfl
  rcases h with h | h
  ·
   exact hj h.symm
  ·
   rw[hd]at h;cases h
 ·
  rw[if_neg h,if_neg h]
section
variable {P:Program} {ops:Array Oper} {Q:Exit->Act->World->Prop}
def StU (ops:Array Oper) (dep:Nat->List Nat) (φ:Nat->(Nat->Value)->World->Prop) (G0 G1:World->Prop) (p:Nat) (base:Act) (listed:Array Bool) (a:Act) (w:World):Prop :=
 ∃u,a=rf u (rP ops) 0 base/\(listed.getD p false=false->G0 w)/\(listed.getD p false=true->G1 w)/\∀j,listed.getD j false=true->φ j (p8 dep j u) w
def Ao (P:Program) (ops:Array Oper) (Q:Exit->Act->World->Prop) (dep:Nat->List Nat) (φ:Nat->(Nat->Value)->World->Prop) (R:World->World->Prop) (G0 G1:World->Prop) (p:Nat) (T:(Nat->Value)->Act) (i:Nat) (o:Oper):Prop :=
 ∀(u:Nat->Value) (w:World),G0 w\/(G1 w/\(me ops 12 [p]).contains i=false)->(∀j,(me ops 12 (waitsFor ops i)).contains j=true->φ j (p8 dep j u) w)->∀K:Act->World->Prop,
  Shut (∀v w',R w w'->φ i (p8 dep i (rj u i v)) w'->K ((T u).put o.dst v) w')->Oper.wp P o (T u) w K Q
theorem GM {ops:Array Oper} {dep:Nat->List Nat} {φ:Nat->(Nat->Value)->World->Prop} {R:World->World->Prop} {G0 G1:World->Prop} {p:Nat} {T:(Nat->Value)->Act} {i m:Nat} (h:m<=i):∀j,i<=j->j<m->∀o,ops[j]?=some o->j≠p->Ao P ops Q dep φ R G0 G1 p T j o:=fun j h1 h2=>by omega
theorem ED {ops:Array Oper} {dep:Nat->List Nat} {φ:Nat->(Nat->Value)->World->Prop} {R:World->World->Prop} {G0 G1:World->Prop} {p p2:Nat} {T:(Nat->Value)->Act} {m:Nat}
  (hs:∀j,p2<=j->j<m->∀o,ops[j]?=some o->j≠p->Ao P ops Q dep φ R G0 G1 p T j o) (h2:p2=p+1:=by rfl):∀j,p<=j->j<m->∀o,ops[j]?=some o->j≠p->Ao P ops Q dep φ R G0 G1 p T j o:=fun j h1 h3 o ho hp=>hs j aB h3 o ho hp
theorem gj {ops:Array Oper} {dep:Nat->List Nat} {φ:Nat->(Nat->Value)->World->Prop} {R:World->World->Prop} {G0 G1:World->Prop} {p:Nat} {T:(Nat->Value)->Act} {i i2 m:Nat} {o:Oper} (ho:ops[i]?=some o) (h:Ao P ops Q dep φ R G0 G1 p T i o)
  (hs:∀j,i2<=j->j<m->∀o,ops[j]?=some o->j≠p->Ao P ops Q dep φ R G0 G1 p T j o) (hi:i2=i+1:=by rfl):∀j,i<=j->j<m->∀o,ops[j]?=some o->j≠p->Ao P ops Q dep φ R G0 G1 p T j o:=fun j h1 h2 o' ho' hp=>by
 rcases Nat.lt_or_ge i j with h3 | h3
 ·
  exact hs j aB h2 o' ho' hp
 ·
  obtain rfl:j=i:=by omega
  rw[ho]at ho'
  obtain rfl:=Option.some.inj ho'
  exact h
theorem xU {id:Nat} {base:Act} {w:World} (m p:Nat) (dep:Nat->List Nat) (φ:Nat->(Nat->Value)->World->Prop) (R R':World->World->Prop) (G0 G1:World->Prop) (ds:List (Nat × Option Tmp)) {op ol:Oper} (hds:SZ (rP ops) 0=ds)
  (hf:DF ops m=true) (hdp:WJ ops dep m=true) (hm:P.follows .mixedOrders=true) (hpm:p<m) (hG:G0 w.drew) (hR:∀j (v:Nat->Value) w w',R w w'->φ j v w->φ j v w') (hR':∀j (v:Nat->Value) w w',j≠p->R' w w'->φ j v w->φ j v w') (hG0:∀w w',R w w'->G0 w->G0 w') (hG1:∀w w',R w w'->G1 w->G1 w')
  (hop:ops[p]?=some op) (hol:ops[m]?=some ol)
  (hstep:∀i,0<=i->i<m->∀o,ops[i]?=some o->i≠p->Ao P ops Q dep φ R G0 G1 p (fun u=>iT u ds base) i o)
  (hp:∀(u:Nat->Value) (w:World),G0 w->(∀j,(me ops 12 (waitsFor ops p)).contains j=true->φ j (p8 dep j u) w)->∀K:Act->World->Prop,
   Shut (∀v w',R' w w'->G1 w'->φ p (p8 dep p (rj u p v)) w'->K ((iT u ds base).put op.dst v) w') ->
   Oper.wp P op (iT u ds base) w K Q)
  (hlast:∀(u:Nat->Value) (w:World),G1 w->(∀j,j<m->φ j (p8 dep j u) w)->∀K:Act->World->Prop,
   Shut (∀v w',Q .normal ((iT u ds base).put ol.dst v) w'->K ((iT u ds base).put ol.dst v) w') ->
   Oper.wp P ol (iT u ds base) w K Q):(Code.region id ops true).wp P Q base w:=by
 subst hds
 simp only[Ah]at hstep hp hlast
 unfold WJ at hdp
 simp only[List.all_eq_true,List.mem_range]at hdp
 unfold DF at hf
 simp only[Bool.and_eq_true,List.all_eq_true,List.mem_range,decide_eq_true_eq]at hf
 obtain⟨⟨⟨⟨hw,hap⟩,hall⟩,hsz⟩,hgd⟩:=hf
 have plain:∀(i:Nat) (o:Oper) (y:Nat->Option Bool),ops[i]?=some o->Region.wanted o y=true:=fun i o y ho=>by
  have h1:=hgd o (Array.mem_toList_iff.2 (Array.mem_of_getElem? ho))
  unfold Region.wanted
  cases hq:o.guard with
  | none=>rfl
  | some q=>rw[hq]at h1;cases h1
 have hlt:∀j,j<ops.size->∀k∈waitsFor ops j,k<j:=fun j hj k hk=>hw j hj k hk
 have hmem:∀listed:Array Bool,rQ ops listed->listed.getD m false=true->∀j,j<m->listed.getD j false=true:=fun listed hc h j hj =>
  kz hc 12 [m] (fun k hk=>by rw[List.mem_singleton.1 hk];exact h) j (by have:=hall j hj;simpa using this)
 have key:∀(fuel:Nat) (listed:Array Bool) (a:Act) (w:World),listed.size=ops.size->rQ ops listed->listed.getD m false=false->StU ops dep φ G0 G1 p base listed a w->(List.range ops.size).countP (fun j=>!listed.getD j true)<=fuel->wpAny P .any ops Q fuel listed a w:=by
  intro fuel
  induction fuel with
  | zero =>
   intro listed a w hs hc hl hI hn
   exfalso
   have h0:(List.range ops.size).countP (fun j=>!listed.getD j true)=0:=aB
   rw[List.countP_eq_zero]at h0
   have:=h0 m (List.mem_range.2 aB)
   rw[fH aB]at this hl
   rw[hl]at this
   exact this rfl
  | succ fuel ih =>
   intro listed a w hs hc hl hI hn
   refine⟨fun hr=>?_,fun i hi=>?_⟩
   ·
    have:=ready_nil hlt hs hr (m+1) m aB aB
    rw[this]at hl
    cases hl
   ·
    obtain⟨hjun,o,ho,-⟩:=mem_ready.1 hi
    have hi1:i<ops.size:=(Array.getElem?_eq_some_iff.1 ho).1
    have hif:listed.getD i false=false:=by rw[fH aB]at hjun |-;exact hjun
    obtain⟨u,rfl,hg0,hg1,hφ⟩:=hI
    have hd:(rP ops)[i]?=some o.dst:=by
     unfold rP
     rw[List.getElem?_map,Array.getElem?_toList,ho]
     rfl
    have hput:∀v,(rf u (rP ops) 0 base).put o.dst v=rf (rj u i v) (rP ops) 0 base:=fun v=>by
     have:=Am (u:=u) v (rP ops) 0 i o.dst base hap hd
     rwa [Nat.zero_add]at this
    have hs2:(listed.setIfInBounds i true).size=ops.size:=by simpa using hs
    have hself:(listed.setIfInBounds i true).getD i false=true:=by rw[fH aB,Array.getElem_setIfInBounds_self]
    have hcn:(List.range ops.size).countP (fun j=>!(listed.setIfInBounds i true).getD j true)<=fuel:=by
     have:(List.range ops.size).countP (fun j=>!(listed.setIfInBounds i true).getD j true)<(List.range ops.size).countP (fun j=>!listed.getD j true):=by
      refine tP (List.mem_range.2 hi1) (by rw[hjun];rfl) ?_ (fun j hj=>?_)
      ·
       rw[fH aB,Array.getElem_setIfInBounds_self]
       rfl
      ·
       by_cases h:i=j
       ·
        subst h;rw[hjun];rfl
       ·
        rw[getD_set_ne true h]at hj;exact hj
     omega
    have hjm:∀j,listed.getD j false=true->j<m:=fun j hj=>by
     rcases Nat.lt_or_ge j ops.size with h | h
     ·
      rcases Nat.lt_or_ge j m with h2 | h2
      ·
       exact h2
      ·
       obtain rfl:j=m:=by omega
       rw[hl]at hj;cases hj
     ·
      rw[Array.getD_eq_getD_getElem?,Array.getElem?_eq_none aB]at hj
      cases hj
    have ahn:∀j,listed.getD j false=true->(dep j).contains i=false:=fun j hj=>by
     cases hb:(dep j).contains i with
     | false=>rfl
     | true =>
      have h3:=hdp j (hjm j hj) i (by simpa using hb)
      have h4:=kz hc 12 (waitsFor ops j) (fun k hk=>hc j hj k hk) i (by simpa using h3)
      rw[hif]at h4;cases h4
    have Oo:∀j,(me ops 12 (waitsFor ops i)).contains j=true->φ j (p8 dep j u) w:=fun j hj=>hφ j (kz hc 12 _ (tq hi) j bI)
    have WK:∀(v:Value) w',φ i (p8 dep i (rj u i v)) w'->(∀j,j≠i->listed.getD j false=true->φ j (p8 dep j u) w')->∀j,(listed.setIfInBounds i true).getD j false=true->φ j (p8 dep j (rj u i v)) w':=fun v w' hv hk j hj=>by
     by_cases h:i=j
     ·
      subst h
      exact hv
     ·
      rw[getD_set_ne false h]at hj
      rw[J6 (fun e=>h e.symm) (ahn j hj)]
      exact hk j (fun e=>h e.symm) hj
    by_cases him:i=m
    ·
     subst him
     have Zw:o=ol:=by rw[ho]at hol;exact Option.some.inj hol
     subst Zw
     have I0:∀j,j<i->listed.getD j false=true:=fun j hj=>by
      have h3:=hmem _ (mh hc hi) hself j hj
      rwa [getD_set_ne false aB]at h3
     have ac2:∀j,j<i->φ j (p8 dep j u) w:=fun j hj=>hφ j (I0 j hj)
     have I1:∀j,j<ops.size->(listed.setIfInBounds i true).getD j false=true:=fun j hj=>by
      rcases Nat.lt_or_ge j i with h | h
      ·
       exact hmem _ (mh hc hi) hself j h
      ·
       obtain rfl:j=i:=by omega
       exact hself
     have hnil:Region.ready .any ops (listed.setIfInBounds i true)=[]:=by
      refine List.eq_nil_iff_forall_not_mem.2 fun k hk=>?_
      obtain⟨h1,ok,hok,-⟩:=mem_ready.1 hk
      have hk1:k<ops.size:=(Array.getElem?_eq_some_iff.1 hok).1
      have h2:=I1 k hk1
      rw[fH aB]at h1 h2
      rw[h2]at h1
      cases h1
     exact wpOp_step ho fun K' hK=>(if_pos (plain _ _ _ ho)).mpr <| hlast u w (hg1 (I0 p hpm)) ac2 K' (fun v w' hq=>hK _ _ (wpAny_done hnil hq _))
    ·
     have S3:(listed.setIfInBounds i true).getD m false=false:=by rw[getD_set_ne false him];exact hl
     by_cases hip:i=p
     ·
      subst hip
      have hop':o=op:=by rw[ho]at hop;exact Option.some.inj hop
      subst hop'
      refine wpOp_step ho fun K' hK=>(if_pos (plain _ _ _ ho)).mpr <| hp u w (hg0 hif) Oo K' (fun v w' hRw hGw hv=>hK _ _ ?_)
      exact ih _ _ _ hs2 (mh hc hi) S3 ⟨rj u i v,hput v,fun h=>(by rw[hself]at h;cases h),fun _=>hGw,WK v w' hv (fun j hj hl=>hR' j _ _ _ hj hRw (hφ j hl))⟩ hcn
     ·
      refine wpOp_step ho fun K' hK=>(if_pos (plain _ _ _ ho)).mpr <| hstep i (Nat.zero_le _) aB o ho hip u w ?_ Oo K' (fun v w' hRw hv=>hK _ _ ?_)
      ·
       cases hpl:listed.getD p false with
       | false=>exact Or.inl (hg0 hpl)
       | true =>
        refine Or.inr ⟨hg1 hpl,?_⟩
        cases hb:(me ops 12 [p]).contains i with
        | false=>rfl
        | true =>
         have h3:=kz hc 12 [p] (fun k hk=>by rw[List.mem_singleton.1 hk];exact hpl) i (by simpa using hb)
         rw[hif]at h3
         cases h3
      ·
       have hpe:(listed.setIfInBounds i true).getD p false=listed.getD p false:=getD_set_ne false hip
       exact ih _ _ _ hs2 (mh hc hi) S3 ⟨rj u i v,hput v,fun h=>hG0 _ _ hRw (hg0 (by rw[hpe]at h;exact h)),fun h=>hG1 _ _ hRw (hg1 (by rw[hpe]at h;exact h)),WK v w' hv (fun j hj hl=>hR j _ _ _ hRw (hφ j hl))⟩ hcn
 have hrep:∀j,(Array.replicate ops.size false).getD j false=true->False:=fun j hj=>by
  by_cases h:j<ops.size
  ·
   rw[fH bM]at hj;simp at hj
  ·
   simp[Array.getElem?_eq_none (show (Array.replicate ops.size false).size<=j by simpa using h)]at hj
 refine wp_region_any hm (key ops.size _ _ _ aK (fun j hj=>(hrep j hj).elim) ?_ ⟨fun j=>(((rP ops)[j]?.getD none).map (fun t=>base.tmps.getD t undef)).getD undef,?_,fun _=>hG,fun h=>(hrep p h).elim,fun j hj=>(hrep j hj).elim⟩ ?_)
 ·
  rw[fH aD];simp
 ·
  symm
  refine xX base (rP ops) 0 _ fun i d hd=>?_
  simp only[Nat.zero_add,hd,Option.getD_some]
 ·
  have:=List.countP_le_length (l:=List.range ops.size) (p:=fun j=>!(Array.replicate ops.size false).getD j true)
  simpa using this
theorem iV {ops:Array Oper} {X:Nat->Prop} {i:Nat} (hf:∀j,(me ops 12 (waitsFor ops i)).contains j=true->X j) (j:Nat) (h:(me ops 12 (waitsFor ops i)).contains j=true):X j:=hf j h
end
def updB (s:Nat->Bool) (i:Nat):Nat->Bool:=fun j=>if j=i then true else s j
theorem Oq {listed:Array Bool} {i:Nat} (hi:i<listed.size):(fun j=>(listed.setIfInBounds i true).getD j false)=updB (fun j=>listed.getD j false) i:=by
 funext j
 unfold updB
 by_cases h:j=i
 ·
  subst h
  rw[if_pos rfl,fH br,Array.getElem_setIfInBounds_self]
 ·
  rw[if_neg h]
  exact getD_set_ne false (fun e=>h e.symm)
section
variable {P:Program} {ops:Array Oper} {Q:Exit->Act->World->Prop}
end
def ER (A C:List Nat) (s:Nat->Bool) (u:Nat->Value) (w:World):Prop :=
 (∀a,a∈A++C->s a=true->∀b,(u a).ownBlock=some b->b<w.heap.size)/\∀a,a∈A->∀c,c∈C->s a=true->s c=true->∀b,(u a).ownBlock=some b->(u c).ownBlock≠some b
theorem ER.none {A C:List Nat} {u:Nat->Value} {w:World}:ER A C (fun _=>false) u w:=⟨fun _ _ h=>(by cases h),fun _ _ _ _ h=>(by cases h)⟩
theorem ER.on {A C:List Nat} {s:Nat->Bool} {u:Nat->Value} {w w':World} (h:ER A C s u w) (hs:w.heap.size<=w'.heap.size):ER A C s u w':=⟨fun a ha hb b hc=>ak (h.1 a ha hb b hc) hs,h.2⟩
theorem ER.skip {A C:List Nat} {s:Nat->Bool} {u:Nat->Value} {w w':World} {i:Nat} {v:Value} (hi:(A++C).contains i=false) (h:ER A C s u w) (hs:w.heap.size<=w'.heap.size):ER A C (updB s i) (rj u i v) w':=by
 have ne:∀a,a∈A++C->a≠i:=fun a ha e=>by subst e;rw[List.contains_iff_mem.2 ha]at hi;cases hi
 have e1:∀a,a∈A++C->updB s i a=s a:=fun a ha=>if_neg (ne a ha)
 have e2:∀a,a∈A++C->rj u i v a=u a:=fun a ha=>if_neg (ne a ha)
 refine⟨fun a ha hb b hc=>?_,fun a ha c hc h1 h2 b h3 h4=>?_⟩
 ·
  rw[e1 a ha]at hb
  rw[e2 a ha]at hc
  exact ak (h.1 a ha hb b hc) hs
 ·
  have m1:=List.mem_append.2 (Or.inl ha:a∈A\/a∈C)
  have m2:=List.mem_append.2 (Or.inr hc:c∈A\/c∈C)
  rw[e1 a m1]at h1
  rw[e1 c m2]at h2
  rw[e2 a m1]at h3
  rw[e2 c m2]at h4
  exact h.2 a ha c hc h1 h2 b h3 h4
section
variable {P:Program} {ops:Array Oper} {Q:Exit->Act->World->Prop}
def ES (P:Program) (ops:Array Oper) (Q:Exit->Act->World->Prop) (J:(Nat->Bool)->(Nat->Value)->World->Prop) (T:(Nat->Value)->Act) (i:Nat) (o:Oper):Prop :=
 ∀(u:Nat->Value) (w:World) (s:Nat->Bool),s i=false->(∀j,(me ops 12 (waitsFor ops i)).contains j=true->s j=true)->(∀k,s k=true->∀j,(waitsFor ops k).contains j=true->s j=true)->J s u w->∀K:Act->World->Prop,
  Shut (∀v w',J (updB s i) (rj u i v) w'->K ((T u).put o.dst v) w')->Oper.wp P o (T u) w K Q
theorem gD {J:(Nat->Bool)->(Nat->Value)->World->Prop} {T:(Nat->Value)->Act} {i m:Nat} (h:m<=i):∀j,i<=j->j<m->∀o,ops[j]?=some o->ES P ops Q J T j o:=fun j h1 h2=>by omega
theorem cB {J:(Nat->Bool)->(Nat->Value)->World->Prop} {T:(Nat->Value)->Act} {i i2 m:Nat} {o:Oper} (ho:ops[i]?=some o) (h:ES P ops Q J T i o)
  (hs:∀j,i2<=j->j<m->∀o,ops[j]?=some o->ES P ops Q J T j o) (hi:i2=i+1:=by rfl):∀j,i<=j->j<m->∀o,ops[j]?=some o->ES P ops Q J T j o:=fun j h1 h2 o' ho'=>by
 rcases Nat.lt_or_ge i j with h3 | h3
 ·
  exact hs j aB h2 o' ho'
 ·
  obtain rfl:j=i:=by omega
  rw[ho]at ho'
  obtain rfl:=Option.some.inj ho'
  exact h
theorem eP {id:Nat} {base:Act} {w:World} (m:Nat) (J:(Nat->Bool)->(Nat->Value)->World->Prop) (ds:List (Nat × Option Tmp)) {ol:Oper} (hds:SZ (rP ops) 0=ds)
  (hf:DF ops m=true) (hm:P.follows .mixedOrders=true) (hJ:∀u,J (fun _=>false) u w.drew) (hol:ops[m]?=some ol)
  (hstep:∀i,0<=i->i<m->∀o,ops[i]?=some o->ES P ops Q J (fun u=>iT u ds base) i o)
  (hlast:∀(u:Nat->Value) (w:World),(∃s:Nat->Bool,(∀j,j<m->s j=true)/\J s u w)->∀K:Act->World->Prop,
   Shut (∀v w',Q .normal ((iT u ds base).put ol.dst v) w'->K ((iT u ds base).put ol.dst v) w') ->
   Oper.wp P ol (iT u ds base) w K Q):(Code.region id ops true).wp P Q base w:=by
 subst hds
 simp only[Ah]at hstep hlast
 unfold DF at hf
 simp only[Bool.and_eq_true,List.all_eq_true,List.mem_range,decide_eq_true_eq]at hf
 obtain⟨⟨⟨⟨hw,hap⟩,hall⟩,hsz⟩,hgd⟩:=hf
 have plain:∀(i:Nat) (o:Oper) (y:Nat->Option Bool),ops[i]?=some o->Region.wanted o y=true:=fun i o y ho=>by
  have h1:=hgd o (Array.mem_toList_iff.2 (Array.mem_of_getElem? ho))
  unfold Region.wanted
  cases hq:o.guard with
  | none=>rfl
  | some q=>rw[hq]at h1;cases h1
 have hlt:∀j,j<ops.size->∀k∈waitsFor ops j,k<j:=fun j hj k hk=>hw j hj k hk
 have hmem:∀listed:Array Bool,rQ ops listed->listed.getD m false=true->∀j,j<m->listed.getD j false=true:=fun listed hc h j hj =>
  kz hc 12 [m] (fun k hk=>by rw[List.mem_singleton.1 hk];exact h) j (by have:=hall j hj;simpa using this)
 have key:∀(fuel:Nat) (listed:Array Bool) (a:Act) (w:World),listed.size=ops.size->rQ ops listed->listed.getD m false=false->(∃u,a=rf u (rP ops) 0 base/\J (fun j=>listed.getD j false) u w)->(List.range ops.size).countP (fun j=>!listed.getD j true)<=fuel->wpAny P .any ops Q fuel listed a w:=by
  intro fuel
  induction fuel with
  | zero =>
   intro listed a w hs hc hl hI hn
   exfalso
   have h0:(List.range ops.size).countP (fun j=>!listed.getD j true)=0:=aB
   rw[List.countP_eq_zero]at h0
   have:=h0 m (List.mem_range.2 aB)
   rw[fH aB]at this hl
   rw[hl]at this
   exact this rfl
  | succ fuel ih =>
   intro listed a w hs hc hl hI hn
   refine⟨fun hr=>?_,fun i hi=>?_⟩
   ·
    have:=ready_nil hlt hs hr (m+1) m aB aB
    rw[this]at hl
    cases hl
   ·
    obtain⟨hjun,o,ho,-⟩:=mem_ready.1 hi
    have hi1:i<ops.size:=(Array.getElem?_eq_some_iff.1 ho).1
    have hif:listed.getD i false=false:=by rw[fH aB]at hjun |-;exact hjun
    obtain⟨u,rfl,hJ0⟩:=hI
    have hd:(rP ops)[i]?=some o.dst:=by
     unfold rP
     rw[List.getElem?_map,Array.getElem?_toList,ho]
     rfl
    have hput:∀v,(rf u (rP ops) 0 base).put o.dst v=rf (rj u i v) (rP ops) 0 base:=fun v=>by
     have:=Am (u:=u) v (rP ops) 0 i o.dst base hap hd
     rwa [Nat.zero_add]at this
    have hs2:(listed.setIfInBounds i true).size=ops.size:=by simpa using hs
    have hself:(listed.setIfInBounds i true).getD i false=true:=by rw[fH aB,Array.getElem_setIfInBounds_self]
    have hcn:(List.range ops.size).countP (fun j=>!(listed.setIfInBounds i true).getD j true)<=fuel:=by
     have:(List.range ops.size).countP (fun j=>!(listed.setIfInBounds i true).getD j true)<(List.range ops.size).countP (fun j=>!listed.getD j true):=by
      refine tP (List.mem_range.2 hi1) (by rw[hjun];rfl) ?_ (fun j hj=>?_)
      ·
       rw[fH aB,Array.getElem_setIfInBounds_self]
       rfl
      ·
       by_cases h:i=j
       ·
        subst h;rw[hjun];rfl
       ·
        rw[getD_set_ne true h]at hj;exact hj
     omega
    have hjm:∀j,listed.getD j false=true->j<m:=fun j hj=>by
     rcases Nat.lt_or_ge j ops.size with h | h
     ·
      rcases Nat.lt_or_ge j m with h2 | h2
      ·
       exact h2
      ·
       obtain rfl:j=m:=by omega
       rw[hl]at hj;cases hj
     ·
      rw[Array.getD_eq_getD_getElem?,Array.getElem?_eq_none aB]at hj
      cases hj
    by_cases him:i=m
    ·
     subst him
     have Zw:o=ol:=by rw[ho]at hol;exact Option.some.inj hol
     subst Zw
     have I0:∀j,j<i->listed.getD j false=true:=fun j hj=>by
      have h3:=hmem _ (mh hc hi) hself j hj
      rwa [getD_set_ne false aB]at h3
     have I1:∀j,j<ops.size->(listed.setIfInBounds i true).getD j false=true:=fun j hj=>by
      rcases Nat.lt_or_ge j i with h | h
      ·
       exact hmem _ (mh hc hi) hself j h
      ·
       obtain rfl:j=i:=by omega
       exact hself
     have hnil:Region.ready .any ops (listed.setIfInBounds i true)=[]:=by
      refine List.eq_nil_iff_forall_not_mem.2 fun k hk=>?_
      obtain⟨h1,ok,hok,-⟩:=mem_ready.1 hk
      have hk1:k<ops.size:=(Array.getElem?_eq_some_iff.1 hok).1
      have h2:=I1 k hk1
      rw[fH aB]at h1 h2
      rw[h2]at h1
      cases h1
     exact wpOp_step ho fun K' hK=>(if_pos (plain _ _ _ ho)).mpr <| hlast u w ⟨_,I0,hJ0⟩ K' (fun v w' hq=>hK _ _ (wpAny_done hnil hq _))
    ·
     have S3:(listed.setIfInBounds i true).getD m false=false:=by rw[getD_set_ne false him];exact hl
     refine wpOp_step ho fun K' hK=>(if_pos (plain _ _ _ ho)).mpr <| hstep i (Nat.zero_le _) aB o ho u w _ hif (fun j hj=>kz hc 12 _ (tq hi) j bI) (fun k hk j hj=>hc k hk j bI) hJ0 K' (fun v w' hJv=>hK _ _ ?_)
     exact ih _ _ _ hs2 (mh hc hi) S3 ⟨rj u i v,hput v,by rw[show (fun j=>(listed.setIfInBounds i true).getD j false)=updB (fun j=>listed.getD j false) i from Oq aB];exact hJv⟩ hcn
 have hrep:∀j,(Array.replicate ops.size false).getD j false=true->False:=fun j hj=>by
  by_cases h:j<ops.size
  ·
   rw[fH bM]at hj;simp at hj
  ·
   simp[Array.getElem?_eq_none (show (Array.replicate ops.size false).size<=j by simpa using h)]at hj
 refine wp_region_any hm (key ops.size _ _ _ aK (fun j hj=>(hrep j hj).elim) ?_ ⟨fun j=>(((rP ops)[j]?.getD none).map (fun t=>base.tmps.getD t undef)).getD undef,?_,(by rw[show (fun j=>(Array.replicate ops.size false).getD j false)=(fun _=>false)from funext fun j=>(by cases hq:(Array.replicate ops.size false).getD j false with | false=>rfl | true=>exact (hrep j hq).elim)];exact hJ _)⟩ ?_)
 ·
  rw[fH aD];simp
 ·
  symm
  refine xX base (rP ops) 0 _ fun i d hd=>?_
  simp only[Nat.zero_add,hd,Option.getD_some]
 ·
  have:=List.countP_le_length (l:=List.range ops.size) (p:=fun j=>!(Array.replicate ops.size false).getD j true)
  simpa using this
end
mutual
def Dat.ln:Dat->Nat
 | .int _=>0
 | .str _=>0
 | .bool _=>0
 | .row _ xs=>xs.length+Dat.Ot xs
def Dat.Ot:List (List Dat)->Nat
 | []=>0
 | ds :: r=>Dat.MV ds+Dat.Ot r
def Dat.MV:List Dat->Nat
 | []=>0
 | d :: r=>Dat.ln d+Dat.MV r
end
mutual
theorem Dat.ac4:∀d:Dat,d.ln<=d.wt
 | .int _=>by simp[Dat.ln]
 | .str _=>by simp[Dat.ln]
 | .bool _=>by simp[Dat.ln]
 | .row _ xs=>by
  have:=Dat.Ou xs
  simp only[Dat.ln,Dat.wt]
  omega
theorem Dat.Ou:∀l:List (List Dat),Dat.Ot l<=Dat.jE l
 | []=>by simp[Dat.Ot]
 | ds :: r=>by
  have h1:=Dat.GR ds
  have h2:=Dat.Ou r
  simp only[Dat.Ot,Dat.jE]
  omega
theorem Dat.GR:∀l:List Dat,Dat.MV l<=Dat.mg l
 | []=>by simp[Dat.MV]
 | d :: r=>by
  have h1:=Dat.ac4 d
  have h2:=Dat.GR r
  simp only[Dat.MV,Dat.mg]
  omega
end
abbrev ac5 (f:FuncId):Prop:=∀(xs:List cw) (S:Nat->Prop) (w:World) (A:Option Addr) (c:Nat),Row w S 6 A c (xs.map cw.D)->xs.length<=1048576 ->
 Calls Tryz.prog f #[.slice A xs.length c] w fun e w'=>∃v,e=.returned v/\fp w' 34 6 v [] (xs.map cw.D)/\(∀b,mW v [] b->w.heap.size<=b)/\cE w w'
theorem kM {w w9:World} {T:TypeId} {v9:Value} (hg:(w.alloc (.cells #[] T)).grownBy w9 (some w.heap.size)) (hw:∀b,v9.ownBlock=some b->(Value.slice (some ⟨w.heap.size,0,none⟩) 0 0).ownBlock=some b\/w.heap.size+1<=b):cE w w9/\∀b,mW v9 [] b->w.heap.size<=b:=by
 refine⟨Below.grown (show cE w (w.alloc (.cells #[] T))from bl) hg aK (fun k hk=>by have:=Option.some.inj hk;omega),fun b hb=>?_⟩
 rcases hb with hb | hb
 ·
  rcases hw b hb with e | e
  ·
   have:=Option.some.inj (show some w.heap.size=some b from e);omega
  ·
   omega
 ·
  cases hb
def OB (w:World) (b:Nat) (v0 v1 v2 v3 v4:Value):Prop:=b<w.heap.size/\(∀o,w.frozen? ⟨b,o,none⟩=false)/\w.cell? ⟨b,0,none⟩=some v0/\w.cell? ⟨b,1,none⟩=some v1/\w.cell? ⟨b,2,none⟩=some v2/\w.cell? ⟨b,3,none⟩=some v3/\w.cell? ⟨b,4,none⟩=some v4
section
variable {w w':World} {b:Nat} {v0 v1 v2 v3 v4:Value}
theorem OB.block (h:OB w b v0 v1 v2 v3 v4) (hs:w.heap.size<=w'.heap.size) (hb:w'.heap[b]?=w.heap[b]?):OB w' b v0 v1 v2 v3 v4:=by
 obtain⟨l,f,c0,c1,c2,c3,c4⟩:=h
 have e:∀o,w'.cell? ⟨b,o,none⟩=w.cell? ⟨b,o,none⟩:=fun o=>World.cell?_of_block hb
 exact⟨by omega,fun o=>(World.frozen?_of_block hb).trans (f o),(e 0).trans c0,(e 1).trans c1,(e 2).trans c2,(e 3).trans c3,(e 4).trans c4⟩
theorem OB.on (h:OB w b v0 v1 v2 v3 v4) (k:cE w w'):OB w' b v0 v1 v2 v3 v4:=h.block k.size (Below.block k b h.1)
theorem OB.new (w:World) (t:TypeId):OB (w.alloc (.cells #[v0,v1,v2,v3,v4] t)) w.heap.size v0 v1 v2 v3 v4 :=
 ⟨by simp,fun o=>by simp,by simp,by simp,by simp,by simp,by simp⟩
theorem OB.Dn (h:OB w b v0 v1 v2 v3 v4) (u:Value):OB (w.setCell ⟨b,0,none⟩ u) b u v1 v2 v3 v4:=by
 obtain⟨l,f,c0,c1,c2,c3,c4⟩:=h
 exact⟨by simpa using l,fun o=>by simp[f],by simp[c0,go_sem],by simp[c1,go_sem],by simp[c2,go_sem],by simp[c3,go_sem],by simp[c4,go_sem]⟩
theorem OB.Dq (h:OB w b v0 v1 v2 v3 v4) (u:Value):OB (w.setCell ⟨b,1,none⟩ u) b v0 u v2 v3 v4:=by
 obtain⟨l,f,c0,c1,c2,c3,c4⟩:=h
 exact⟨by simpa using l,fun o=>by simp[f],by simp[c0,go_sem],by simp[c1,go_sem],by simp[c2,go_sem],by simp[c3,go_sem],by simp[c4,go_sem]⟩
theorem OB.zT (h:OB w b v0 v1 v2 v3 v4) (u:Value):OB (w.setCell ⟨b,2,none⟩ u) b v0 v1 u v3 v4:=by
 obtain⟨l,f,c0,c1,c2,c3,c4⟩:=h
 exact⟨by simpa using l,fun o=>by simp[f],by simp[c0,go_sem],by simp[c1,go_sem],by simp[c2,go_sem],by simp[c3,go_sem],by simp[c4,go_sem]⟩
theorem OB.xg (h:OB w b v0 v1 v2 v3 v4) (u:Value):OB (w.setCell ⟨b,3,none⟩ u) b v0 v1 v2 u v4:=by
 obtain⟨l,f,c0,c1,c2,c3,c4⟩:=h
 exact⟨by simpa using l,fun o=>by simp[f],by simp[c0,go_sem],by simp[c1,go_sem],by simp[c2,go_sem],by simp[c3,go_sem],by simp[c4,go_sem]⟩
theorem OB.EA (h:OB w b v0 v1 v2 v3 v4) (u:Value):OB (w.setCell ⟨b,4,none⟩ u) b v0 v1 v2 v3 u:=by
 obtain⟨l,f,c0,c1,c2,c3,c4⟩:=h
 exact⟨by simpa using l,fun o=>by simp[f],by simp[c0,go_sem],by simp[c1,go_sem],by simp[c2,go_sem],by simp[c3,go_sem],by simp[c4,go_sem]⟩
end
structure td (w:World) (N:Nat) (wx:World) (b q r:Nat) (v0 v1 v2 v3 v4 v5 v6 v7 v8 v9 v10 v11 v12:Value) (s0 s1 s2 s3 s4 s5 s6 s7 s8 s9 s10 s11 s12:Value) (l:List GH):Prop where
 cl:Zv w N wx b v0 v1 v2 v3 v4 v5 v6 v7 v8 v9 v10 v11 v12 l
 sb:SB wx q s0 s1 s2 s3 s4 s5 s6 s7 s8 s9 s10 s11 s12
 rb:SB wx r (.slice none 0 0) (.slice none 0 0) (.slice none 0 0) (.slice none 0 0) (.string ByteArray.empty) (.int .i64 0) (.slice none 0 0) (.slice none 0 0) (.slice none 0 0) (.bool false) (.int .i64 0) (.int .i64 0) (.int .i64 0)
 ne:q≠b/\r≠b/\q<N/\r<N/\w.heap.size<=r
section
variable {w wx wy:World} {N b q r:Nat} {v0 v1 v2 v3 v4 v5 v6 v7 v8 v9 v10 v11 v12 s0 s1 s2 s3 s4 s5 s6 s7 s8 s9 s10 s11 s12:Value} {l:List GH} {e:GH}
theorem td.on (h:td w N wx b q r v0 v1 v2 v3 v4 v5 v6 v7 v8 v9 v10 v11 v12 s0 s1 s2 s3 s4 s5 s6 s7 s8 s9 s10 s11 s12 l) (k:cE wx wy):td w N wy b q r v0 v1 v2 v3 v4 v5 v6 v7 v8 v9 v10 v11 v12 s0 s1 s2 s3 s4 s5 s6 s7 s8 s9 s10 s11 s12 l:=⟨h.cl.on k,h.sb.on k,h.rb.on k,h.ne⟩
theorem td.next (h:td w N wx b q r v0 v1 v2 v3 v4 v5 v6 v7 v8 v9 v10 v11 v12 s0 s1 s2 s3 s4 s5 s6 s7 s8 s9 s10 s11 s12 l) (hb:cE wx wy) {E:TypeId} {k:Nat} {u:Value} {L:List Nat} {ds:List (List Dat)} (ho:fp wy E k u L ds) (hn:∀x,mW u L x->wx.heap.size<=x) (o:Nat) {u0 u1 u2 u3 u4 u5 u6 u7 u8 u9 u10 u11 u12:Value} (hbx:SB (wy.setCell ⟨b,o,none⟩ u) b u0 u1 u2 u3 u4 u5 u6 u7 u8 u9 u10 u11 u12):td w N (wy.setCell ⟨b,o,none⟩ u) b q r u0 u1 u2 u3 u4 u5 u6 u7 u8 u9 u10 u11 u12 s0 s1 s2 s3 s4 s5 s6 s7 s8 s9 s10 s11 s12 (l++[⟨E,k,u,L,ds⟩]) :=
 ⟨h.cl.next hb ho hn o hbx,(h.sb.on hb).far o u (fun e=>h.ne.1 e.symm),(h.rb.on hb).far o u (fun e=>h.ne.2.1 e.symm),h.ne⟩
theorem td.grow (h:td w N wx b q r v0 v1 v2 v3 v4 v5 v6 v7 v8 v9 v10 v11 v12 s0 s1 s2 s3 s4 s5 s6 s7 s8 s9 s10 s11 s12 (l++[e])) {wm:World} (hm:cE wx wm) (hg:wm.grownBy wy e.v.ownBlock) {e':GH} (ho:fp wy e'.E e'.k e'.v e'.L e'.ds) (hn:∀x,mW e'.v e'.L x->mW e.v e.L x\/wx.heap.size<=x) :
  SB wy b v0 v1 v2 v3 v4 v5 v6 v7 v8 v9 v10 v11 v12/\∀(o:Nat) (u:Value) {u0 u1 u2 u3 u4 u5 u6 u7 u8 u9 u10 u11 u12:Value},SB (wy.setCell ⟨b,o,none⟩ u) b u0 u1 u2 u3 u4 u5 u6 u7 u8 u9 u10 u11 u12->td w N (wy.setCell ⟨b,o,none⟩ u) b q r u0 u1 u2 u3 u4 u5 u6 u7 u8 u9 u10 u11 u12 s0 s1 s2 s3 s4 s5 s6 s7 s8 s9 s10 s11 s12 (l++[e']):=by
 have hlow:∀k,e.v.ownBlock=some k->N<=k:=fun k hk=>h.cl.uD.low e aK k (Or.inl hk)
 have hN:=h.cl.low
 have hs:=hm.size
 have hgs:=hg.size
 have old:∀k,k<N->k<wx.heap.size->wy.heap[k]?=wx.heap[k]?:=fun k hk hl=>(hg.block k aB (fun q=>by have:=hlow k q.symm;omega)).trans (Below.block hm k hl)
 have hbl:=h.cl.box.1
 have hql:=h.sb.1
 have hrl:=h.rb.1
 have B9:=h.cl.box.block aB (old b hN.2.1 hbl)
 have hB:cE w wy:=⟨hg.os.trans (hm.os.trans h.cl.bel.os),hg.tape.trans (hm.tape.trans h.cl.bel.tape),hg.output.trans (hm.output.trans h.cl.bel.output),by have:=h.cl.bel.size;omega,fun k hk=>(old k aB aB).trans (Below.block h.cl.bel k hk)⟩
 refine⟨B9,fun o u _ _ _ _ _ _ _ _ _ _ _ _ _ hbx=>⟨⟨hbx,(h.cl.uD.grow hm hg hN.2.2 ho hn).far hN.2.1 o u,Below.setCell hB hN.1 u,hN.1,hN.2.1,by simp only[World.size_setCell];omega⟩,(h.sb.block aB (old q h.ne.2.2.1 hql)).far o u (fun e=>h.ne.1 e.symm),(h.rb.block aB (old r h.ne.2.2.2.1 hrl)).far o u (fun e=>h.ne.2.1 e.symm),h.ne⟩⟩
end
theorem mv.weak {N M:Nat} {w:World} {l:List GH} (h:mv N w l) (hm:M<=N):mv M w l:=⟨h.own,fun e he b hb=>al hm (h.low e he b hb),h.sep⟩
def cz.its:cz->List cw | .mk _ _ _ i _=>i
def cz.kys:cz->List cw | .mk _ _ _ _ k=>k
theorem Dm:∀(l:List cz) (i:Nat) (h:i<l.length),l[i].its.length+l[i].kys.length<=Dat.Ot (l.map cz.D)
 | .mk a b c d e :: r,0,_=>by
  simp only[ag,cz.its,cz.kys,List.map_cons,Dat.Ot,cz.fU,Dat.MV,Dat.ln,aj]
  omega
 | x :: r,i+1,h=>by
  have:=Dm r i bM
  simp only[ah,List.map_cons,Dat.Ot]
  omega
theorem Dl:∀(l:List cA) (i:Nat) (h:i<l.length),l[i].fl.length<=Dat.Ot (l.map cA.D)
 | .mk a b c :: r,0,_=>by
  simp only[ag,cA.fl,List.map_cons,Dat.Ot,cA.fU,Dat.MV,Dat.ln,aj]
  omega
 | x :: r,i+1,h=>by
  have:=Dl r i bM
  simp only[ah,List.map_cons,Dat.Ot]
  omega
def Zx (w:World) (x0:List ByteArray) (x1:List cA) (x2:List cz) (x3:List cw) (x4:ByteArray) (x5:Int) (x6 x7:List ByteArray) (x8:List cJ) (x9:Bool) (x10 x11 x12:Int) (e:Ending) (w':World):Prop :=
 ∃(v0 v1 v2 v3 v6 v7 v8:Value) (L0 L1 L2 L3 L6 L7 L8:List Nat),e=.returned (.agg #[v0,v1,v2,v3,.string x4,.int .i64 x5,v6,v7,v8,.bool x9,.int .i64 x10,.int .i64 x11,.int .i64 x12]) /\
  mv w.heap.size w' [⟨9,1,v0,L0,x0.map (fun x=>[Dat.str x])⟩,⟨109,3,v1,L1,x1.map cA.D⟩,⟨81,5,v2,L2,x2.map cz.D⟩,⟨34,6,v3,L3,x3.map cw.D⟩,⟨9,1,v6,L6,x6.map (fun x=>[Dat.str x])⟩,⟨9,1,v7,L7,x7.map (fun x=>[Dat.str x])⟩,⟨76,2,v8,L8,x8.map cJ.D⟩]/\cE w w'
abbrev MU (f:FuncId):Prop:=∀(x0:List ByteArray) (x1:List cA) (x2:List cz) (x3:List cw) (x4:ByteArray) (x5:Int) (x6 x7:List ByteArray) (x8:List cJ) (x9:Bool) (x10 x11 x12:Int) (S:Nat->Prop) (w:World) (vs:List Value),
 Dat.cC w S (cv.mk x0 x1 x2 x3 x4 x5 x6 x7 x8 x9 x10 x11 x12).D vs->Dat.MV (cv.mk x0 x1 x2 x3 x4 x5 x6 x7 x8 x9 x10 x11 x12).D<=1048576->Calls Tryz.prog f #[.agg vs.toArray] w (Zx w x0 x1 x2 x3 x4 x5 x6 x7 x8 x9 x10 x11 x12)
theorem rK:ac5 90:=by
 intro xs S w A c hR hx
 have HR:=hide hR
 have hlc:=hR.1
 have hcm:=hR.2.1
 simp only[aj]at hlc
 unfold maxLen at hcm
 clear hR
 obtain⟨iv,Ek,Mj,Mk,Ml⟩:=info_parts xf
 have tO:=hide (fp.te w 34 6)
 obtain⟨nw,om⟩:=Row.src (ti xs) (Row.bel (show cE w (w.alloc (.cells #[] 34))from bl) HR.out)
 rw[aj]at om
 have sO:=hide om
 clear om
 go_enter Tryz.func90,Tryz.ntmps90
 go_wp2_with (at_builtin;refine fO rfl (.tmp 3) (.tmp 4) 27 rfl 34 iv (.agg #[.int .i64 0,.int .i64 0,.int .i64 0,.string ByteArray.empty,.int .i64 0,.int .i64 0]) 6 56 Tryz.underlying27 Ek Mj Mk Ml aF aF tO.out sO.out c rfl rfl (fun b _ h=>by cases h) ?c2 ?c3 ?_)
 case c2=>simp only[aA];omega
 case c3=>simp only[aA];unfold maxLen;omega
 intro v9 w9 oo qQ rC
 have hq:=kM qQ rC
 have HQ:=hide hq
 have mK:=hide (show fp w9 34 6 v9 [] (xs.map cw.D)from oo)
 clear oo qQ rC hq
 go_wp2_with (fail)
 all_goals
  go_returns
  exact⟨v9,rfl,mK.out,HQ.out.2,HQ.out.1⟩
end Go.Proofs.YtjngkknbpfgdcaaGreatDoor
