import Derived.Test.YtjngkknbpfgdcaaGreatDoorVvr
import Derived.Test.YtjngkknbpfgdcaaGreatDoorVvOw
set_option linter.unusedVariables false
set_option linter.unusedSimpArgs false
set_option maxRecDepth 100000
set_option maxHeartbeats 8000000
namespace Go.Proofs.YtjngkknbpfgdcaaGreatDoor
open Go.RowKit Tryz
structure o7 where
 E:TypeId
 k:Nat
 v:Value
 L:List Nat
 ds:List (List Y)
structure gL (N:Nat) (w:World) (l:List o7):Prop where
 own:∀e∈l,dK w e.E e.k e.v e.L e.ds
 low:∀e∈l,∀b,iG e.v e.L b->N<=b
 sep:l.Pairwise (fun e f=>∀b,iG e.v e.L b->¬iG f.v f.L b)
section
variable {N:Nat} {w w':World} {l:List o7}
theorem gL.nil (N:Nat) (w:World):gL N w []:=⟨(fun _ h=>(by cases h)),(fun _ h=>(by cases h)),List.Pairwise.nil⟩
theorem gL.keep (h:gL N w l) (hs:w.heap.size<=w'.heap.size) (hb:∀e∈l,∀b,iG e.v e.L b->w'.heap[b]?=w.heap[b]?):gL N w' l :=
 ⟨fun e he=>(h.own e he).keep hs (hb e he),h.low,h.sep⟩
theorem gL.de (h:gL N w l) (hb:U w w'):gL N w' l:=h.keep hb.size fun e he b hm=>Below.block hb b ((h.own e he).lt b hm)
theorem gL.td (h:gL N w l) {b:Nat} (hb:b<N) (o:Nat) (u:Value):gL N (w.setCell ⟨b,o,none⟩ u) l:=by
 refine h.keep aJ fun e he x hx=>?_
 have hn:b≠x:=by have:=h.low e he x hx;omega
 unfold World.setCell
 split
 all_goals
  show (w.heap.modify b _)[x]?=_
  rw[Array.getElem?_modify,if_neg hn]
theorem gL.snoc (h:gL N w l) (hb:U w w') {e:o7} (ho:dK w' e.E e.k e.v e.L e.ds) (hN:N<=w.heap.size) (hn:∀b,iG e.v e.L b->w.heap.size<=b):gL N w' (l++[e]):=by
 have h':=h.de hb
 refine⟨fun f hf=>?_,fun f hf=>?_,List.pairwise_append.2 ⟨h.sep,List.pairwise_singleton _ _,fun f hf g hg b hb hc=>?_⟩⟩
 ·
  rcases List.mem_append.1 hf with hf | hf
  ·
   exact h'.own f hf
  ·
   rw[List.mem_singleton.1 hf];exact ho
 ·
  rcases List.mem_append.1 hf with hf | hf
  ·
   exact h.low f hf
  ·
   rw[List.mem_singleton.1 hf];exact fun b hb=>aw hN (hn b hb)
 ·
  rw[List.mem_singleton.1 hg]at hc
  have h1:=(h.own f hf).lt b hb
  have h2:=hn b hc
  omega
theorem gL.grow {e e':o7} (h:gL N w (l++[e])) {wm:World} (hm:U w wm) (hg:wm.grownBy w' e.v.ownBlock) (hN:N<=w.heap.size) (ho:dK w' e'.E e'.k e'.v e'.L e'.ds) (hn:∀b,iG e'.v e'.L b->iG e.v e.L b\/w.heap.size<=b):gL N w' (l++[e']):=by
 have hp:=List.pairwise_append.1 h.sep
 have low:∀b,iG e'.v e'.L b->N<=b:=fun b hb=>(hn b hb).elim (fun q=>h.low e aJ b q) (fun q=>aw hN q)
 have sep:∀f∈l,∀b,iG f.v f.L b->¬iG e.v e.L b:=fun f hf=>hp.2.2 f hf e aJ
 refine⟨fun f hf=>?_,fun f hf=>?_,List.pairwise_append.2 ⟨hp.1,List.pairwise_singleton _ _,fun f hf g hg b hb hc=>?_⟩⟩
 ·
  rcases List.mem_append.1 hf with hf | hf
  ·
   refine (h.own f (by simp[hf])).keep (aw hm.size hg.size) fun b hb=>?_
   have hl:=(h.own f (by simp[hf])).lt b hb
   exact (hg.block b (au hl hm.size) (fun q=>sep f hf b hb (Or.inl q.symm))).trans (Below.block hm b hl)
  ·
   rw[List.mem_singleton.1 hf];exact ho
 ·
  rcases List.mem_append.1 hf with hf | hf
  ·
   exact h.low f (by simp[hf])
  ·
   rw[List.mem_singleton.1 hf];exact low
 ·
  rw[List.mem_singleton.1 hg]at hc
  rcases hn b hc with q | q
  ·
   exact sep f hf b hb q
  ·
   have:=(h.own f (by simp[hf])).lt b hb
   omega
theorem gL.at (h:gL N w l) {i:Nat} {e:o7} (he:l[i]?=some e):dK w e.E e.k e.v e.L e.ds:=h.own e (List.mem_of_getElem? he)
theorem dK.xZ {b:Nat} (h:iG (.slice none 0 0) [] b):False:=by
 rcases h with h | h <;> cases h
end
theorem gL.Bl {N:Nat} {w w' wm:World} {la lb:List o7} {e e':o7} (h:gL N w (la++e :: lb)) (hm:U w wm) (hg:wm.grownBy w' e.v.ownBlock) (ho:dK w' e'.E e'.k e'.v e'.L e'.ds)
  (hn:∀b,iG e'.v e'.L b->iG e.v e.L b\/(N<=b/\∀f,f∈la++lb->¬iG f.v f.L b)):gL N w' (la++e' :: lb):=by
 have hp:=List.pairwise_append.1 h.sep
 have hq:=List.pairwise_cons.1 hp.2.1
 have sa:∀f∈la,∀b,iG f.v f.L b->¬iG e.v e.L b:=fun f hf=>hp.2.2 f hf e aJ
 have sb:∀f∈lb,∀b,iG e.v e.L b->¬iG f.v f.L b:=fun f hf=>hq.1 f hf
 have gf:∀f,f∈la++lb->f∈la++e :: lb:=fun f hf=>by
  rcases List.mem_append.1 hf with hf | hf
  ·
   exact List.mem_append.2 (Or.inl hf)
  ·
   exact List.mem_append.2 (Or.inr (List.mem_cons_of_mem _ hf))
 have sep:∀f,f∈la++lb->∀b,iG f.v f.L b->¬iG e.v e.L b:=fun f hf b hb he=>by
  rcases List.mem_append.1 hf with hf | hf
  ·
   exact sa f hf b hb he
  ·
   exact sb f hf b he hb
 have low:∀b,iG e'.v e'.L b->N<=b:=fun b hb=>(hn b hb).elim (fun q=>h.low e aJ b q) (fun q=>q.1)
 have keep:∀f,f∈la++lb->dK w' f.E f.k f.v f.L f.ds:=fun f hf=>by
  refine (h.own f (gf f hf)).keep (aw hm.size hg.size) fun b hb=>?_
  have hl:=(h.own f (gf f hf)).lt b hb
  exact (hg.block b (au hl hm.size) (fun q=>sep f hf b hb (Or.inl q.symm))).trans (Below.block hm b hl)
 have apart:∀f,f∈la++lb->∀b,iG f.v f.L b->¬iG e'.v e'.L b:=fun f hf b hb hc=>by
  rcases hn b hc with q | q
  ·
   exact sep f hf b hb q
  ·
   exact q.2 f hf hb
 have P9:∀f,f∈la++e' :: lb->f∈la++lb\/f=e':=fun f hf=>by
  rcases List.mem_append.1 hf with hf | hf
  ·
   exact Or.inl (List.mem_append.2 (Or.inl hf))
  ·
   rcases List.mem_cons.1 hf with hf | hf
   ·
    exact Or.inr hf
   ·
    exact Or.inl (List.mem_append.2 (Or.inr hf))
 refine⟨fun f hf=>?_,fun f hf=>?_,List.pairwise_append.2 ⟨hp.1,List.pairwise_cons.2 ⟨fun f hf b hb hc=>?_,hq.2⟩,fun f hf g hg b hb hc=>?_⟩⟩
 ·
  rcases P9 f hf with hf | rfl
  ·
   exact keep f hf
  ·
   exact ho
 ·
  rcases P9 f hf with hf | rfl
  ·
   exact h.low f (gf f hf)
  ·
   exact low
 ·
  exact apart f (List.mem_append.2 (Or.inr hf)) b hc hb
 ·
  rcases List.mem_cons.1 hg with rfl | hg
  ·
   exact apart f (List.mem_append.2 (Or.inl hf)) b hb hc
  ·
   exact hp.2.2 f hf g (List.mem_cons_of_mem _ hg) b hb hc
def cw.fl:cw->List cx | .mk _ f _=>f
theorem mX (cs:List cx):∀ds∈cs.map (fun x=>[Y.str x]),∀d∈ds,d.flat:=by
 intro ds Vl d hd
 obtain⟨x,-,rfl⟩:=List.mem_map.1 Vl
 rw[List.mem_singleton.1 hd]
 trivial
theorem Bg:(prog.info? 9).map (fun i=>(i.zero,i.size,i.bytes))=some (some (.string ByteArray.empty),1,16):=by kernel_rfl
theorem KD:(prog.info? 109).map (fun i=>(i.zero,i.size,i.bytes))=some (some (.agg #[.string ByteArray.empty,.slice none 0 0,.int .i64 0]),3,48):=by kernel_rfl
abbrev aff (f:FuncId):Prop:=∀(xs:List cw) (S:Nat->Prop) (w:World) (A:Option Addr) (c:Nat),Row w S 3 A c (xs.map cw.D)->xs.length<=1048576->(∀(k:Nat) (h:k<xs.length),xs[k].fl.length<=1048576) ->
 Calls prog f #[.slice A xs.length c] w fun e w'=>∃v L,e=.returned v/\dK w' 109 3 v L (xs.map cw.D)/\(∀b,iG v L b->w.heap.size<=b)/\U w w'
theorem Jj {α:Type} (D:α->List Y) {l:List α} {i:Nat} (h:i<l.length):(l.take (i+1)).map D=(l.take i).map D++[D l[i]]:=by
 rw[List.take_succ_eq_append_getElem h,List.map_append,List.map_cons,List.map_nil]
theorem cZ {P:Program} {c:Code} {Q:Exit->Act->World->Prop} {a:Act} {W:World} (h:∀wq,W=wq->Code.wp P c Q a wq):Code.wp P c Q a W:=h W rfl
theorem Fo:aff 89:=by
 intro xs S w A c hR hx hf
 have HR:=I hR
 have HF:=I hf
 have IJ:=hR.1
 have gX:=hR.2.1
 simp only[ar]at IJ
 unfold maxLen at gX
 clear hR hf
 obtain⟨is,Qa,Qb,Qc,Qd⟩:=info_parts Bg
 obtain⟨ir,hir,zr0,zr1,zr2⟩:=info_parts KD
 go_enter func89,ntmps89
 go_wp2_with (fail)
 go_loopw [3,4] (fun lv iv wr=>∃(i:Nat) (v:Value) (L:List Nat),v=lv/\iv=.int .i64 i/\i<=xs.length/\Hid (dK wr 109 3 v L ((xs.take i).map cw.D))/\Hid (∀b,iG v L b->w.heap.size<=b)/\Hid (U w wr)) (fun _ iv _=>xs.length - (intOf iv).toNat)
 case atStart=>exact⟨0,_,[],rfl,rfl,Nat.zero_le _,I (dK.tV _ _ _),I (fun b hb=>by rcases hb with hb | hb;(have e:=Option.some.inj (show some w.heap.size=some b from hb);omega);cases hb),I bl⟩
 case round =>
  obtain⟨i,v,L,rfl,rfl,hi,HO,HB,HBR⟩:=hrel
  by_cases h:i<xs.length
  ·
   skip
   have Pw:decide ((i:Int)<(xs.length:Int))=true:=aH
   have jh:(0:Int)<=(i:Int):=aF
   have oQ:(i:Int)<(xs.length:Int):=aF
   have dX:=HBR.out
   (obtain⟨b1,o1,cz,cD,cE,Md,GV,gb,dS,gy,gF,kP,eN,mx,eO,fD,fE,fG⟩:=cw.el HR.out i h dX;subst gb)
   have Uc:=HF.out i h
   rw[gF.out]at Uc
   simp only[cw.fl]at Uc
   have hlf:=mx.out.1
   have hmf:=mx.out.2.1
   simp only[ar]at hlf
   unfold maxLen at hmf
   go_upto_region 5 with (fail)
   have Qe:U wr wr:=U.refl _
   have k0:=fD
   have k1:=fE
   have k2:=fG
   have HOA:=I (HO.out.de Qe)
   have KE:=U.trans dX Qe
   refine wp_region_held_drew (S:=fun w'=>w'.cell? ⟨b1,o1+i*3,none⟩=some (.string cz)/\w'.cell? ⟨b1,o1+i*3+1,none⟩=some (.slice Md cD.length GV)/\w'.cell? ⟨b1,o1+i*3+2,none⟩=some (.int .i64 cE)) aG ?_ (fun iR=>?_)
   ·
    exact⟨k0,k1,k2⟩
   refine ev 0 ?_
   refine ev 1 ?_
   refine ev 2 ?_
   refine ev 3 ?_
   refine ev 4 ?_
   refine ev 5 ?_
   refine ev 7 ?_
   refine ev 8 ?_
   refine ev 9 ?_
   refine ev 10 ?_
   refine ev 11 ?_
   refine ev 13 ?_
   refine ev 14 ?_
   refine ev 15 ?_
   refine ev 16 ?_
   refine ev 17 ?_
   have AO:b1<wr.heap.size:=by exact gy
   refine wpAnyH_ready (rs:=[6]) aG aJ ?_
   refine AllReadyH.cons (o:=_) rfl (fun K hK=>?_) AllReadyH.nil
   go_simp
   clear iR
   have dE:U wr ((wr.alloc (.cells #[] 9)).drew):=bl
   have Gl:=dK.de (dK.tV wr 9 1) (show U _ ((wr.alloc (.cells #[] 9)).drew)from bl)
   refine hK.out _ _ ?_ (fun iR=>?_)
   ·
    exact⟨(dE.box b1 AO _).trans k0,(dE.box b1 AO _).trans k1,(dE.box b1 AO _).trans k2⟩
   clear hK K
   (try simp only[Act.put,aa,ab,ae,af,ag,aj])
   refine wpAnyH_ready (rs:=[12]) aG aJ ?_
   refine AllReadyH.cons (o:=_) rfl (fun K hK=>?_) AllReadyH.nil
   rw[if_pos (by rfl)]
   obtain⟨nw1,Jk⟩:=Row.src (mX cD) (Row.de (U.trans KE dE) mx.out)
   rw[ar]at Jk
   refine jq (.tmp 18) (.tmp 23) 24 rfl 9 is (.string ByteArray.empty) 1 16 underlying24 Qa Qb Qc Qd aI aI Gl Jk GV rfl rfl (fun b _ h=>by cases h) bp (by unfold maxLen;simp only[aE];omega) fun v5 w5 KC hg5 OV=>?_
   have gC:U wr w5:=Below.grown dE hg5 aJ (fun k hk=>by have:=Option.some.inj (show some wr.heap.size=some k from hk);omega)
   obtain⟨A6,c6,L6,aaU,hr6,hn6,hk6⟩:=KC.ownRow
   subst aaU
   simp only[List.nil_append,ar]at hr6 hk6 OV |-
   have GW:=I hr6
   have HN6:=I hn6
   have HK6:=I (show ∀b,b∈L6->wr.heap.size<=b from fun b hb=>(hk6 b hb).elim (fun q=>(OV b q).elim (fun q=>by have:=Option.some.inj (show some wr.heap.size=some b from q);omega) (fun q=>by have:=dE.size;omega)) (fun q=>by cases q))
   clear Jk Gl KC hg5 OV hr6 hn6 hk6
   refine hK.out _ _ ?_ (fun iR=>?_)
   ·
    exact⟨(gC.box b1 AO _).trans k0,(gC.box b1 AO _).trans k1,(gC.box b1 AO _).trans k2⟩
   clear hK K
   (try simp only[Act.put,aa,ab,ae,af,ag,aj])
   refine ev 18 ?_
   refine wpAnyH_ready (rs:=[19]) aG aJ ?_
   refine AllReadyH.cons (o:=_) rfl (fun K hK=>?_) AllReadyH.nil
   go_simp
   clear iR
   have jx:U wr (w5.alloc (.cells #[.string cz,.slice A6 cD.length c6,.int .i64 cE] 109)):=bl
   have lu:=dK.Pr (k:=3) w5 109 (cw.kL eN GW.out eO) rfl HN6.out
   obtain⟨nw3,Qf⟩:=lu.src
   have aaX:=I Qf
   clear lu Qf
   have HO7:=I (HOA.out.de jx)
   refine hK.out _ _ ?_ (fun iR=>?_)
   ·
    exact⟨(jx.box b1 AO _).trans k0,(jx.box b1 AO _).trans k1,(jx.box b1 AO _).trans k2⟩
   clear hK K
   (try simp only[Act.put,aa,ab,ae,af,ag,aj])
   refine wpAnyH_ready (rs:=[20]) aG aJ ?_
   refine AllReadyH.cons (o:=_) rfl (fun K hK=>?_) AllReadyH.nil
   rw[if_pos (by rfl)]
   refine jq (.tmp 12) (.tmp 31) 25 rfl 109 ir (.agg #[.string ByteArray.empty,.slice none 0 0,.int .i64 0]) 3 48 underlying25 hir zr0 zr1 zr2 aI aI HO7.out aaX.out 1 rfl rfl (fun b hb hm=>by have h1:=HOA.out.lt b hb;have h2:=HK6.out b hm;omega) bZ bK fun v8 w8 hO8 hg8 I8=>?_
   have zA:U w w8:=Below.grown (U.trans KE jx) hg8 (U.trans KE jx).size (fun k hk=>HB.out k (Or.inl hk))
   have iP:v.ownBlock≠some b1:=fun q=>by have:=HB.out _ (Or.inl q);omega
   have Ua:=jx.size
   have e8:=hg8.block b1 aF (fun q=>iP q.symm)
   refine hK.out _ _ ?_ (fun iR=>?_)
   ·
    exact⟨(World.cell?_of_block e8).trans ((jx.box b1 AO _).trans k0),(World.cell?_of_block e8).trans ((jx.box b1 AO _).trans k1),(World.cell?_of_block e8).trans ((jx.box b1 AO _).trans k2)⟩
   clear hK K
   (try simp only[Act.put,aa,ab,ae,af,ag,aj])
   refine ev 21 ?_
   exact XN
  ·
   skip
   exact XO
theorem Fp:aff 84:=by
 intro xs S w A c hR hx hf
 have HR:=I hR
 have HF:=I hf
 have IJ:=hR.1
 have gX:=hR.2.1
 simp only[ar]at IJ
 unfold maxLen at gX
 clear hR hf
 obtain⟨is,Qa,Qb,Qc,Qd⟩:=info_parts Bg
 obtain⟨ir,hir,zr0,zr1,zr2⟩:=info_parts KD
 go_enter func84,ntmps84
 go_wp2_with (fail)
 go_loopw [3,9] (fun lv iv wr=>∃(i:Nat) (v:Value) (L:List Nat),v=lv/\iv=.int .i64 i/\i<=xs.length/\Hid (dK wr 109 3 v L ((xs.take i).map cw.D))/\Hid (∀b,iG v L b->w.heap.size<=b)/\Hid (U w wr)) (fun _ iv _=>xs.length - (intOf iv).toNat)
 case atStart=>exact⟨0,_,[],rfl,rfl,Nat.zero_le _,I (dK.tV _ _ _),I (fun b hb=>by rcases hb with hb | hb;(have e:=Option.some.inj (show some w.heap.size=some b from hb);omega);cases hb),I bl⟩
 case round =>
  obtain⟨i,v,L,rfl,rfl,hi,HO,HB,HBR⟩:=hrel
  by_cases h:i<xs.length
  ·
   skip
   have Pw:decide ((i:Int)<(xs.length:Int))=true:=aH
   have jh:(0:Int)<=(i:Int):=aF
   have oQ:(i:Int)<(xs.length:Int):=aF
   have dX:=HBR.out
   (obtain⟨b1,o1,cz,cD,cE,Md,GV,gb,dS,gy,gF,kP,eN,mx,eO,fD,fE,fG⟩:=cw.el HR.out i h dX;subst gb)
   have Uc:=HF.out i h
   rw[gF.out]at Uc
   simp only[cw.fl]at Uc
   have hlf:=mx.out.1
   have hmf:=mx.out.2.1
   simp only[ar]at hlf
   unfold maxLen at hmf
   go_upto_region 5 with (fail)
   refine cZ fun wA Ue=>?_
   have Qe:U wr wA:=by rw[<-Ue];exact bl
   have hzA:wr.heap.size<wA.heap.size:=by rw[<-Ue];simp
   have k0:wA.cell? ⟨wr.heap.size,0,none⟩=some (.string cz):=by rw[<-Ue];simp[go_sem]
   have k1:wA.cell? ⟨wr.heap.size,1,none⟩=some (.slice Md cD.length GV):=by rw[<-Ue];simp[go_sem]
   have k2:wA.cell? ⟨wr.heap.size,2,none⟩=some (.int .i64 cE):=by rw[<-Ue];simp[go_sem]
   clear Ue
   have HOA:=I (HO.out.de Qe)
   have KE:=U.trans dX Qe
   refine wp_region_held_drew (S:=fun w'=>w'.cell? ⟨wr.heap.size,0,none⟩=some (.string cz)/\w'.cell? ⟨wr.heap.size,1,none⟩=some (.slice Md cD.length GV)/\w'.cell? ⟨wr.heap.size,2,none⟩=some (.int .i64 cE)) aG ?_ (fun iR=>?_)
   ·
    exact⟨k0,k1,k2⟩
   refine ev 0 ?_
   refine ev 1 ?_
   refine ev 2 ?_
   refine ev 4 ?_
   refine ev 5 ?_
   refine ev 7 ?_
   refine ev 8 ?_
   have AO:wr.heap.size<wA.heap.size:=aF
   refine wpAnyH_ready (rs:=[3]) aG aJ ?_
   refine AllReadyH.cons (o:=_) rfl (fun K hK=>?_) AllReadyH.nil
   go_simp
   clear iR
   have dE:U wA ((wA.alloc (.cells #[] 9)).drew):=bl
   have Gl:=dK.de (dK.tV wA 9 1) (show U _ ((wA.alloc (.cells #[] 9)).drew)from bl)
   refine hK.out _ _ ?_ (fun iR=>?_)
   ·
    exact⟨(dE.box wr.heap.size AO _).trans k0,(dE.box wr.heap.size AO _).trans k1,(dE.box wr.heap.size AO _).trans k2⟩
   clear hK K
   (try simp only[Act.put,aa,ab,ae,af,ag,aj])
   refine wpAnyH_ready (rs:=[6]) aG aJ ?_
   refine AllReadyH.cons (o:=_) rfl (fun K hK=>?_) AllReadyH.nil
   rw[if_pos (by rfl)]
   obtain⟨nw1,Jk⟩:=Row.src (mX cD) (Row.de (U.trans KE dE) mx.out)
   rw[ar]at Jk
   refine jq (.tmp 16) (.tmp 18) 24 rfl 9 is (.string ByteArray.empty) 1 16 underlying24 Qa Qb Qc Qd aI aI Gl Jk GV rfl rfl (fun b _ h=>by cases h) bp (by unfold maxLen;simp only[aE];omega) fun v5 w5 KC hg5 OV=>?_
   have gC:U wA w5:=Below.grown dE hg5 aJ (fun k hk=>by have:=Option.some.inj (show some wA.heap.size=some k from hk);omega)
   obtain⟨A6,c6,L6,aaU,hr6,hn6,hk6⟩:=KC.ownRow
   subst aaU
   simp only[List.nil_append,ar]at hr6 hk6 OV |-
   have GW:=I hr6
   have HN6:=I hn6
   have HK6:=I (show ∀b,b∈L6->wA.heap.size<=b from fun b hb=>(hk6 b hb).elim (fun q=>(OV b q).elim (fun q=>by have:=Option.some.inj (show some wA.heap.size=some b from q);omega) (fun q=>by have:=dE.size;omega)) (fun q=>by cases q))
   clear Jk Gl KC hg5 OV hr6 hn6 hk6
   refine hK.out _ _ ?_ (fun iR=>?_)
   ·
    exact⟨(gC.box wr.heap.size AO _).trans k0,(gC.box wr.heap.size AO _).trans k1,(gC.box wr.heap.size AO _).trans k2⟩
   clear hK K
   (try simp only[Act.put,aa,ab,ae,af,ag,aj])
   refine ev 9 ?_
   refine wpAnyH_ready (rs:=[10]) aG aJ ?_
   refine AllReadyH.cons (o:=_) rfl (fun K hK=>?_) AllReadyH.nil
   go_simp
   clear iR
   have jx:U wA (w5.alloc (.cells #[.string cz,.slice A6 cD.length c6,.int .i64 cE] 109)):=bl
   have lu:=dK.Pr (k:=3) w5 109 (cw.kL eN GW.out eO) rfl HN6.out
   obtain⟨nw3,Qf⟩:=lu.src
   have aaX:=I Qf
   clear lu Qf
   have HO7:=I (HOA.out.de jx)
   refine hK.out _ _ ?_ (fun iR=>?_)
   ·
    exact⟨(jx.box wr.heap.size AO _).trans k0,(jx.box wr.heap.size AO _).trans k1,(jx.box wr.heap.size AO _).trans k2⟩
   clear hK K
   (try simp only[Act.put,aa,ab,ae,af,ag,aj])
   refine wpAnyH_ready (rs:=[11]) aG aJ ?_
   refine AllReadyH.cons (o:=_) rfl (fun K hK=>?_) AllReadyH.nil
   rw[if_pos (by rfl)]
   refine jq (.tmp 13) (.tmp 23) 25 rfl 109 ir (.agg #[.string ByteArray.empty,.slice none 0 0,.int .i64 0]) 3 48 underlying25 hir zr0 zr1 zr2 aI aI HO7.out aaX.out 1 rfl rfl (fun b hb hm=>by have h1:=HOA.out.lt b hb;have h2:=HK6.out b hm;omega) bZ bK fun v8 w8 hO8 hg8 I8=>?_
   have zA:U w w8:=Below.grown (U.trans KE jx) hg8 (U.trans KE jx).size (fun k hk=>HB.out k (Or.inl hk))
   have iP:v.ownBlock≠some wr.heap.size:=fun q=>by have:=HO.out.lt _ (Or.inl q);omega
   have Ua:=jx.size
   have e8:=hg8.block wr.heap.size aF (fun q=>iP q.symm)
   refine hK.out _ _ ?_ (fun iR=>?_)
   ·
    exact⟨(World.cell?_of_block e8).trans ((jx.box wr.heap.size AO _).trans k0),(World.cell?_of_block e8).trans ((jx.box wr.heap.size AO _).trans k1),(World.cell?_of_block e8).trans ((jx.box wr.heap.size AO _).trans k2)⟩
   clear hK K
   (try simp only[Act.put,aa,ab,ae,af,ag,aj])
   refine ev 12 ?_
   exact XN
  ·
   skip
   exact XO
theorem dY {w:World} {b b':Nat} (o:Nat) (u:Value) (hn:b'≠b):(w.setCell ⟨b',o,none⟩ u).heap[b]?=w.heap[b]?:=by
 unfold World.setCell
 split
 all_goals
  show (w.heap.modify b' _)[b]?=_
  rw[Array.getElem?_modify,if_neg hn]
theorem vC {P:Program} {ops:Array Oper} {Q:Exit->Act->World->Prop} {l:List Oper} {a:Act} {W:World} (h:∀wz,wz=W->wpList P ops Q l a wz):wpList P ops Q l a W:=h W rfl
def SB (w:World) (b:Nat) (v0 v1 v2 v3 v4 v5 v6 v7 v8 v9 v10 v11 v12:Value):Prop:=b<w.heap.size/\(∀o,w.frozen? ⟨b,o,none⟩=false)/\w.cell? ⟨b,0,none⟩=some v0/\w.cell? ⟨b,1,none⟩=some v1/\w.cell? ⟨b,2,none⟩=some v2/\w.cell? ⟨b,3,none⟩=some v3/\w.cell? ⟨b,4,none⟩=some v4/\w.cell? ⟨b,5,none⟩=some v5/\w.cell? ⟨b,6,none⟩=some v6/\w.cell? ⟨b,7,none⟩=some v7/\w.cell? ⟨b,8,none⟩=some v8/\w.cell? ⟨b,9,none⟩=some v9/\w.cell? ⟨b,10,none⟩=some v10/\w.cell? ⟨b,11,none⟩=some v11/\w.cell? ⟨b,12,none⟩=some v12
section
variable {w w':World} {b:Nat} {v0 v1 v2 v3 v4 v5 v6 v7 v8 v9 v10 v11 v12:Value}
theorem SB.block (h:SB w b v0 v1 v2 v3 v4 v5 v6 v7 v8 v9 v10 v11 v12) (hs:w.heap.size<=w'.heap.size) (hb:w'.heap[b]?=w.heap[b]?):SB w' b v0 v1 v2 v3 v4 v5 v6 v7 v8 v9 v10 v11 v12:=by
 obtain⟨l,f,c0,c1,c2,c3,c4,c5,c6,c7,c8,c9,xJ,xK,xL⟩:=h
 have e:∀o,w'.cell? ⟨b,o,none⟩=w.cell? ⟨b,o,none⟩:=fun o=>World.cell?_of_block hb
 exact⟨by omega,fun o=>(World.frozen?_of_block hb).trans (f o),(e 0).trans c0,(e 1).trans c1,(e 2).trans c2,(e 3).trans c3,(e 4).trans c4,(e 5).trans c5,(e 6).trans c6,(e 7).trans c7,(e 8).trans c8,(e 9).trans c9,(e 10).trans xJ,(e 11).trans xK,(e 12).trans xL⟩
theorem SB.on (h:SB w b v0 v1 v2 v3 v4 v5 v6 v7 v8 v9 v10 v11 v12) (k:U w w'):SB w' b v0 v1 v2 v3 v4 v5 v6 v7 v8 v9 v10 v11 v12:=h.block k.size (Below.block k b h.1)
theorem SB.new (w:World) (t:TypeId):SB (w.alloc (.cells #[v0,v1,v2,v3,v4,v5,v6,v7,v8,v9,v10,v11,v12] t)) w.heap.size v0 v1 v2 v3 v4 v5 v6 v7 v8 v9 v10 v11 v12 :=
 ⟨by simp,fun o=>by simp,by simp,by simp,by simp,by simp,by simp,by simp,by simp,by simp,by simp,by simp,by simp,by simp,by simp⟩
theorem SB.td (h:SB w b v0 v1 v2 v3 v4 v5 v6 v7 v8 v9 v10 v11 v12) {b':Nat} (o:Nat) (u:Value) (hn:b'≠b):SB (w.setCell ⟨b',o,none⟩ u) b v0 v1 v2 v3 v4 v5 v6 v7 v8 v9 v10 v11 v12 :=
 h.block aJ (dY o u hn)
theorem SB.yR (h:SB w b v0 v1 v2 v3 v4 v5 v6 v7 v8 v9 v10 v11 v12) (u:Value):SB (w.setCell ⟨b,0,none⟩ u) b u v1 v2 v3 v4 v5 v6 v7 v8 v9 v10 v11 v12:=by
 obtain⟨l,f,c0,c1,c2,c3,c4,c5,c6,c7,c8,c9,xJ,xK,xL⟩:=h
 exact⟨by simpa using l,fun o=>by simp[f],by simp[c0,go_sem],by simp[c1,go_sem],by simp[c2,go_sem],by simp[c3,go_sem],by simp[c4,go_sem],by simp[c5,go_sem],by simp[c6,go_sem],by simp[c7,go_sem],by simp[c8,go_sem],by simp[c9,go_sem],by simp[xJ,go_sem],by simp[xK,go_sem],by simp[xL,go_sem]⟩
theorem SB.xY (h:SB w b v0 v1 v2 v3 v4 v5 v6 v7 v8 v9 v10 v11 v12) (u:Value):SB (w.setCell ⟨b,1,none⟩ u) b v0 u v2 v3 v4 v5 v6 v7 v8 v9 v10 v11 v12:=by
 obtain⟨l,f,c0,c1,c2,c3,c4,c5,c6,c7,c8,c9,xJ,xK,xL⟩:=h
 exact⟨by simpa using l,fun o=>by simp[f],by simp[c0,go_sem],by simp[c1,go_sem],by simp[c2,go_sem],by simp[c3,go_sem],by simp[c4,go_sem],by simp[c5,go_sem],by simp[c6,go_sem],by simp[c7,go_sem],by simp[c8,go_sem],by simp[c9,go_sem],by simp[xJ,go_sem],by simp[xK,go_sem],by simp[xL,go_sem]⟩
theorem SB.rV (h:SB w b v0 v1 v2 v3 v4 v5 v6 v7 v8 v9 v10 v11 v12) (u:Value):SB (w.setCell ⟨b,2,none⟩ u) b v0 v1 u v3 v4 v5 v6 v7 v8 v9 v10 v11 v12:=by
 obtain⟨l,f,c0,c1,c2,c3,c4,c5,c6,c7,c8,c9,xJ,xK,xL⟩:=h
 exact⟨by simpa using l,fun o=>by simp[f],by simp[c0,go_sem],by simp[c1,go_sem],by simp[c2,go_sem],by simp[c3,go_sem],by simp[c4,go_sem],by simp[c5,go_sem],by simp[c6,go_sem],by simp[c7,go_sem],by simp[c8,go_sem],by simp[c9,go_sem],by simp[xJ,go_sem],by simp[xK,go_sem],by simp[xL,go_sem]⟩
theorem SB.rT (h:SB w b v0 v1 v2 v3 v4 v5 v6 v7 v8 v9 v10 v11 v12) (u:Value):SB (w.setCell ⟨b,3,none⟩ u) b v0 v1 v2 u v4 v5 v6 v7 v8 v9 v10 v11 v12:=by
 obtain⟨l,f,c0,c1,c2,c3,c4,c5,c6,c7,c8,c9,xJ,xK,xL⟩:=h
 exact⟨by simpa using l,fun o=>by simp[f],by simp[c0,go_sem],by simp[c1,go_sem],by simp[c2,go_sem],by simp[c3,go_sem],by simp[c4,go_sem],by simp[c5,go_sem],by simp[c6,go_sem],by simp[c7,go_sem],by simp[c8,go_sem],by simp[c9,go_sem],by simp[xJ,go_sem],by simp[xK,go_sem],by simp[xL,go_sem]⟩
theorem SB.CZ (h:SB w b v0 v1 v2 v3 v4 v5 v6 v7 v8 v9 v10 v11 v12) (u:Value):SB (w.setCell ⟨b,4,none⟩ u) b v0 v1 v2 v3 u v5 v6 v7 v8 v9 v10 v11 v12:=by
 obtain⟨l,f,c0,c1,c2,c3,c4,c5,c6,c7,c8,c9,xJ,xK,xL⟩:=h
 exact⟨by simpa using l,fun o=>by simp[f],by simp[c0,go_sem],by simp[c1,go_sem],by simp[c2,go_sem],by simp[c3,go_sem],by simp[c4,go_sem],by simp[c5,go_sem],by simp[c6,go_sem],by simp[c7,go_sem],by simp[c8,go_sem],by simp[c9,go_sem],by simp[xJ,go_sem],by simp[xK,go_sem],by simp[xL,go_sem]⟩
theorem SB.Ps (h:SB w b v0 v1 v2 v3 v4 v5 v6 v7 v8 v9 v10 v11 v12) (u:Value):SB (w.setCell ⟨b,5,none⟩ u) b v0 v1 v2 v3 v4 u v6 v7 v8 v9 v10 v11 v12:=by
 obtain⟨l,f,c0,c1,c2,c3,c4,c5,c6,c7,c8,c9,xJ,xK,xL⟩:=h
 exact⟨by simpa using l,fun o=>by simp[f],by simp[c0,go_sem],by simp[c1,go_sem],by simp[c2,go_sem],by simp[c3,go_sem],by simp[c4,go_sem],by simp[c5,go_sem],by simp[c6,go_sem],by simp[c7,go_sem],by simp[c8,go_sem],by simp[c9,go_sem],by simp[xJ,go_sem],by simp[xK,go_sem],by simp[xL,go_sem]⟩
theorem SB.tC (h:SB w b v0 v1 v2 v3 v4 v5 v6 v7 v8 v9 v10 v11 v12) (u:Value):SB (w.setCell ⟨b,6,none⟩ u) b v0 v1 v2 v3 v4 v5 u v7 v8 v9 v10 v11 v12:=by
 obtain⟨l,f,c0,c1,c2,c3,c4,c5,c6,c7,c8,c9,xJ,xK,xL⟩:=h
 exact⟨by simpa using l,fun o=>by simp[f],by simp[c0,go_sem],by simp[c1,go_sem],by simp[c2,go_sem],by simp[c3,go_sem],by simp[c4,go_sem],by simp[c5,go_sem],by simp[c6,go_sem],by simp[c7,go_sem],by simp[c8,go_sem],by simp[c9,go_sem],by simp[xJ,go_sem],by simp[xK,go_sem],by simp[xL,go_sem]⟩
theorem SB.LD (h:SB w b v0 v1 v2 v3 v4 v5 v6 v7 v8 v9 v10 v11 v12) (u:Value):SB (w.setCell ⟨b,7,none⟩ u) b v0 v1 v2 v3 v4 v5 v6 u v8 v9 v10 v11 v12:=by
 obtain⟨l,f,c0,c1,c2,c3,c4,c5,c6,c7,c8,c9,xJ,xK,xL⟩:=h
 exact⟨by simpa using l,fun o=>by simp[f],by simp[c0,go_sem],by simp[c1,go_sem],by simp[c2,go_sem],by simp[c3,go_sem],by simp[c4,go_sem],by simp[c5,go_sem],by simp[c6,go_sem],by simp[c7,go_sem],by simp[c8,go_sem],by simp[c9,go_sem],by simp[xJ,go_sem],by simp[xK,go_sem],by simp[xL,go_sem]⟩
theorem SB.IZ (h:SB w b v0 v1 v2 v3 v4 v5 v6 v7 v8 v9 v10 v11 v12) (u:Value):SB (w.setCell ⟨b,8,none⟩ u) b v0 v1 v2 v3 v4 v5 v6 v7 u v9 v10 v11 v12:=by
 obtain⟨l,f,c0,c1,c2,c3,c4,c5,c6,c7,c8,c9,xJ,xK,xL⟩:=h
 exact⟨by simpa using l,fun o=>by simp[f],by simp[c0,go_sem],by simp[c1,go_sem],by simp[c2,go_sem],by simp[c3,go_sem],by simp[c4,go_sem],by simp[c5,go_sem],by simp[c6,go_sem],by simp[c7,go_sem],by simp[c8,go_sem],by simp[c9,go_sem],by simp[xJ,go_sem],by simp[xK,go_sem],by simp[xL,go_sem]⟩
theorem SB.Uy (h:SB w b v0 v1 v2 v3 v4 v5 v6 v7 v8 v9 v10 v11 v12) (u:Value):SB (w.setCell ⟨b,9,none⟩ u) b v0 v1 v2 v3 v4 v5 v6 v7 v8 u v10 v11 v12:=by
 obtain⟨l,f,c0,c1,c2,c3,c4,c5,c6,c7,c8,c9,xJ,xK,xL⟩:=h
 exact⟨by simpa using l,fun o=>by simp[f],by simp[c0,go_sem],by simp[c1,go_sem],by simp[c2,go_sem],by simp[c3,go_sem],by simp[c4,go_sem],by simp[c5,go_sem],by simp[c6,go_sem],by simp[c7,go_sem],by simp[c8,go_sem],by simp[c9,go_sem],by simp[xJ,go_sem],by simp[xK,go_sem],by simp[xL,go_sem]⟩
theorem SB.Kr (h:SB w b v0 v1 v2 v3 v4 v5 v6 v7 v8 v9 v10 v11 v12) (u:Value):SB (w.setCell ⟨b,10,none⟩ u) b v0 v1 v2 v3 v4 v5 v6 v7 v8 v9 u v11 v12:=by
 obtain⟨l,f,c0,c1,c2,c3,c4,c5,c6,c7,c8,c9,xJ,xK,xL⟩:=h
 exact⟨by simpa using l,fun o=>by simp[f],by simp[c0,go_sem],by simp[c1,go_sem],by simp[c2,go_sem],by simp[c3,go_sem],by simp[c4,go_sem],by simp[c5,go_sem],by simp[c6,go_sem],by simp[c7,go_sem],by simp[c8,go_sem],by simp[c9,go_sem],by simp[xJ,go_sem],by simp[xK,go_sem],by simp[xL,go_sem]⟩
theorem SB.Ks (h:SB w b v0 v1 v2 v3 v4 v5 v6 v7 v8 v9 v10 v11 v12) (u:Value):SB (w.setCell ⟨b,11,none⟩ u) b v0 v1 v2 v3 v4 v5 v6 v7 v8 v9 v10 u v12:=by
 obtain⟨l,f,c0,c1,c2,c3,c4,c5,c6,c7,c8,c9,xJ,xK,xL⟩:=h
 exact⟨by simpa using l,fun o=>by simp[f],by simp[c0,go_sem],by simp[c1,go_sem],by simp[c2,go_sem],by simp[c3,go_sem],by simp[c4,go_sem],by simp[c5,go_sem],by simp[c6,go_sem],by simp[c7,go_sem],by simp[c8,go_sem],by simp[c9,go_sem],by simp[xJ,go_sem],by simp[xK,go_sem],by simp[xL,go_sem]⟩
theorem SB.Gy (h:SB w b v0 v1 v2 v3 v4 v5 v6 v7 v8 v9 v10 v11 v12) (u:Value):SB (w.setCell ⟨b,12,none⟩ u) b v0 v1 v2 v3 v4 v5 v6 v7 v8 v9 v10 v11 u:=by
 obtain⟨l,f,c0,c1,c2,c3,c4,c5,c6,c7,c8,c9,xJ,xK,xL⟩:=h
 exact⟨by simpa using l,fun o=>by simp[f],by simp[c0,go_sem],by simp[c1,go_sem],by simp[c2,go_sem],by simp[c3,go_sem],by simp[c4,go_sem],by simp[c5,go_sem],by simp[c6,go_sem],by simp[c7,go_sem],by simp[c8,go_sem],by simp[c9,go_sem],by simp[xJ,go_sem],by simp[xK,go_sem],by simp[xL,go_sem]⟩
theorem SB.there (h:SB w b v0 v1 v2 v3 v4 v5 v6 v7 v8 v9 v10 v11 v12):w.there b 0 13:=by
 obtain⟨l,f,c0,c1,c2,c3,c4,c5,c6,c7,c8,c9,xJ,xK,xL⟩:=h
 intro j hj
 rcases (show j=0\/j=1\/j=2\/j=3\/j=4\/j=5\/j=6\/j=7\/j=8\/j=9\/j=10\/j=11\/j=12 by omega)with rfl | rfl | rfl | rfl | rfl | rfl | rfl | rfl | rfl | rfl | rfl | rfl | rfl
 all_goals exact⟨by simp[c0,c1,c2,c3,c4,c5,c6,c7,c8,c9,xJ,xK,xL],f _⟩
end
theorem o9:(prog.info? 34).map (fun i=>(i.zero,i.size,i.bytes))=some (some (.agg #[.int .i64 0,.int .i64 0,.int .i64 0,.string ByteArray.empty,.int .i64 0,.int .i64 0]),6,56):=by kernel_rfl
theorem tT (cs:List R):∀ds∈cs.map R.D,∀d∈ds,d.flat:=by
 intro ds Vl d hd
 obtain⟨⟨a,b,c,t,e,f⟩,-,rfl⟩:=List.mem_map.1 Vl
 rw[R.iM]at hd
 simp only[List.mem_cons,List.not_mem_nil,or_false]at hd
 rcases hd with rfl | rfl | rfl | rfl | rfl | rfl <;> trivial
theorem GX (cs:List cV):∀ds∈cs.map cV.D,∀d∈ds,d.flat:=by
 intro ds Vl d hd
 obtain⟨⟨a,b⟩,-,rfl⟩:=List.mem_map.1 Vl
 rw[cV.iM]at hd
 simp only[List.mem_cons,List.not_mem_nil,or_false]at hd
 rcases hd with rfl | rfl <;> trivial
theorem KF:(prog.info? 76).map (fun i=>(i.zero,i.size,i.bytes))=some (some (.agg #[.int .i64 0,.int .i64 0]),2,16):=by kernel_rfl
theorem AX:(prog.info? 81).map (fun i=>(i.zero,i.size,i.bytes))=some (some (.agg #[.int .i64 0,.int .i64 0,.int .i64 0,.slice none 0 0,.slice none 0 0]),5,72):=by kernel_rfl
structure ClS (w:World) (N:Nat) (wx:World) (b:Nat) (v0 v1 v2 v3 v4 v5 v6 v7 v8 v9 v10 v11 v12:Value) (l:List o7):Prop where
 box:SB wx b v0 v1 v2 v3 v4 v5 v6 v7 v8 v9 v10 v11 v12
 gv:gL N wx l
 de:U w wx
 low:w.heap.size<=b/\b<N/\N<=wx.heap.size
section
variable {w wx wy:World} {N b:Nat} {v0 v1 v2 v3 v4 v5 v6 v7 v8 v9 v10 v11 v12:Value} {l:List o7}
theorem ClS.on (h:ClS w N wx b v0 v1 v2 v3 v4 v5 v6 v7 v8 v9 v10 v11 v12 l) (k:U wx wy):ClS w N wy b v0 v1 v2 v3 v4 v5 v6 v7 v8 v9 v10 v11 v12 l:=⟨h.box.on k,h.gv.de k,h.de.trans k,h.low.1,h.low.2.1,aw h.low.2.2 k.size⟩
theorem ClS.next (h:ClS w N wx b v0 v1 v2 v3 v4 v5 v6 v7 v8 v9 v10 v11 v12 l) (hb:U wx wy) {E:TypeId} {k:Nat} {u:Value} {L:List Nat} {ds:List (List Y)} (ho:dK wy E k u L ds) (hn:∀x,iG u L x->wx.heap.size<=x) (o:Nat) {u0 u1 u2 u3 u4 u5 u6 u7 u8 u9 rX rY qu:Value} (jl:SB (wy.setCell ⟨b,o,none⟩ u) b u0 u1 u2 u3 u4 u5 u6 u7 u8 u9 rX rY qu):ClS w N (wy.setCell ⟨b,o,none⟩ u) b u0 u1 u2 u3 u4 u5 u6 u7 u8 u9 rX rY qu (l++[⟨E,k,u,L,ds⟩]):=by
 refine⟨jl,(h.gv.snoc hb (e:=⟨E,k,u,L,ds⟩) ho h.low.2.2 hn).td h.low.2.1 o u,Below.setCell (h.de.trans hb) h.low.1 u,h.low.1,h.low.2.1,?_⟩
 have h1:=hb.size
 have h2:=h.low.2.2
 simp only[World.size_setCell]
 omega
end
mutual
def Y.ln:Y->Nat
 | .int _=>0
 | .str _=>0
 | .bool _=>0
 | .row _ xs=>xs.length+Y.C6 xs
def Y.C6:List (List Y)->Nat
 | []=>0
 | ds :: r=>Y.Gf ds+Y.C6 r
def Y.Gf:List Y->Nat
 | []=>0
 | d :: r=>Y.ln d+Y.Gf r
end
theorem DK {α:Type} (f:α->List Y) (m:Nat):∀l:List α,(∀x,x∈l->Y.Gf (f x)<=m)->Y.C6 (l.map f)<=l.length*m
 | [],_=>by simp[Y.C6]
 | x :: r,h=>by
  have h1:=h x aJ
  have h2:=DK f m r (fun y hy=>h y (by simp[hy]))
  have h3:(r.length+1)*m=r.length*m+m:=Nat.succ_mul _ _
  simp only[List.map_cons,Y.C6,aD]
  omega
abbrev afi (f:FuncId):Prop:=∀(xs:List R) (S:Nat->Prop) (w:World) (A:Option Addr) (c:Nat),Row w S 6 A c (xs.map R.D)->xs.length<=1048576 ->
 Calls prog f #[.slice A xs.length c] w fun e w'=>∃v,e=.returned v/\dK w' 34 6 v [] (xs.map R.D)/\(∀b,iG v [] b->w.heap.size<=b)/\U w w'
theorem kQ {w w9:World} {T:TypeId} {v9:Value} (hg:(w.alloc (.cells #[] T)).grownBy w9 (some w.heap.size)) (hw:∀b,v9.ownBlock=some b->(Value.slice (some ⟨w.heap.size,0,none⟩) 0 0).ownBlock=some b\/w.heap.size+1<=b):U w w9/\∀b,iG v9 [] b->w.heap.size<=b:=by
 refine⟨Below.grown (show U w (w.alloc (.cells #[] T))from bl) hg aJ (fun k hk=>by have:=Option.some.inj hk;omega),fun b hb=>?_⟩
 rcases hb with hb | hb
 ·
  rcases hw b hb with e | e
  ·
   have:=Option.some.inj (show some w.heap.size=some b from e);omega
  ·
   omega
 ·
  cases hb
def OB (w:World) (b:Nat) (v0 v1 v2 v3 v4:Value):Prop:=b<w.heap.size/\(∀o,w.frozen? ⟨b,o,none⟩=false)/\w.cell? ⟨b,0,none⟩=some v0/\w.cell? ⟨b,1,none⟩=some v1/\w.cell? ⟨b,2,none⟩=some v2/\w.cell? ⟨b,3,none⟩=some v3/\w.cell? ⟨b,4,none⟩=some v4
section
variable {w w':World} {b:Nat} {v0 v1 v2 v3 v4:Value}
theorem OB.block (h:OB w b v0 v1 v2 v3 v4) (hs:w.heap.size<=w'.heap.size) (hb:w'.heap[b]?=w.heap[b]?):OB w' b v0 v1 v2 v3 v4:=by
 obtain⟨l,f,c0,c1,c2,c3,c4⟩:=h
 have e:∀o,w'.cell? ⟨b,o,none⟩=w.cell? ⟨b,o,none⟩:=fun o=>World.cell?_of_block hb
 exact⟨by omega,fun o=>(World.frozen?_of_block hb).trans (f o),(e 0).trans c0,(e 1).trans c1,(e 2).trans c2,(e 3).trans c3,(e 4).trans c4⟩
theorem OB.on (h:OB w b v0 v1 v2 v3 v4) (k:U w w'):OB w' b v0 v1 v2 v3 v4:=h.block k.size (Below.block k b h.1)
theorem OB.new (w:World) (t:TypeId):OB (w.alloc (.cells #[v0,v1,v2,v3,v4] t)) w.heap.size v0 v1 v2 v3 v4 :=
 ⟨by simp,fun o=>by simp,by simp,by simp,by simp,by simp,by simp⟩
theorem OB.yR (h:OB w b v0 v1 v2 v3 v4) (u:Value):OB (w.setCell ⟨b,0,none⟩ u) b u v1 v2 v3 v4:=by
 obtain⟨l,f,c0,c1,c2,c3,c4⟩:=h
 exact⟨by simpa using l,fun o=>by simp[f],by simp[c0,go_sem],by simp[c1,go_sem],by simp[c2,go_sem],by simp[c3,go_sem],by simp[c4,go_sem]⟩
theorem OB.xY (h:OB w b v0 v1 v2 v3 v4) (u:Value):OB (w.setCell ⟨b,1,none⟩ u) b v0 u v2 v3 v4:=by
 obtain⟨l,f,c0,c1,c2,c3,c4⟩:=h
 exact⟨by simpa using l,fun o=>by simp[f],by simp[c0,go_sem],by simp[c1,go_sem],by simp[c2,go_sem],by simp[c3,go_sem],by simp[c4,go_sem]⟩
theorem OB.rV (h:OB w b v0 v1 v2 v3 v4) (u:Value):OB (w.setCell ⟨b,2,none⟩ u) b v0 v1 u v3 v4:=by
 obtain⟨l,f,c0,c1,c2,c3,c4⟩:=h
 exact⟨by simpa using l,fun o=>by simp[f],by simp[c0,go_sem],by simp[c1,go_sem],by simp[c2,go_sem],by simp[c3,go_sem],by simp[c4,go_sem]⟩
theorem OB.rT (h:OB w b v0 v1 v2 v3 v4) (u:Value):OB (w.setCell ⟨b,3,none⟩ u) b v0 v1 v2 u v4:=by
 obtain⟨l,f,c0,c1,c2,c3,c4⟩:=h
 exact⟨by simpa using l,fun o=>by simp[f],by simp[c0,go_sem],by simp[c1,go_sem],by simp[c2,go_sem],by simp[c3,go_sem],by simp[c4,go_sem]⟩
theorem OB.CZ (h:OB w b v0 v1 v2 v3 v4) (u:Value):OB (w.setCell ⟨b,4,none⟩ u) b v0 v1 v2 v3 u:=by
 obtain⟨l,f,c0,c1,c2,c3,c4⟩:=h
 exact⟨by simpa using l,fun o=>by simp[f],by simp[c0,go_sem],by simp[c1,go_sem],by simp[c2,go_sem],by simp[c3,go_sem],by simp[c4,go_sem]⟩
end
structure tW (w:World) (N:Nat) (wx:World) (b q r:Nat) (v0 v1 v2 v3 v4 v5 v6 v7 v8 v9 v10 v11 v12:Value) (s0 s1 s2 s3 s4 s5 s6 s7 s8 s9 s10 s11 s12:Value) (l:List o7):Prop where
 cl:ClS w N wx b v0 v1 v2 v3 v4 v5 v6 v7 v8 v9 v10 v11 v12 l
 sb:SB wx q s0 s1 s2 s3 s4 s5 s6 s7 s8 s9 s10 s11 s12
 rb:SB wx r (.slice none 0 0) (.slice none 0 0) (.slice none 0 0) (.slice none 0 0) (.string ByteArray.empty) (.int .i64 0) (.slice none 0 0) (.slice none 0 0) (.slice none 0 0) (.bool false) (.int .i64 0) (.int .i64 0) (.int .i64 0)
 ne:q≠b/\r≠b/\q<N/\r<N/\w.heap.size<=r
section
variable {w wx wy:World} {N b q r:Nat} {v0 v1 v2 v3 v4 v5 v6 v7 v8 v9 v10 v11 v12 s0 s1 s2 s3 s4 s5 s6 s7 s8 s9 s10 s11 s12:Value} {l:List o7} {e:o7}
theorem tW.on (h:tW w N wx b q r v0 v1 v2 v3 v4 v5 v6 v7 v8 v9 v10 v11 v12 s0 s1 s2 s3 s4 s5 s6 s7 s8 s9 s10 s11 s12 l) (k:U wx wy):tW w N wy b q r v0 v1 v2 v3 v4 v5 v6 v7 v8 v9 v10 v11 v12 s0 s1 s2 s3 s4 s5 s6 s7 s8 s9 s10 s11 s12 l:=⟨h.cl.on k,h.sb.on k,h.rb.on k,h.ne⟩
theorem tW.next (h:tW w N wx b q r v0 v1 v2 v3 v4 v5 v6 v7 v8 v9 v10 v11 v12 s0 s1 s2 s3 s4 s5 s6 s7 s8 s9 s10 s11 s12 l) (hb:U wx wy) {E:TypeId} {k:Nat} {u:Value} {L:List Nat} {ds:List (List Y)} (ho:dK wy E k u L ds) (hn:∀x,iG u L x->wx.heap.size<=x) (o:Nat) {u0 u1 u2 u3 u4 u5 u6 u7 u8 u9 rX rY qu:Value} (jl:SB (wy.setCell ⟨b,o,none⟩ u) b u0 u1 u2 u3 u4 u5 u6 u7 u8 u9 rX rY qu):tW w N (wy.setCell ⟨b,o,none⟩ u) b q r u0 u1 u2 u3 u4 u5 u6 u7 u8 u9 rX rY qu s0 s1 s2 s3 s4 s5 s6 s7 s8 s9 s10 s11 s12 (l++[⟨E,k,u,L,ds⟩]) :=
 ⟨h.cl.next hb ho hn o jl,(h.sb.on hb).td o u (fun e=>h.ne.1 e.symm),(h.rb.on hb).td o u (fun e=>h.ne.2.1 e.symm),h.ne⟩
theorem tW.grow (h:tW w N wx b q r v0 v1 v2 v3 v4 v5 v6 v7 v8 v9 v10 v11 v12 s0 s1 s2 s3 s4 s5 s6 s7 s8 s9 s10 s11 s12 (l++[e])) {wm:World} (hm:U wx wm) (hg:wm.grownBy wy e.v.ownBlock) {e':o7} (ho:dK wy e'.E e'.k e'.v e'.L e'.ds) (hn:∀x,iG e'.v e'.L x->iG e.v e.L x\/wx.heap.size<=x) :
  SB wy b v0 v1 v2 v3 v4 v5 v6 v7 v8 v9 v10 v11 v12/\∀(o:Nat) (u:Value) {u0 u1 u2 u3 u4 u5 u6 u7 u8 u9 rX rY qu:Value},SB (wy.setCell ⟨b,o,none⟩ u) b u0 u1 u2 u3 u4 u5 u6 u7 u8 u9 rX rY qu->tW w N (wy.setCell ⟨b,o,none⟩ u) b q r u0 u1 u2 u3 u4 u5 u6 u7 u8 u9 rX rY qu s0 s1 s2 s3 s4 s5 s6 s7 s8 s9 s10 s11 s12 (l++[e']):=by
 have Bm:∀k,e.v.ownBlock=some k->N<=k:=fun k hk=>h.cl.gv.low e aJ k (Or.inl hk)
 have hN:=h.cl.low
 have hs:=hm.size
 have hgs:=hg.size
 have old:∀k,k<N->k<wx.heap.size->wy.heap[k]?=wx.heap[k]?:=fun k hk hl=>(hg.block k aF (fun q=>by have:=Bm k q.symm;omega)).trans (Below.block hm k hl)
 have yT:=h.cl.box.1
 have hql:=h.sb.1
 have hrl:=h.rb.1
 have B9:=h.cl.box.block aF (old b hN.2.1 yT)
 have hB:U w wy:=⟨hg.os.trans (hm.os.trans h.cl.de.os),hg.tape.trans (hm.tape.trans h.cl.de.tape),hg.output.trans (hm.output.trans h.cl.de.output),by have:=h.cl.de.size;omega,fun k hk=>(old k aF aF).trans (Below.block h.cl.de k hk)⟩
 refine⟨B9,fun o u _ _ _ _ _ _ _ _ _ _ _ _ _ jl=>⟨⟨jl,(h.cl.gv.grow hm hg hN.2.2 ho hn).td hN.2.1 o u,Below.setCell hB hN.1 u,hN.1,hN.2.1,by simp only[World.size_setCell];omega⟩,(h.sb.block aF (old q h.ne.2.2.1 hql)).td o u (fun e=>h.ne.1 e.symm),(h.rb.block aF (old r h.ne.2.2.2.1 hrl)).td o u (fun e=>h.ne.2.1 e.symm),h.ne⟩⟩
end
theorem gL.afj {N M:Nat} {w:World} {l:List o7} (h:gL N w l) (hm:M<=N):gL M w l:=⟨h.own,fun e he b hb=>aw hm (h.low e he b hb),h.sep⟩
def cr.its:cr->List R | .mk _ _ _ i _=>i
def cr.fO:cr->List R | .mk _ _ _ _ k=>k
theorem Fq:∀(l:List cr) (i:Nat) (h:i<l.length),l[i].its.length+l[i].fO.length<=Y.C6 (l.map cr.D)
 | .mk a b c d e :: r,0,_=>by
  simp only[ag,cr.its,cr.fO,List.map_cons,Y.C6,cr.iM,Y.Gf,Y.ln,ar]
  omega
 | x :: r,i+1,h=>by
  have:=Fq r i bR
  simp only[aj,List.map_cons,Y.C6]
  omega
theorem Fs:∀(l:List cw) (i:Nat) (h:i<l.length),l[i].fl.length<=Y.C6 (l.map cw.D)
 | .mk a b c :: r,0,_=>by
  simp only[ag,cw.fl,List.map_cons,Y.C6,cw.iM,Y.Gf,Y.ln,ar]
  omega
 | x :: r,i+1,h=>by
  have:=Fs r i bR
  simp only[aj,List.map_cons,Y.C6]
  omega
def aa0 (w:World) (x0:List cx) (x1:List cw) (x2:List cr) (x3:List R) (x4:cx) (x5:Int) (x6 x7:List cx) (x8:List cV) (x9:Bool) (F G Z:Int) (e:Ending) (w':World):Prop :=
 ∃(v0 v1 v2 v3 v6 v7 v8:Value) (L0 L1 L2 L3 L6 L7 L8:List Nat),e=.returned (.agg #[v0,v1,v2,v3,.string x4,.int .i64 x5,v6,v7,v8,.bool x9,.int .i64 F,.int .i64 G,.int .i64 Z]) /\
  gL w.heap.size w' [⟨9,1,v0,L0,x0.map (fun x=>[Y.str x])⟩,⟨109,3,v1,L1,x1.map cw.D⟩,⟨81,5,v2,L2,x2.map cr.D⟩,⟨34,6,v3,L3,x3.map R.D⟩,⟨9,1,v6,L6,x6.map (fun x=>[Y.str x])⟩,⟨9,1,v7,L7,x7.map (fun x=>[Y.str x])⟩,⟨76,2,v8,L8,x8.map cV.D⟩]/\U w w'
abbrev Qg (f:FuncId):Prop:=∀(x0:List cx) (x1:List cw) (x2:List cr) (x3:List R) (x4:cx) (x5:Int) (x6 x7:List cx) (x8:List cV) (x9:Bool) (F G Z:Int) (S:Nat->Prop) (w:World) (vs:List Value),
 Y.cA w S (O.mk x0 x1 x2 x3 x4 x5 x6 x7 x8 x9 F G Z).D vs->Y.Gf (O.mk x0 x1 x2 x3 x4 x5 x6 x7 x8 x9 F G Z).D<=1048576->Calls prog f #[.agg vs.toArray] w (aa0 w x0 x1 x2 x3 x4 x5 x6 x7 x8 x9 F G Z)
theorem sI:afi 90:=by
 intro xs S w A c hR hx
 have HR:=I hR
 have IJ:=hR.1
 have gX:=hR.2.1
 simp only[ar]at IJ
 unfold maxLen at gX
 clear hR
 obtain⟨iv,ye,DN,DO,DP⟩:=info_parts o9
 have py:=I (dK.tV w 34 6)
 obtain⟨nw,mi⟩:=Row.src (tT xs) (Row.de (show U w (w.alloc (.cells #[] 34))from bl) HR.out)
 rw[ar]at mi
 have sv:=I mi
 clear mi
 go_enter func90,ntmps90
 go_wp2_with (at_builtin;refine fg rfl (.tmp 3) (.tmp 4) 27 rfl 34 iv (.agg #[.int .i64 0,.int .i64 0,.int .i64 0,.string ByteArray.empty,.int .i64 0,.int .i64 0]) 6 56 underlying27 ye DN DO DP aI aI py.out sv.out c rfl rfl (fun b _ h=>by cases h) ?c2 ?c3 ?_)
 case c2=>simp only[aE];omega
 case c3=>simp only[aE];unfold maxLen;omega
 intro v9 w9 mq mr lp
 have hq:=kQ mr lp
 have HQ:=I hq
 have ng:=I (show dK w9 34 6 v9 [] (xs.map R.D)from mq)
 clear mq mr lp hq
 go_wp2_with (fail)
 all_goals
  go_returns
  exact⟨v9,rfl,ng.out,HQ.out.2,HQ.out.1⟩
def waitsFor (ops:Array Oper) (j:Nat):List Nat:=match ops[j]? with
 | some o=>(o.after.toList.filter (fun e=>Region.binds .any e)).map (·.on)
 | none=>[]
def mL (ops:Array Oper):Nat->List Nat->List Nat
 | 0,s=>s
 | f+1,s=>mL ops f (s++s.flatMap (waitsFor ops)).eraseDups
def se (u:Nat->Value):List (Option Tmp)->Nat->Act->Act
 | [],_,a=>a
 | d :: r,k,a=>se u r (k+1) (a.put d (u k))
def Vm:List (Option Tmp)->Nat->List (Nat × Option Tmp)
 | [],_=>[]
 | d :: r,k=>(k,d) :: Vm r (k+1)
def gZ (u:Nat->Value):List (Nat × Option Tmp)->Act->Act
 | [],a=>a
 | (k,d) :: r,a=>gZ u r (a.put d (u k))
theorem BM (u:Nat->Value):∀(l:List (Option Tmp)) (k:Nat) (a:Act),gZ u (Vm l k) a=se u l k a
 | [],_,_=>rfl
 | d :: r,k,a=>BM u r (k+1) (a.put d (u k))
def sJ (ops:Array Oper):List (Option Tmp):=ops.toList.map (·.dst)
def sf (u:Nat->Value) (i:Nat) (v:Value):Nat->Value:=fun j=>if j=i then v else u j
def BN:List (Option Tmp)->Bool
 | []=>true
 | d :: r=>(d.isNone||r.all (fun e=>e != d))&&BN r
def Ft (ops:Array Oper) (m:Nat):Bool :=
 (List.range ops.size).all (fun j=>(waitsFor ops j).all (fun k=>decide (k<j)))&&BN (sJ ops)&&(List.range m).all (fun j=>(mL ops 12 [m]).contains j)&&decide (ops.size=m+1)&&ops.toList.all (fun o=>o.guard.isNone)
theorem BO {u u':Nat->Value}:∀(l:List (Option Tmp)) (k:Nat) (a:Act),(∀j,k<=j->u j=u' j)->se u l k a=se u' l k a
 | [],_,_,_=>rfl
 | d :: r,k,a,h=>by
  simp only[se]
  rw[h k (Nat.le_refl k)]
  exact BO r (k+1) _ (fun j hj=>h j aF)
theorem Vn (a:Act) (d:Option Tmp) (x v:Value):(a.put d x).put d v=a.put d v:=by
 cases d with
 | none=>rfl
 | some t=>simp[Act.put]
theorem GY {u:Nat->Value} {d:Option Tmp} (v:Value):∀(l:List (Option Tmp)) (k:Nat) (a:Act),(d.isNone||l.all (fun e=>e != d))=true->(se u l k a).put d v=se u l k (a.put d v)
 | [],_,_,_=>rfl
 | e :: r,k,a,h=>by
  simp only[se]
  have hr:(d.isNone||r.all (fun e=>e != d))=true:=by
   cases hd:d.isNone
   ·
    simp only[hd,Bool.false_or,List.all_cons,Bool.and_eq_true]at h |-
    exact h.2
   ·
    rfl
  rw[GY v r (k+1) _ hr]
  congr 1
  refine Act.put_comm a _ _ fun t ht hd=>?_
  subst hd
  simp[ht]at h
theorem BP {u:Nat->Value} (v:Value):∀(l:List (Option Tmp)) (k i:Nat) (d:Option Tmp) (a:Act),BN l=true->l[i]?=some d->(se u l k a).put d v=se (sf u (k+i) v) l k a
 | [],_,_,_,_,_,h=>by simp at h
 | e :: r,k,0,d,a,hp,h=>by
  obtain rfl:e=d:=by simpa using h
  simp only[BN,Bool.and_eq_true]at hp
  simp only[se]
  rw[GY v r (k+1) _ hp.1,Vn]
  have e2:sf u (k+0) v k=v:=by simp[sf]
  rw[e2]
  exact BO r (k+1) _ (fun j hj=>by simp only[sf];rw[if_neg aF])
 | e :: r,k,i+1,d,a,hp,h=>by
  simp only[BN,Bool.and_eq_true]at hp
  simp only[se]
  rw[BP v r (k+1) i d _ hp.2 bR,show k+1+i=k+(i+1) by omega]
  have e2:sf u (k+(i+1)) v k=u k:=by simp only[sf];rw[if_neg aF]
  rw[e2]
theorem Qh (a:Act) (d:Option Tmp):a.put d ((d.map (fun t=>a.tmps.getD t undef)).getD undef)=a:=by
 cases d with
 | none=>rfl
 | some t =>
  simp only[Act.put,Option.map_some,Option.getD_some]
  congr 1
  refine Array.ext aJ fun i h1 h2=>?_
  rw[Array.getElem_setIfInBounds (by simpa using h2)]
  split
  ·
   rename_i e
   subst e
   simp[h2]
  ·
   rfl
theorem zb (a:Act):∀(l:List (Option Tmp)) (k:Nat) (u:Nat->Value),(∀i d,l[i]?=some d->u (k+i)=(d.map (fun t=>a.tmps.getD t undef)).getD undef)->se u l k a=a
 | [],_,_,_=>rfl
 | d :: r,k,u,h=>by
  simp only[se]
  have h0:=h 0 d aJ
  rw[Nat.add_zero]at h0
  rw[h0,Qh]
  exact zb a r (k+1) u (fun i e he=>by rw[show k+1+i=k+(i+1) by omega];exact h (i+1) e (by simpa using he))
theorem DZ {p p':Nat->Bool}:∀{l:List Nat} {i:Nat},i∈l->p i=true->p' i=false->(∀j,p' j=true->p j=true)->l.countP p'<l.countP p
 | x :: r,i,hm,h1,h2,h=>by
  rw[List.countP_cons,List.countP_cons]
  rcases List.mem_cons.1 hm with rfl | hm
  ·
   have:=List.countP_mono_left (l:=r) (fun j _ hj=>h j hj)
   simp only[h1,h2,if_true,Bool.false_eq_true,if_false]
   omega
  ·
   have:=DZ hm h1 h2 h
   cases q:p' x
   ·
    simp only[Bool.false_eq_true,if_false]
    split <;> omega
   ·
    simp only[h x q,if_true]
    omega
section
variable {P:Program} {ops:Array Oper} {Q:Exit->Act->World->Prop}
def sK (ops:Array Oper) (listed:Array Bool):Prop:=∀j,listed.getD j false=true->∀k∈waitsFor ops j,listed.getD k false=true
theorem kM {listed:Array Bool} (hc:sK ops listed):∀(f:Nat) (s:List Nat),(∀j∈s,listed.getD j false=true)->∀j∈mL ops f s,listed.getD j false=true
 | 0,_,h,j,hj=>h j hj
 | f+1,s,h,j,hj=>kM hc f _ (fun i hi=>by
   rw[List.mem_eraseDups,List.mem_append]at hi
   rcases hi with hi | hi
   ·
    exact h i hi
   ·
    obtain⟨k,hk,hki⟩:=List.mem_flatMap.1 hi
    exact hc k (h k hk) i hki) j hj
theorem tX {j:Nat} {listed:Array Bool} (h:j∈Region.ready .any ops listed):∀k∈waitsFor ops j,listed.getD k false=true:=by
 obtain⟨-,o,ho,fh⟩:=mem_ready.1 h
 intro k hk
 unfold waitsFor at hk
 rw[ho]at hk
 simp only[List.mem_map,List.mem_filter,Array.mem_toList_iff]at hk
 obtain⟨e,⟨he,hb⟩,rfl⟩:=hk
 exact fh e he hb
theorem gI {l:Array Bool} {j:Nat} (h:j<l.size) (d:Bool):l.getD j d=l[j]:=by simp[h]
theorem mP {listed:Array Bool} {i:Nat} (hc:sK ops listed) (hr:i∈Region.ready .any ops listed):sK ops (listed.setIfInBounds i true):=by
 intro j hj k hk
 refine getD_set_true ?_
 by_cases h:i=j
 ·
  subst h
  exact tX hr k hk
 ·
  rw[getD_set_ne false h]at hj
  exact hc j hj k hk
theorem zc {listed:Array Bool} (hw:∀j,j<ops.size->∀k∈waitsFor ops j,k<j) (hs:listed.size=ops.size) (hr:Region.ready .any ops listed=[]):∀(n j:Nat),j<n->j<ops.size->listed.getD j false=true
 | 0,_,h,_=>by omega
 | n+1,j,h,hj=>by
  cases hb:listed.getD j false with
  | true=>rfl
  | false =>
   exfalso
   have hm:j∈Region.ready .any ops listed:=by
    refine mem_ready.2 ⟨by rw[gI aF]at hb |-;exact hb,ops[j],Array.getElem?_eq_getElem hj,fun e he TZ=>?_⟩
    have hk:e.on∈waitsFor ops j:=by
     unfold waitsFor
     rw[Array.getElem?_eq_getElem hj]
     exact List.mem_map.2 ⟨e,List.mem_filter.2 ⟨Array.mem_toList_iff.2 he,TZ⟩,rfl⟩
    have:=hw j hj _ hk
    exact zc hw hs hr n e.on aF aF
   rw[hr]at hm
   cases hm
theorem rU {X cn:Prop} {b:Bool} (hG:X\/(cn/\b=false)) (h:b=true):X:=hG.resolve_right fun q=>by rw[h]at q;cases q.2
end
def qF (dep:Nat->List Nat) (j:Nat) (u:Nat->Value):Nat->Value:=fun k=>if k=j\/(dep j).contains k=true then u k else undef
def XP (ops:Array Oper) (dep:Nat->List Nat) (m:Nat):Bool:=(List.range m).all (fun j=>(dep j).all (fun k=>(mL ops 12 (waitsFor ops j)).contains k))
theorem Mf {dep:Nat->List Nat} {i j:Nat} {u:Nat->Value} {v:Value} (hj:j≠i) (hd:(dep j).contains i=false):qF dep j (sf u i v)=qF dep j u:=by
 funext k
 unfold qF
 by_cases h:k=j\/(dep j).contains k=true
 ·
  rw[if_pos h,if_pos h]
  unfold sf
  rw[if_neg]
  rintro rfl
  rcases h with h | h
  ·
   exact hj h.symm
  ·
   rw[hd]at h;cases h
 ·
  rw[if_neg h,if_neg h]
section
variable {P:Program} {ops:Array Oper} {Q:Exit->Act->World->Prop}
def StU (ops:Array Oper) (dep:Nat->List Nat) (φ:Nat->(Nat->Value)->World->Prop) (G0 G1:World->Prop) (p:Nat) (base:Act) (listed:Array Bool) (a:Act) (w:World):Prop :=
 ∃u,a=se u (sJ ops) 0 base/\(listed.getD p false=false->G0 w)/\(listed.getD p false=true->G1 w)/\∀j,listed.getD j false=true->φ j (qF dep j u) w
def BQ (P:Program) (ops:Array Oper) (Q:Exit->Act->World->Prop) (dep:Nat->List Nat) (φ:Nat->(Nat->Value)->World->Prop) (cp:World->World->Prop) (G0 G1:World->Prop) (p:Nat) (T:(Nat->Value)->Act) (i:Nat) (o:Oper):Prop :=
 ∀(u:Nat->Value) (w:World),G0 w\/(G1 w/\(mL ops 12 [p]).contains i=false)->(∀j,(mL ops 12 (waitsFor ops i)).contains j=true->φ j (qF dep j u) w)->∀K:Act->World->Prop,
  Shut (∀v w',cp w w'->φ i (qF dep i (sf u i v)) w'->K ((T u).put o.dst v) w')->Oper.wp P o (T u) w K Q
theorem xC {ops:Array Oper} {dep:Nat->List Nat} {φ:Nat->(Nat->Value)->World->Prop} {cp:World->World->Prop} {G0 G1:World->Prop} {p:Nat} {T:(Nat->Value)->Act} {i m:Nat} (h:m<=i):∀j,i<=j->j<m->∀o,ops[j]?=some o->j≠p->BQ P ops Q dep φ cp G0 G1 p T j o:=fun j h1 h2=>by omega
theorem tH {ops:Array Oper} {dep:Nat->List Nat} {φ:Nat->(Nat->Value)->World->Prop} {cp:World->World->Prop} {G0 G1:World->Prop} {p p2:Nat} {T:(Nat->Value)->Act} {m:Nat}
  (hs:∀j,p2<=j->j<m->∀o,ops[j]?=some o->j≠p->BQ P ops Q dep φ cp G0 G1 p T j o) (h2:p2=p+1:=by rfl):∀j,p<=j->j<m->∀o,ops[j]?=some o->j≠p->BQ P ops Q dep φ cp G0 G1 p T j o:=fun j h1 h3 o ho hp=>hs j aF h3 o ho hp
theorem dO {ops:Array Oper} {dep:Nat->List Nat} {φ:Nat->(Nat->Value)->World->Prop} {cp:World->World->Prop} {G0 G1:World->Prop} {p:Nat} {T:(Nat->Value)->Act} {i i2 m:Nat} {o:Oper} (ho:ops[i]?=some o) (h:BQ P ops Q dep φ cp G0 G1 p T i o)
  (hs:∀j,i2<=j->j<m->∀o,ops[j]?=some o->j≠p->BQ P ops Q dep φ cp G0 G1 p T j o) (hi:i2=i+1:=by rfl):∀j,i<=j->j<m->∀o,ops[j]?=some o->j≠p->BQ P ops Q dep φ cp G0 G1 p T j o:=fun j h1 h2 o' Ur hp=>by
 rcases Nat.lt_or_ge i j with h3 | h3
 ·
  exact hs j aF h2 o' Ur hp
 ·
  obtain rfl:j=i:=by omega
  rw[ho]at Ur
  obtain rfl:=Option.some.inj Ur
  exact h
theorem nP {id:Nat} {base:Act} {w:World} (m p:Nat) (dep:Nat->List Nat) (φ:Nat->(Nat->Value)->World->Prop) (cp R':World->World->Prop) (G0 G1:World->Prop) (ds:List (Nat × Option Tmp)) {op ol:Oper} (Vl:Vm (sJ ops) 0=ds)
  (hf:Ft ops m=true) (hdp:XP ops dep m=true) (hm:P.follows .mixedOrders=true) (hpm:p<m) (hG:G0 w.drew) (hR:∀j (v:Nat->Value) w w',cp w w'->φ j v w->φ j v w') (hR':∀j (v:Nat->Value) w w',j≠p->R' w w'->φ j v w->φ j v w') (hG0:∀w w',cp w w'->G0 w->G0 w') (hG1:∀w w',cp w w'->G1 w->G1 w')
  (hop:ops[p]?=some op) (hol:ops[m]?=some ol)
  (hstep:∀i,0<=i->i<m->∀o,ops[i]?=some o->i≠p->BQ P ops Q dep φ cp G0 G1 p (fun u=>gZ u ds base) i o)
  (hp:∀(u:Nat->Value) (w:World),G0 w->(∀j,(mL ops 12 (waitsFor ops p)).contains j=true->φ j (qF dep j u) w)->∀K:Act->World->Prop,
   Shut (∀v w',R' w w'->G1 w'->φ p (qF dep p (sf u p v)) w'->K ((gZ u ds base).put op.dst v) w') ->
   Oper.wp P op (gZ u ds base) w K Q)
  (hlast:∀(u:Nat->Value) (w:World),G1 w->(∀j,j<m->φ j (qF dep j u) w)->∀K:Act->World->Prop,
   Shut (∀v w',Q .normal ((gZ u ds base).put ol.dst v) w'->K ((gZ u ds base).put ol.dst v) w') ->
   Oper.wp P ol (gZ u ds base) w K Q):(Code.region id ops true).wp P Q base w:=by
 subst Vl
 simp only[BM]at hstep hp hlast
 unfold XP at hdp
 simp only[List.all_eq_true,List.mem_range]at hdp
 unfold Ft at hf
 simp only[Bool.and_eq_true,List.all_eq_true,List.mem_range,decide_eq_true_eq]at hf
 obtain⟨⟨⟨⟨hw,pL⟩,fh⟩,zx⟩,Mg⟩:=hf
 have plain:∀(i:Nat) (o:Oper) (y:Nat->Option Bool),ops[i]?=some o->Region.wanted o y=true:=fun i o y ho=>by
  have h1:=Mg o (Array.mem_toList_iff.2 (Array.mem_of_getElem? ho))
  unfold Region.wanted
  cases hq:o.guard with
  | none=>rfl
  | some q=>rw[hq]at h1;cases h1
 have jP:∀j,j<ops.size->∀k∈waitsFor ops j,k<j:=fun j hj k hk=>hw j hj k hk
 have Qi:∀listed:Array Bool,sK ops listed->listed.getD m false=true->∀j,j<m->listed.getD j false=true:=fun listed hc h j hj =>
  kM hc 12 [m] (fun k hk=>by rw[List.mem_singleton.1 hk];exact h) j (by have:=fh j hj;simpa using this)
 have key:∀(fuel:Nat) (listed:Array Bool) (a:Act) (w:World),listed.size=ops.size->sK ops listed->listed.getD m false=false->StU ops dep φ G0 G1 p base listed a w->(List.range ops.size).countP (fun j=>!listed.getD j true)<=fuel->wpAny P .any ops Q fuel listed a w:=by
  intro fuel
  induction fuel with
  | zero =>
   exact XQ
  | succ fuel ih =>
   intro listed a w hs hc hl hI hn
   refine⟨fun hr=>?_,fun i hi=>?_⟩
   ·
    have:=zc jP hs hr (m+1) m aF aF
    rw[this]at hl
    cases hl
   ·
    obtain⟨Jl,o,ho,-⟩:=mem_ready.1 hi
    have oQ:i<ops.size:=(Array.getElem?_eq_some_iff.1 ho).1
    have hif:listed.getD i false=false:=by rw[gI aF]at Jl |-;exact Jl
    obtain⟨u,rfl,hg0,Xa,hφ⟩:=hI
    have hd:(sJ ops)[i]?=some o.dst:=by
     unfold sJ
     rw[List.getElem?_map,Array.getElem?_toList,ho]
     rfl
    have kH:∀v,(se u (sJ ops) 0 base).put o.dst v=se (sf u i v) (sJ ops) 0 base:=fun v=>by
     have:=BP (u:=u) v (sJ ops) 0 i o.dst base pL hd
     rwa [Nat.zero_add]at this
    have Ba:(listed.setIfInBounds i true).size=ops.size:=by simpa using hs
    have zE:(listed.setIfInBounds i true).getD i false=true:=by rw[gI aF,Array.getElem_setIfInBounds_self]
    have hcn:(List.range ops.size).countP (fun j=>!(listed.setIfInBounds i true).getD j true)<=fuel:=by
     exact XR
    have uy:∀j,listed.getD j false=true->j<m:=fun j hj=>by
     rcases Nat.lt_or_ge j ops.size with h | h
     ·
      exact XS
     ·
      rw[Array.getD_eq_getD_getElem?,Array.getElem?_eq_none aF]at hj
      cases hj
    have akN:∀j,listed.getD j false=true->(dep j).contains i=false:=fun j hj=>by
     cases hb:(dep j).contains i with
     | false=>rfl
     | true =>
      have h3:=hdp j (uy j hj) i (by simpa using hb)
      have h4:=kM hc 12 (waitsFor ops j) (fun k hk=>hc j hj k hk) i (by simpa using h3)
      rw[hif]at h4;cases h4
    have Qj:∀j,(mL ops 12 (waitsFor ops i)).contains j=true->φ j (qF dep j u) w:=fun j hj=>hφ j (kM hc 12 _ (tX hi) j bA)
    have XT:∀(v:Value) w',φ i (qF dep i (sf u i v)) w'->(∀j,j≠i->listed.getD j false=true->φ j (qF dep j u) w')->∀j,(listed.setIfInBounds i true).getD j false=true->φ j (qF dep j (sf u i v)) w':=fun v w' hv hk j hj=>by
     by_cases h:i=j
     ·
      subst h
      exact hv
     ·
      rw[getD_set_ne false h]at hj
      rw[Mf (fun e=>h e.symm) (akN j hj)]
      exact hk j (fun e=>h e.symm) hj
    by_cases him:i=m
    ·
     subst him
     have aa2:o=ol:=by rw[ho]at hol;exact Option.some.inj hol
     subst aa2
     have KG:∀j,j<i->listed.getD j false=true:=fun j hj=>by
      have h3:=Qi _ (mP hc hi) zE j hj
      rwa [getD_set_ne false aF]at h3
     have afl:∀j,j<i->φ j (qF dep j u) w:=fun j hj=>hφ j (KG j hj)
     have XU:∀j,j<ops.size->(listed.setIfInBounds i true).getD j false=true:=fun j hj=>by
      rcases Nat.lt_or_ge j i with h | h
      ·
       exact Qi _ (mP hc hi) zE j h
      ·
       obtain rfl:j=i:=by omega
       exact zE
     have Lv:Region.ready .any ops (listed.setIfInBounds i true)=[]:=by
      exact XV
     exact wpOp_step ho fun K' hK=>(if_pos (plain _ _ _ ho)).mpr <| hlast u w (Xa (KG p hpm)) afl K' (fun v w' hq=>hK _ _ (wpAny_done Lv hq _))
    ·
     have Vo:(listed.setIfInBounds i true).getD m false=false:=by rw[getD_set_ne false him];exact hl
     by_cases hip:i=p
     ·
      subst hip
      have akP:o=op:=by rw[ho]at hop;exact Option.some.inj hop
      subst akP
      refine wpOp_step ho fun K' hK=>(if_pos (plain _ _ _ ho)).mpr <| hp u w (hg0 hif) Qj K' (fun v w' hRw hGw hv=>hK _ _ ?_)
      exact ih _ _ _ Ba (mP hc hi) Vo ⟨sf u i v,kH v,fun h=>(by rw[zE]at h;cases h),fun _=>hGw,XT v w' hv (fun j hj hl=>hR' j _ _ _ hj hRw (hφ j hl))⟩ hcn
     ·
      refine wpOp_step ho fun K' hK=>(if_pos (plain _ _ _ ho)).mpr <| hstep i (Nat.zero_le _) aF o ho hip u w ?_ Qj K' (fun v w' hRw hv=>hK _ _ ?_)
      ·
       cases hpl:listed.getD p false with
       | false=>exact Or.inl (hg0 hpl)
       | true =>
        refine Or.inr ⟨Xa hpl,?_⟩
        cases hb:(mL ops 12 [p]).contains i with
        | false=>rfl
        | true =>
         have h3:=kM hc 12 [p] (fun k hk=>by rw[List.mem_singleton.1 hk];exact hpl) i (by simpa using hb)
         rw[hif]at h3
         cases h3
      ·
       have hpe:(listed.setIfInBounds i true).getD p false=listed.getD p false:=getD_set_ne false hip
       exact ih _ _ _ Ba (mP hc hi) Vo ⟨sf u i v,kH v,fun h=>hG0 _ _ hRw (hg0 (by rw[hpe]at h;exact h)),fun h=>hG1 _ _ hRw (Xa (by rw[hpe]at h;exact h)),XT v w' hv (fun j hj hl=>hR j _ _ _ hRw (hφ j hl))⟩ hcn
 have Mh:∀j,(Array.replicate ops.size false).getD j false=true->False:=fun j hj=>by
  by_cases h:j<ops.size
  ·
   rw[gI bR]at hj;simp at hj
  ·
   simp[Array.getElem?_eq_none (show (Array.replicate ops.size false).size<=j by simpa using h)]at hj
 refine wp_region_any hm (key ops.size _ _ _ aJ (fun j hj=>(Mh j hj).elim) ?_ ⟨fun j=>(((sJ ops)[j]?.getD none).map (fun t=>base.tmps.getD t undef)).getD undef,?_,fun _=>hG,fun h=>(Mh p h).elim,fun j hj=>(Mh j hj).elim⟩ ?_)
 ·
  rw[gI aH];simp
 ·
  symm
  refine zb base (sJ ops) 0 _ fun i d hd=>?_
  simp only[Nat.zero_add,hd,Option.getD_some]
 ·
  have:=List.countP_le_length (l:=List.range ops.size) (p:=fun j=>!(Array.replicate ops.size false).getD j true)
  simpa using this
theorem fU {ops:Array Oper} {X:Nat->Prop} {i:Nat} (hf:∀j,(mL ops 12 (waitsFor ops i)).contains j=true->X j) (j:Nat) (h:(mL ops 12 (waitsFor ops i)).contains j=true):X j:=hf j h
end
def Mi (s:Nat->Bool) (i:Nat):Nat->Bool:=fun j=>if j=i then true else s j
theorem Qk {listed:Array Bool} {i:Nat} (hi:i<listed.size):(fun j=>(listed.setIfInBounds i true).getD j false)=Mi (fun j=>listed.getD j false) i:=by
 funext j
 unfold Mi
 by_cases h:j=i
 ·
  subst h
  rw[if_pos rfl,gI bD,Array.getElem_setIfInBounds_self]
 ·
  rw[if_neg h]
  exact getD_set_ne false (fun e=>h e.symm)
section
variable {P:Program} {ops:Array Oper} {Q:Exit->Act->World->Prop}
end
def GZ (A C:List Nat) (s:Nat->Bool) (u:Nat->Value) (w:World):Prop :=
 (∀a,a∈A++C->s a=true->∀b,(u a).ownBlock=some b->b<w.heap.size)/\∀a,a∈A->∀c,c∈C->s a=true->s c=true->∀b,(u a).ownBlock=some b->(u c).ownBlock≠some b
theorem GZ.none {A C:List Nat} {u:Nat->Value} {w:World}:GZ A C (fun _=>false) u w:=⟨fun _ _ h=>(by cases h),fun _ _ _ _ h=>(by cases h)⟩
theorem GZ.on {A C:List Nat} {s:Nat->Bool} {u:Nat->Value} {w w':World} (h:GZ A C s u w) (hs:w.heap.size<=w'.heap.size):GZ A C s u w':=⟨fun a ha hb b hc=>au (h.1 a ha hb b hc) hs,h.2⟩
theorem GZ.skip {A C:List Nat} {s:Nat->Bool} {u:Nat->Value} {w w':World} {i:Nat} {v:Value} (hi:(A++C).contains i=false) (h:GZ A C s u w) (hs:w.heap.size<=w'.heap.size):GZ A C (Mi s i) (sf u i v) w':=by
 have ne:∀a,a∈A++C->a≠i:=fun a ha e=>by subst e;rw[List.contains_iff_mem.2 ha]at hi;cases hi
 have e1:∀a,a∈A++C->Mi s i a=s a:=fun a ha=>if_neg (ne a ha)
 have e2:∀a,a∈A++C->sf u i v a=u a:=fun a ha=>if_neg (ne a ha)
 refine⟨fun a ha hb b hc=>?_,fun a ha c hc h1 h2 b h3 h4=>?_⟩
 ·
  rw[e1 a ha]at hb
  rw[e2 a ha]at hc
  exact au (h.1 a ha hb b hc) hs
 ·
  have m1:=List.mem_append.2 (Or.inl ha:a∈A\/a∈C)
  have m2:=List.mem_append.2 (Or.inr hc:c∈A\/c∈C)
  rw[e1 a m1]at h1
  rw[e1 c m2]at h2
  rw[e2 a m1]at h3
  rw[e2 c m2]at h4
  exact h.2 a ha c hc h1 h2 b h3 h4
section
variable {P:Program} {ops:Array Oper} {Q:Exit->Act->World->Prop}
def G4 (P:Program) (ops:Array Oper) (Q:Exit->Act->World->Prop) (cq:(Nat->Bool)->(Nat->Value)->World->Prop) (T:(Nat->Value)->Act) (i:Nat) (o:Oper):Prop :=
 ∀(u:Nat->Value) (w:World) (s:Nat->Bool),s i=false->(∀j,(mL ops 12 (waitsFor ops i)).contains j=true->s j=true)->(∀k,s k=true->∀j,(waitsFor ops k).contains j=true->s j=true)->cq s u w->∀K:Act->World->Prop,
  Shut (∀v w',cq (Mi s i) (sf u i v) w'->K ((T u).put o.dst v) w')->Oper.wp P o (T u) w K Q
theorem fW {cq:(Nat->Bool)->(Nat->Value)->World->Prop} {T:(Nat->Value)->Act} {i m:Nat} (h:m<=i):∀j,i<=j->j<m->∀o,ops[j]?=some o->G4 P ops Q cq T j o:=fun j h1 h2=>by omega
theorem ct {cq:(Nat->Bool)->(Nat->Value)->World->Prop} {T:(Nat->Value)->Act} {i i2 m:Nat} {o:Oper} (ho:ops[i]?=some o) (h:G4 P ops Q cq T i o)
  (hs:∀j,i2<=j->j<m->∀o,ops[j]?=some o->G4 P ops Q cq T j o) (hi:i2=i+1:=by rfl):∀j,i<=j->j<m->∀o,ops[j]?=some o->G4 P ops Q cq T j o:=fun j h1 h2 o' Ur=>by
 rcases Nat.lt_or_ge i j with h3 | h3
 ·
  exact hs j aF h2 o' Ur
 ·
  obtain rfl:j=i:=by omega
  rw[ho]at Ur
  obtain rfl:=Option.some.inj Ur
  exact h
theorem ea {id:Nat} {base:Act} {w:World} (m:Nat) (cq:(Nat->Bool)->(Nat->Value)->World->Prop) (ds:List (Nat × Option Tmp)) {ol:Oper} (Vl:Vm (sJ ops) 0=ds)
  (hf:Ft ops m=true) (hm:P.follows .mixedOrders=true) (hJ:∀u,cq (fun _=>false) u w.drew) (hol:ops[m]?=some ol)
  (hstep:∀i,0<=i->i<m->∀o,ops[i]?=some o->G4 P ops Q cq (fun u=>gZ u ds base) i o)
  (hlast:∀(u:Nat->Value) (w:World),(∃s:Nat->Bool,(∀j,j<m->s j=true)/\cq s u w)->∀K:Act->World->Prop,
   Shut (∀v w',Q .normal ((gZ u ds base).put ol.dst v) w'->K ((gZ u ds base).put ol.dst v) w') ->
   Oper.wp P ol (gZ u ds base) w K Q):(Code.region id ops true).wp P Q base w:=by
 subst Vl
 simp only[BM]at hstep hlast
 unfold Ft at hf
 simp only[Bool.and_eq_true,List.all_eq_true,List.mem_range,decide_eq_true_eq]at hf
 obtain⟨⟨⟨⟨hw,pL⟩,fh⟩,zx⟩,Mg⟩:=hf
 have plain:∀(i:Nat) (o:Oper) (y:Nat->Option Bool),ops[i]?=some o->Region.wanted o y=true:=fun i o y ho=>by
  have h1:=Mg o (Array.mem_toList_iff.2 (Array.mem_of_getElem? ho))
  unfold Region.wanted
  cases hq:o.guard with
  | none=>rfl
  | some q=>rw[hq]at h1;cases h1
 have jP:∀j,j<ops.size->∀k∈waitsFor ops j,k<j:=fun j hj k hk=>hw j hj k hk
 have Qi:∀listed:Array Bool,sK ops listed->listed.getD m false=true->∀j,j<m->listed.getD j false=true:=fun listed hc h j hj =>
  kM hc 12 [m] (fun k hk=>by rw[List.mem_singleton.1 hk];exact h) j (by have:=fh j hj;simpa using this)
 have key:∀(fuel:Nat) (listed:Array Bool) (a:Act) (w:World),listed.size=ops.size->sK ops listed->listed.getD m false=false->(∃u,a=se u (sJ ops) 0 base/\cq (fun j=>listed.getD j false) u w)->(List.range ops.size).countP (fun j=>!listed.getD j true)<=fuel->wpAny P .any ops Q fuel listed a w:=by
  intro fuel
  induction fuel with
  | zero =>
   exact XQ
  | succ fuel ih =>
   intro listed a w hs hc hl hI hn
   refine⟨fun hr=>?_,fun i hi=>?_⟩
   ·
    have:=zc jP hs hr (m+1) m aF aF
    rw[this]at hl
    cases hl
   ·
    obtain⟨Jl,o,ho,-⟩:=mem_ready.1 hi
    have oQ:i<ops.size:=(Array.getElem?_eq_some_iff.1 ho).1
    have hif:listed.getD i false=false:=by rw[gI aF]at Jl |-;exact Jl
    obtain⟨u,rfl,hJ0⟩:=hI
    have hd:(sJ ops)[i]?=some o.dst:=by
     unfold sJ
     rw[List.getElem?_map,Array.getElem?_toList,ho]
     rfl
    have kH:∀v,(se u (sJ ops) 0 base).put o.dst v=se (sf u i v) (sJ ops) 0 base:=fun v=>by
     have:=BP (u:=u) v (sJ ops) 0 i o.dst base pL hd
     rwa [Nat.zero_add]at this
    have Ba:(listed.setIfInBounds i true).size=ops.size:=by simpa using hs
    have zE:(listed.setIfInBounds i true).getD i false=true:=by rw[gI aF,Array.getElem_setIfInBounds_self]
    have hcn:(List.range ops.size).countP (fun j=>!(listed.setIfInBounds i true).getD j true)<=fuel:=by
     exact XR
    have uy:∀j,listed.getD j false=true->j<m:=fun j hj=>by
     rcases Nat.lt_or_ge j ops.size with h | h
     ·
      exact XS
     ·
      rw[Array.getD_eq_getD_getElem?,Array.getElem?_eq_none aF]at hj
      cases hj
    by_cases him:i=m
    ·
     subst him
     have aa2:o=ol:=by rw[ho]at hol;exact Option.some.inj hol
     subst aa2
     have KG:∀j,j<i->listed.getD j false=true:=fun j hj=>by
      have h3:=Qi _ (mP hc hi) zE j hj
      rwa [getD_set_ne false aF]at h3
     have XU:∀j,j<ops.size->(listed.setIfInBounds i true).getD j false=true:=fun j hj=>by
      rcases Nat.lt_or_ge j i with h | h
      ·
       exact Qi _ (mP hc hi) zE j h
      ·
       obtain rfl:j=i:=by omega
       exact zE
     have Lv:Region.ready .any ops (listed.setIfInBounds i true)=[]:=by
      exact XV
     exact wpOp_step ho fun K' hK=>(if_pos (plain _ _ _ ho)).mpr <| hlast u w ⟨_,KG,hJ0⟩ K' (fun v w' hq=>hK _ _ (wpAny_done Lv hq _))
    ·
     have Vo:(listed.setIfInBounds i true).getD m false=false:=by rw[getD_set_ne false him];exact hl
     refine wpOp_step ho fun K' hK=>(if_pos (plain _ _ _ ho)).mpr <| hstep i (Nat.zero_le _) aF o ho u w _ hif (fun j hj=>kM hc 12 _ (tX hi) j bA) (fun k hk j hj=>hc k hk j bA) hJ0 K' (fun v w' hJv=>hK _ _ ?_)
     exact ih _ _ _ Ba (mP hc hi) Vo ⟨sf u i v,kH v,by rw[show (fun j=>(listed.setIfInBounds i true).getD j false)=Mi (fun j=>listed.getD j false) i from Qk aF];exact hJv⟩ hcn
 have Mh:∀j,(Array.replicate ops.size false).getD j false=true->False:=fun j hj=>by
  by_cases h:j<ops.size
  ·
   rw[gI bR]at hj;simp at hj
  ·
   simp[Array.getElem?_eq_none (show (Array.replicate ops.size false).size<=j by simpa using h)]at hj
 refine wp_region_any hm (key ops.size _ _ _ aJ (fun j hj=>(Mh j hj).elim) ?_ ⟨fun j=>(((sJ ops)[j]?.getD none).map (fun t=>base.tmps.getD t undef)).getD undef,?_,(by rw[show (fun j=>(Array.replicate ops.size false).getD j false)=(fun _=>false)from funext fun j=>(by cases hq:(Array.replicate ops.size false).getD j false with | false=>rfl | true=>exact (Mh j hq).elim)];exact hJ _)⟩ ?_)
 ·
  rw[gI aH];simp
 ·
  symm
  refine zb base (sJ ops) 0 _ fun i d hd=>?_
  simp only[Nat.zero_add,hd,Option.getD_some]
 ·
  have:=List.countP_le_length (l:=List.range ops.size) (p:=fun j=>!(Array.replicate ops.size false).getD j true)
  simpa using this
end
end Go.Proofs.YtjngkknbpfgdcaaGreatDoor
