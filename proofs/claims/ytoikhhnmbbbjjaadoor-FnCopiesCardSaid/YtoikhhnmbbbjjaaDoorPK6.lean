/- Lists that share no block: one of them grows, wherever it stands. -/
import Derived.Test.YtoikhhnmbbbjjaaDoorPr
import Derived.Test.YtoikhhnmbbbjjaaDoorPK0
import Derived.Test.YtoikhhnmbbbjjaaDoorPBox
namespace Go.Proofs.YtoikhhnmbbbjjaaDoor
set_option linter.unusedVariables false
set_option linter.unusedSimpArgs false
set_option maxRecDepth 100000
open Go.RowKit
theorem Ents.growAt {N:Nat} {w w' wm:World} {la lb:List Ent} {e e':Ent} (h:Ents N w (la++e :: lb)) (hm:Bel w wm) (hg:wm.grownBy w' e.v.ownBlock) (ho:OwnD w' e'.E e'.k e'.v e'.L e'.ds)
  (hn:∀b,Blk e'.v e'.L b→Blk e.v e.L b∨(N≤b∧∀f,f∈la++lb→¬Blk f.v f.L b)):Ents N w' (la++e' :: lb):=by
 have hp:=List.pairwise_append.1 h.sep
 have hq:=List.pairwise_cons.1 hp.2.1
 have sa:∀f∈la,∀b,Blk f.v f.L b→¬Blk e.v e.L b:=fun f hf=>hp.2.2 f hf e (by simp)
 have sb:∀f∈lb,∀b,Blk e.v e.L b→¬Blk f.v f.L b:=fun f hf=>hq.1 f hf
 have hin:∀f,f∈la++lb→f∈la++e :: lb:=fun f hf=>by
  rcases List.mem_append.1 hf with hf | hf
  ·
   exact List.mem_append.2 (Or.inl hf)
  ·
   exact List.mem_append.2 (Or.inr (List.mem_cons_of_mem _ hf))
 have sep:∀f,f∈la++lb→∀b,Blk f.v f.L b→¬Blk e.v e.L b:=fun f hf b hb he=>by
  rcases List.mem_append.1 hf with hf | hf
  ·
   exact sa f hf b hb he
  ·
   exact sb f hf b he hb
 have low:∀b,Blk e'.v e'.L b→N≤b:=fun b hb=>(hn b hb).elim (fun q=>h.low e (by simp) b q) (fun q=>q.1)
 have keep:∀f,f∈la++lb→OwnD w' f.E f.k f.v f.L f.ds:=fun f hf=>by
  refine (h.own f (hin f hf)).keep (Nat.le_trans hm.size hg.size) fun b hb=>?_
  have hl:=(h.own f (hin f hf)).lt b hb
  exact (hg.block b (Nat.lt_of_lt_of_le hl hm.size) (fun q=>sep f hf b hb (Or.inl q.symm))).trans (Below.block hm b hl)
 have apart:∀f,f∈la++lb→∀b,Blk f.v f.L b→¬Blk e'.v e'.L b:=fun f hf b hb hc=>by
  rcases hn b hc with q | q
  ·
   exact sep f hf b hb q
  ·
   exact q.2 f hf hb
 have cases3:∀f,f∈la++e' :: lb→f∈la++lb∨f=e':=fun f hf=>by
  rcases List.mem_append.1 hf with hf | hf
  ·
   exact Or.inl (List.mem_append.2 (Or.inl hf))
  ·
   rcases List.mem_cons.1 hf with hf | hf
   ·
    exact Or.inr hf
   ·
    exact Or.inl (List.mem_append.2 (Or.inr hf))
 refine⟨fun f hf=>?_,fun f hf=>?_,List.pairwise_append.2 ⟨hp.1,List.pairwise_cons.2 ⟨fun f hf b hb hc=>?_,hq.2⟩,fun f hf g hg b hb hc=>?_⟩⟩
 ·
  rcases cases3 f hf with hf | rfl
  ·
   exact keep f hf
  ·
   exact ho
 ·
  rcases cases3 f hf with hf | rfl
  ·
   exact h.low f (hin f hf)
  ·
   exact low
 ·
  exact apart f (List.mem_append.2 (Or.inr hf)) b hc hb
 ·
  rcases List.mem_cons.1 hg with rfl | hg
  ·
   exact apart f (List.mem_append.2 (Or.inl hf)) b hb hc
  ·
   exact hp.2.2 f hf g (List.mem_cons_of_mem _ hg) b hb hc
end Go.Proofs.YtoikhhnmbbbjjaaDoor
namespace Go.Proofs.YtoikhhnmbbbjjaaDoor
set_option linter.unusedVariables false
set_option linter.unusedSimpArgs false
set_option maxRecDepth 100000
open Go.RowKit
structure MkS (N:Nat) (w:World) (q:Nat) (v0 v1 v2 v3 v4 v5 v6 v7 v8 v9 v10 v11 v12:Value) (la lb:List Ent) (L:List Nat) (ds:List (List Dat)):Prop where
 box:SB w q v0 v1 v2 v3 v4 v5 v6 v7 v8 v9 v10 v11 v12
 ents:Ents N w (la++⟨42,5,v2,L,ds⟩ :: lb)
 low:∀f,f∈la++⟨42,5,v2,L,ds⟩ :: lb→¬Blk f.v f.L q
theorem Ents.far2 {N:Nat} {w:World} {l:List Ent} (h:Ents N w l) {b:Nat} (hb:∀f,f∈l→¬Blk f.v f.L b) (o:Nat) (u:Value):Ents N (w.setCell ⟨b,o,none⟩ u) l :=
 h.keep (by simp) fun e he x hx=>set_block o u (fun q=>hb e he (q▸hx))
theorem MkS.on {N:Nat} {w w':World} {q:Nat} {v0 v1 v2 v3 v4 v5 v6 v7 v8 v9 v10 v11 v12:Value} {la lb:List Ent} {L:List Nat} {ds:List (List Dat)} (h:MkS N w q v0 v1 v2 v3 v4 v5 v6 v7 v8 v9 v10 v11 v12 la lb L ds) (k:Bel w w'):MkS N w' q v0 v1 v2 v3 v4 v5 v6 v7 v8 v9 v10 v11 v12 la lb L ds:=⟨h.box.on k,h.ents.bel k,h.low⟩
theorem low_grow {q:Nat} {v2 y:Value} {la lb:List Ent} {L M:List Nat} {ds:List (List Dat)} {d:List Dat} (h:∀f,f∈la++⟨42,5,v2,L,ds⟩ :: lb→¬Blk f.v f.L q) (hy:y.ownBlock=some q→v2.ownBlock=some q) (hM:¬q∈M):∀f,f∈la++⟨42,5,y,L++M,ds++[d]⟩ :: lb→¬Blk f.v f.L q:=by
 intro f hf hc
 rcases List.mem_append.1 hf with hf | hf
 ·
  exact h f (List.mem_append.2 (Or.inl hf)) hc
 ·
  rcases List.mem_cons.1 hf with rfl | hf
  ·
   rcases hc with hc | hc
   ·
    exact h _ (List.mem_append.2 (Or.inr (List.mem_cons_self ..))) (Or.inl (hy hc))
   ·
    rcases List.mem_append.1 hc with hc | hc
    ·
     exact h _ (List.mem_append.2 (Or.inr (List.mem_cons_self ..))) (Or.inr hc)
    ·
     exact hM hc
  ·
   exact h f (List.mem_append.2 (Or.inr (List.mem_cons_of_mem _ hf))) hc
def MadeP (N:Nat) (w:World) (q:Nat) (v0 v1 v2 v3 v4 v5 v6 v7 v8 v9 v10 v11 v12 u12:Value) (la lb:List Ent) (L M:List Nat) (ds:List (List Dat)) (d:List Dat) (r:Value) (e:Ending) (w':World):Prop :=
 ∃y,e=.returned r∧MkS N w' q v0 v1 y v3 v4 v5 v6 v7 v8 v9 v10 v11 u12 la lb (L++M) (ds++[d])∧(w'.os=w.os∧w'.tape=w.tape∧w'.output=w.output∧w.heap.size≤w'.heap.size)∧(∀b,y.ownBlock=some b→v2.ownBlock=some b∨w.heap.size≤b)∧∀k,k<w.heap.size→k≠q→v2.ownBlock≠some k→w'.heap[k]?=w.heap[k]?
set_option maxHeartbeats 4000000 in
theorem addObject_any (N:Nat) (w:World) (q:Nat) (v0 v1 v2 v3 v4 v5 v6 v7 v8 v9 v10 v11 v12:Value) (la lb:List Ent) (L M:List Nat) (ds:List (List Dat)) (d:List Dat) (o0 o1 o2 o3 o4:Value) (h:MkS N w q v0 v1 v2 v3 v4 v5 v6 v7 v8 v9 v10 v11 v12 la lb L ds) (hd:Dat.OwnVals w M d [o0,o1,o2,o3,o4]) (hn:M.Nodup) (hM:∀b,b∈M→N≤b∧b≠q∧∀f,f∈la++⟨42,5,v2,L,ds⟩ :: lb→¬Blk f.v f.L b) (hl:ds.length≤2097152) (hNw:N≤w.heap.size) :
  Calls Tryd.prog 60 #[.pointer (some ⟨q,0,none⟩),.agg #[o0,o1,o2,o3,o4]] w (MadeP N w q v0 v1 v2 v3 v4 v5 v6 v7 v8 v9 v10 v11 v12 v12 la lb L M ds d (.int .i64 (ds.length:Nat))):=by
 have HH:=hide h
 have HD:=hide hd
 have HN:=hide hn
 have HM:=hide hM
 have hqN:=h.low
 obtain⟨io,hio,zo0,zo1,zo2⟩:=info_parts infoObj
 clear h hd hn hM
 have HE:=hide (show OwnD w 42 5 v2 L ds from HH.out.ents.own ⟨42,5,v2,L,ds⟩ (by simp))
 go_enter Tryd.func60,Tryd.ntmps60
 go_upto_region 1 with (fail)
 refine wp_named2 fun wr hwr=>?_
 have hbr:Bel w wr:=by rw[←hwr];exact bl
 have OA:=hide (show OB wr w.heap.size o0 o1 o2 o3 o4 from by rw[←hwr];exact OB.new _ _)
 clear hwr
 refine wp_region_factsU (m:=10) (p:=7) (fun j=>match j with  | _=>[]) (fun j vf wq=>match j with | 0=>((vf 0)=.pointer (some ⟨q,0,none⟩)) | 1=>((vf 1)=.pointer (some ⟨q,0,none⟩)) | 2=>((vf 2)=.pointer (some ⟨q,0,none⟩)) | 3=>((vf 3)=.pointer (some ⟨q,2,none⟩)) | 4=>((vf 4)=v2) | 5=>((vf 5)=.agg #[o0,o1,o2,o3,o4]) | 6=>(∃g:Nat,(vf 6)=.slice (some ⟨g,0,none⟩) 1 1∧wr.heap.size≤g∧wq.heap[g]?=some (.cells #[o0,o1,o2,o3,o4] 42)) | 7=>(OwnD wq 42 5 (vf 7) (L++M) (ds++[d])∧∀b,Value.ownBlock (vf 7)=some b→v2.ownBlock=some b∨wr.heap.size≤b) | 8=>((vf 8)=.pointer (some ⟨q,0,none⟩)) | 9=>((vf 9)=.pointer (some ⟨q,2,none⟩)) | _=>True) (fun wa wb=>Bel wa wb) (fun wa wb=>KpN wr.heap.size wa wb) (fun wq=>MkS N wq q v0 v1 v2 v3 v4 v5 v6 v7 v8 v9 v10 v11 v12 la lb L ds∧OB wq w.heap.size o0 o1 o2 o3 o4∧Dat.OwnVals wq M d [o0,o1,o2,o3,o4]∧Bel wr wq) (fun wq=>∃wm:World,Bel wr wm∧wm.grownBy wq v2.ownBlock) [(0,some 5),(1,some 6),(2,some 7),(3,some 8),(4,some 9),(5,some 10),(6,some 11),(7,some 12),(8,some 13),(9,some 14),(10,none)] rfl (by kernel_rfl) (by kernel_rfl) (by kernel_rfl) (by decide) ?hG ?hR ?hR2 ?hG0 ?hG1 rfl rfl ?hstep ?hp ?hlast
 case hG=>exact⟨HH.out.on (hbr.trans bl),OA.out.on bl,HD.out.bel (hbr.trans bl),bl⟩
 case hG0=>exact fun wa wb hk hg=>⟨hg.1.on hk,hg.2.1.on hk,hg.2.2.1.bel hk,hg.2.2.2.trans hk⟩
 case hG1=>exact fun wa wb hk hg=>by obtain⟨wm,h3,h4⟩:=hg;exact⟨wm,h3,grown_bel h4 hk⟩
 case hR =>
  exact rk125
 case hR2 =>
  exact rk126
 case hstep =>
  simp only[putP,Act.put,List.setIfInBounds_toArray,List.set_cons_zero,List.set_cons_succ,List.getElem_toArray,List.getElem_cons_zero,List.getElem_cons_succ]
  refine (stepsU_cons (i:=0) (i2:=1) (o:=_) rfl ?s0 (stepsU_cons (i:=1) (i2:=2) (o:=_) rfl ?s1 (stepsU_cons (i:=2) (i2:=3) (o:=_) rfl ?s2 (stepsU_cons (i:=3) (i2:=4) (o:=_) rfl ?s3 (stepsU_cons (i:=4) (i2:=5) (o:=_) rfl ?s4 (stepsU_cons (i:=5) (i2:=6) (o:=_) rfl ?s5 (stepsU_cons (i:=6) (i2:=7) (o:=_) rfl ?s6 (stepsU_skip (p:=7) (p2:=8) (stepsU_cons (i:=8) (i2:=9) (o:=_) rfl ?s8 (stepsU_cons (i:=9) (i2:=10) (o:=_) rfl ?s9 (stepsU_nil (by decide))))))))))))
  case s0 =>
   exact rk76
  case s1 =>
   exact rk76
  case s2 =>
   exact rk128
  case s3 =>
   exact rk129
  case s4 =>
   exact rk115
  case s5 =>
   exact rk132
  case s6 =>
   intro u wa hG hf K hK
   have g0:=g0_of hG (by kernel_rfl)
   have e5:(u 5)=.agg #[o0,o1,o2,o3,o4]:=fact_ofU hf 5 (by kernel_rfl)
   clear hf
   clear hG
   simp only[Act.put,List.setIfInBounds_toArray,List.set_cons_zero,List.set_cons_succ,List.getElem_toArray,List.getElem_cons_zero,List.getElem_cons_succ]at hK ⊢
   rw[e5]at hK ⊢
   have hz9:=Bel.size g0.2.2.2
   have hoc:=g0.2.2.1.oneCell
   have hbx:Bel wa (wa.alloc (.cells #[o0,o1,o2,o3,o4] 42)):=bl
   go_simp
   exact hK.out _ _ hbx ⟨wa.heap.size,rfl,hz9,heap_alloc_new _ _⟩
  case s8 =>
   exact rk130
  case s9 =>
   exact rk131
 case hp =>
  simp only[putP,Act.put,List.setIfInBounds_toArray,List.set_cons_zero,List.set_cons_succ,List.getElem_toArray,List.getElem_cons_zero,List.getElem_cons_succ]
  intro u wa hG hf K hK
  have e4:(u 4)=v2:=fact_ofU hf 4 (by kernel_rfl)
  have e6:∃g:Nat,(u 6)=.slice (some ⟨g,0,none⟩) 1 1∧wr.heap.size≤g∧wa.heap[g]?=some (.cells #[o0,o1,o2,o3,o4] 42):=fact_ofU hf 6 (by kernel_rfl)
  clear hf
  rw[e4]at hK ⊢
  obtain⟨g,e6,hg1,hg2⟩:=e6
  rw[e6]at hK ⊢
  have hold:OwnD wa 42 5 v2 L ds:=hG.1.ents.own ⟨42,5,v2,L,ds⟩ (by simp)
  have hz9:=Bel.size hG.2.2.2
  have hbz:=hbr.size
  have hlv:=HE.out.lt
  have hsr:Src wa 5 (some ⟨g,0,none⟩) 1 M [d] [o0,o1,o2,o3,o4]:=⟨rfl,(fun h=>(by cases h)),⟨M,[],[o0,o1,o2,o3,o4],[],by simp,by simp,rfl,hG.2.2.1,rfl,rfl⟩,HN.out,fun ad hA j u hu=>by obtain rfl:=Option.some.inj hA;rw[addr_add];unfold World.cell?;simp only[hg2];simpa using hu⟩
  refine wp_append_D (.tmp 9) (.tmp 11) 26 rfl 42 io (.agg #[.int .i64 0,.int .i64 0,.int .i64 0,.slice none 0 0,.slice none 0 0]) 5 72 Tryd.underlying26 hio zo0 zo1 zo2 (by decide) (by decide) hold hsr 1 rfl rfl (fun b hb hm=>(HM.out b hm).2.2 ⟨42,5,v2,L,ds⟩ (by simp) hb) (by omega) (by unfold maxLen;omega) (fun v9 w9 hO9 hg9 hw9=>?_)
  (try simp only[Act.put,List.setIfInBounds_toArray,List.set_cons_zero,List.set_cons_succ,List.getElem_toArray,List.getElem_cons_zero,List.getElem_cons_succ])
  exact hK.out _ _ ⟨hg9.size,fun k hk hl=>hg9.block k hl (fun e=>by have:=hlv k (Or.inl e.symm);omega)⟩ ⟨wa,hG.2.2.2,hg9⟩ ⟨hO9,fun b hb=>(hw9 b hb).imp id (fun e=>by omega)⟩
 case hlast =>
  simp only[putP,Act.put,List.setIfInBounds_toArray,List.set_cons_zero,List.set_cons_succ,List.getElem_toArray,List.getElem_cons_zero,List.getElem_cons_succ]
  intro u wa hG hf K hK
  have e7:OwnD wa 42 5 (u 7) (L++M) (ds++[d])∧∀b,Value.ownBlock (u 7)=some b→v2.ownBlock=some b∨wr.heap.size≤b:=hf 7 (by decide)
  have e9:u 9=.pointer (some ⟨q,2,none⟩):=hf 9 (by decide)
  clear hf
  obtain⟨hO,hbl⟩:=e7
  obtain⟨A9,c9,e7⟩:∃A9 c9,u 7=.slice A9 (ds.length+1) c9:=by obtain⟨A9,c9,L9,hv9,-⟩:=hO.ownRow;exact⟨A9,c9,by rw[hv9,List.length_append];rfl⟩
  rw[e7]at hO hbl hK ⊢
  rw[e9]at hK ⊢
  obtain⟨wm,h2,h3⟩:=hG
  have hbz:=hbr.size
  have hz2:=h2.size
  have hz3:=h3.size
  have hlow:∀b,v2.ownBlock=some b→N≤b:=fun b hb=>HH.out.ents.low ⟨42,5,v2,L,ds⟩ (by simp) b (Or.inl hb)
  have same:∀k,k<w.heap.size→v2.ownBlock≠some k→wa.heap[k]?=w.heap[k]?:=fun k hk hne=>((h3.block k (by omega) (fun e=>hne e.symm)).trans (Below.block h2 k (by omega))).trans (Below.block hbr k hk)
  have BX:=HH.out.box.block (w':=wa) (by omega) (same q (by have:=HH.out.box.1;omega) (fun e=>hqN ⟨42,5,v2,L,ds⟩ (by simp) (Or.inl e)))
  have hent:Ents N wa (la++⟨42,5,.slice A9 (ds.length+1) c9,L++M,ds++[d]⟩ :: lb):=Ents.growAt (HH.out.ents.bel hbr) h2 h3 (e':=⟨42,5,.slice A9 (ds.length+1) c9,L++M,ds++[d]⟩) hO (fun b hb=>?gx)
  case gx =>
   exact rk32
  have hqz:=HH.out.box.1
  have hqN2:=low_grow (y:=.slice A9 (ds.length+1) c9) (M:=M) (d:=d) hqN (fun e=>(hbl q e).elim id (fun h=>by omega)) (fun e=>(HM.out q e).2.1 rfl)
  have MK:=hide (show MkS N (wa.setCell ⟨q,2,none⟩ (.slice A9 (ds.length+1) c9)) q v0 v1 (.slice A9 (ds.length+1) c9) v3 v4 v5 v6 v7 v8 v9 v10 v11 v12 la lb (L++M) (ds++[d])from⟨BX.put2 _,hent.far2 hqN2 2 _,hqN2⟩)
  have SM:=hide (show ∀k,k<w.heap.size→k≠q→v2.ownBlock≠some k→(wa.setCell ⟨q,2,none⟩ (.slice A9 (ds.length+1) c9)).heap[k]?=w.heap[k]? from fun k hk hkq hne=>(set_block 2 _ (fun e=>hkq e.symm)).trans (same k hk hne))
  have hos:wa.os=w.os∧wa.tape=w.tape∧wa.output=w.output:=⟨h3.os.trans (h2.os.trans hbr.os),h3.tape.trans (h2.tape.trans hbr.tape),h3.output.trans (h2.output.trans hbr.output)⟩
  have hB:Below q wa (wa.setCell ⟨q,2,none⟩ (.slice A9 (ds.length+1) c9)):=Below.setCell (Below.refl q wa) (show q≤(⟨q,2,none⟩:Addr).block from Nat.le_refl q) _
  have HW:=hide (show (wa.setCell ⟨q,2,none⟩ (.slice A9 (ds.length+1) c9)).os=w.os∧(wa.setCell ⟨q,2,none⟩ (.slice A9 (ds.length+1) c9)).tape=w.tape∧(wa.setCell ⟨q,2,none⟩ (.slice A9 (ds.length+1) c9)).output=w.output∧w.heap.size≤(wa.setCell ⟨q,2,none⟩ (.slice A9 (ds.length+1) c9)).heap.size from⟨hB.os.trans hos.1,hB.tape.trans hos.2.1,hB.output.trans hos.2.2,by have:=hB.size;omega⟩)
  obtain⟨hlb,hfb,kb_0,kb_1,kb_2,kb_3,kb_4,kb_5,kb_6,kb_7,kb_8,kb_9,kb_10,kb_11,kb_12⟩:=BX
  go_simp
  refine hK.out undef _ ?_
  have BL:=hide (show ∀b,(Value.slice A9 (ds.length+1) c9).ownBlock=some b→v2.ownBlock=some b∨w.heap.size≤b from fun b hb=>(hbl b hb).imp id (fun h=>by omega))
  clear hK h2 h3 hO hbl hent hB hos same
  have hw1:IntKind.i64.wrap ((ds.length:Int)+1 - 1)=(ds.length:Int):=by rw[IntKind.wrap_i64];omega
  go_wp2_with (fail)
  all_goals
   go_returns
   exact⟨_,by first | rfl | (congr 2;omega),MK.out,HW.out,BL.out,SM.out⟩
end Go.Proofs.YtoikhhnmbbbjjaaDoor
namespace Go.Proofs.YtoikhhnmbbbjjaaDoor
set_option linter.unusedVariables false
set_option linter.unusedSimpArgs false
set_option maxRecDepth 100000
open Go.RowKit
set_option maxHeartbeats 4000000 in
theorem l13New_any (kk mm nm:Int) (hnm:IntKind.i64.wrap (mm+1)=nm) (hk1:2≤kk) (hk2:kk≤7) (N:Nat) (w:World) (q:Nat) (v0 v1 v2 v3 v4 v5 v6 v7 v8 v9 v10 v11:Value) (la lb:List Ent) (L M:List Nat) (ds:List (List Dat)) (d:List Dat) (o1 o2 o3 o4:Value) (h:MkS N w q v0 v1 v2 v3 v4 v5 v6 v7 v8 v9 v10 v11 (.int .i64 mm) la lb L ds) (hd:Dat.OwnVals w M d [.int .i64 kk,o1,.int .i64 nm,o3,o4]) (hoo:o2.oneCell'=true) (hn:M.Nodup) (hM:∀b,b∈M→N≤b∧b≠q∧∀f,f∈la++⟨42,5,v2,L,ds⟩ :: lb→¬Blk f.v f.L b) (hl:ds.length≤2097152) (hNw:N≤w.heap.size) :
  Calls Tryd.prog 35 #[.pointer (some ⟨q,0,none⟩),.agg #[.int .i64 kk,o1,o2,o3,o4]] w (MadeP N w q v0 v1 v2 v3 v4 v5 v6 v7 v8 v9 v10 v11 (.int .i64 mm) (.int .i64 nm) la lb L M ds d (.int .i64 (ds.length:Nat))):=by
 have HH0:=hide h
 have HD0:=hide hd
 have HN:=hide hn
 have HM:=hide hM
 have hqN:=h.low
 obtain⟨io,hio,zo0,zo1,zo2⟩:=info_parts infoObj
 clear h hd hn hM
 have dk1:decide (2≤kk)=true:=decide_eq_true hk1
 have dk2:decide (kk≤7)=true:=decide_eq_true hk2
 have hc1:=HD0.out.oneCell
 obtain⟨hlb,hfb,kb_0,kb_1,kb_2,kb_3,kb_4,kb_5,kb_6,kb_7,kb_8,kb_9,kb_10,kb_11,kb_12⟩:=HH0.out.box
 go_enter Tryd.func35,Tryd.ntmps35
 go_upto_region 4 with (fail)
 refine wp_named2 fun wr hwr=>?_
 clear hlb hfb kb_0 kb_1 kb_2 kb_3 kb_4 kb_5 kb_6 kb_7 kb_8 kb_9 kb_10 kb_11 kb_12 hc1
 obtain⟨w1,hw1⟩:∃x,w.setCell ⟨q,12,none⟩ (.int .i64 nm)=x:=⟨_,rfl⟩
 replace hwr:w1.alloc (.cells #[.int .i64 kk,o1,.int .i64 nm,o3,o4] 42)=wr:=by rw[←hw1];exact hwr
 have hB1:Below q w w1:=by rw[←hw1];exact Below.setCell (Below.refl q w) (show q≤(⟨q,12,none⟩:Addr).block from Nat.le_refl q) _
 have hz1:w1.heap.size=w.heap.size:=by rw[←hw1];simp
 have same1:∀k,k≠q→w1.heap[k]?=w.heap[k]?:=fun k hk=>by rw[←hw1];exact set_block 12 _ (fun e=>hk e.symm)
 have HS:=hide (show w1.heap.size=w.heap.size∧w1.os=w.os∧w1.tape=w.tape∧w1.output=w.output∧∀k,k≠q→w1.heap[k]?=w.heap[k]? from⟨hz1,hB1.os,hB1.tape,hB1.output,same1⟩)
 have HH:=hide (show MkS N w1 q v0 v1 v2 v3 v4 v5 v6 v7 v8 v9 v10 v11 (.int .i64 nm) la lb L ds from by rw[←hw1];exact⟨HH0.out.box.put12 _,HH0.out.ents.far2 hqN 12 _,hqN⟩)
 have HD:=hide (show Dat.OwnVals w1 M d [.int .i64 kk,o1,.int .i64 nm,o3,o4]from Dat.OwnVals.keep (by omega) _ _ _ (fun x hx=>⟨fun o=>World.cell?_of_block (same1 x (HM.out x hx).2.1),fun o=>World.frozen?_of_block (same1 x (HM.out x hx).2.1)⟩) HD0.out)
 replace hNw:N≤w1.heap.size:=by omega
 clear HH0 HD0 hB1 same1 hw1
 have HE:=hide (show OwnD w1 42 5 v2 L ds from HH.out.ents.own ⟨42,5,v2,L,ds⟩ (by simp))
 have hbr:Bel w1 wr:=by rw[←hwr];exact bl
 have OA:=hide (show OB wr w.heap.size (.int .i64 kk) o1 (.int .i64 nm) o3 o4 from by rw[←hwr];have h:=OB.new w1 42 (v0:=.int .i64 kk) (v1:=o1) (v2:=.int .i64 nm) (v3:=o3) (v4:=o4);rw[hz1]at h;exact h)
 clear hwr hz1
 refine wp_region_factsU (m:=10) (p:=7) (fun j=>match j with  | _=>[]) (fun j vf wq=>match j with | 0=>((vf 0)=.pointer (some ⟨q,0,none⟩)) | 1=>((vf 1)=.pointer (some ⟨q,0,none⟩)) | 2=>((vf 2)=.pointer (some ⟨q,0,none⟩)) | 3=>((vf 3)=.pointer (some ⟨q,2,none⟩)) | 4=>((vf 4)=v2) | 5=>((vf 5)=.agg #[.int .i64 kk,o1,.int .i64 nm,o3,o4]) | 6=>(∃g:Nat,(vf 6)=.slice (some ⟨g,0,none⟩) 1 1∧wr.heap.size≤g∧wq.heap[g]?=some (.cells #[.int .i64 kk,o1,.int .i64 nm,o3,o4] 42)) | 7=>(OwnD wq 42 5 (vf 7) (L++M) (ds++[d])∧∀b,Value.ownBlock (vf 7)=some b→v2.ownBlock=some b∨wr.heap.size≤b) | 8=>((vf 8)=.pointer (some ⟨q,0,none⟩)) | 9=>((vf 9)=.pointer (some ⟨q,2,none⟩)) | _=>True) (fun wa wb=>Bel wa wb) (fun wa wb=>KpN wr.heap.size wa wb) (fun wq=>MkS N wq q v0 v1 v2 v3 v4 v5 v6 v7 v8 v9 v10 v11 (.int .i64 nm) la lb L ds∧OB wq w.heap.size (.int .i64 kk) o1 (.int .i64 nm) o3 o4∧Dat.OwnVals wq M d [.int .i64 kk,o1,.int .i64 nm,o3,o4]∧Bel wr wq) (fun wq=>∃wm:World,Bel wr wm∧wm.grownBy wq v2.ownBlock) [(0,some 25),(1,some 26),(2,some 27),(3,some 28),(4,some 29),(5,some 30),(6,some 31),(7,some 32),(8,some 33),(9,some 34),(10,none)] rfl (by kernel_rfl) (by kernel_rfl) (by kernel_rfl) (by decide) ?hG ?hR ?hR2 ?hG0 ?hG1 rfl rfl ?hstep ?hp ?hlast
 case hG=>exact⟨HH.out.on (hbr.trans bl),OA.out.on bl,HD.out.bel (hbr.trans bl),bl⟩
 case hG0=>exact fun wa wb hk hg=>⟨hg.1.on hk,hg.2.1.on hk,hg.2.2.1.bel hk,hg.2.2.2.trans hk⟩
 case hG1=>exact fun wa wb hk hg=>by obtain⟨wm,h3,h4⟩:=hg;exact⟨wm,h3,grown_bel h4 hk⟩
 case hR =>
  exact rk125
 case hR2 =>
  exact rk126
 case hstep =>
  simp only[putP,Act.put,List.setIfInBounds_toArray,List.set_cons_zero,List.set_cons_succ,List.getElem_toArray,List.getElem_cons_zero,List.getElem_cons_succ]
  refine (stepsU_cons (i:=0) (i2:=1) (o:=_) rfl ?s0 (stepsU_cons (i:=1) (i2:=2) (o:=_) rfl ?s1 (stepsU_cons (i:=2) (i2:=3) (o:=_) rfl ?s2 (stepsU_cons (i:=3) (i2:=4) (o:=_) rfl ?s3 (stepsU_cons (i:=4) (i2:=5) (o:=_) rfl ?s4 (stepsU_cons (i:=5) (i2:=6) (o:=_) rfl ?s5 (stepsU_cons (i:=6) (i2:=7) (o:=_) rfl ?s6 (stepsU_skip (p:=7) (p2:=8) (stepsU_cons (i:=8) (i2:=9) (o:=_) rfl ?s8 (stepsU_cons (i:=9) (i2:=10) (o:=_) rfl ?s9 (stepsU_nil (by decide))))))))))))
  case s0 =>
   exact rk76
  case s1 =>
   exact rk76
  case s2 =>
   exact rk128
  case s3 =>
   exact rk129
  case s4 =>
   exact rk115
  case s5 =>
   exact rk132
  case s6 =>
   intro u wa hG hf K hK
   have g0:=g0_of hG (by kernel_rfl)
   have e5:(u 5)=.agg #[.int .i64 kk,o1,.int .i64 nm,o3,o4]:=fact_ofU hf 5 (by kernel_rfl)
   clear hf
   clear hG
   simp only[Act.put,List.setIfInBounds_toArray,List.set_cons_zero,List.set_cons_succ,List.getElem_toArray,List.getElem_cons_zero,List.getElem_cons_succ]at hK ⊢
   rw[e5]at hK ⊢
   have hz9:=Bel.size g0.2.2.2
   have hoc:=g0.2.2.1.oneCell
   have hbx:Bel wa (wa.alloc (.cells #[.int .i64 kk,o1,.int .i64 nm,o3,o4] 42)):=bl
   go_simp
   exact hK.out _ _ hbx ⟨wa.heap.size,rfl,hz9,heap_alloc_new _ _⟩
  case s8 =>
   exact rk130
  case s9 =>
   exact rk131
 case hp =>
  simp only[putP,Act.put,List.setIfInBounds_toArray,List.set_cons_zero,List.set_cons_succ,List.getElem_toArray,List.getElem_cons_zero,List.getElem_cons_succ]
  intro u wa hG hf K hK
  have e4:(u 4)=v2:=fact_ofU hf 4 (by kernel_rfl)
  have e6:∃g:Nat,(u 6)=.slice (some ⟨g,0,none⟩) 1 1∧wr.heap.size≤g∧wa.heap[g]?=some (.cells #[.int .i64 kk,o1,.int .i64 nm,o3,o4] 42):=fact_ofU hf 6 (by kernel_rfl)
  clear hf
  rw[e4]at hK ⊢
  obtain⟨g,e6,hg1,hg2⟩:=e6
  rw[e6]at hK ⊢
  have hold:OwnD wa 42 5 v2 L ds:=hG.1.ents.own ⟨42,5,v2,L,ds⟩ (by simp)
  have hz9:=Bel.size hG.2.2.2
  have hbz:=hbr.size
  have hlv:=HE.out.lt
  have hsr:Src wa 5 (some ⟨g,0,none⟩) 1 M [d] [.int .i64 kk,o1,.int .i64 nm,o3,o4]:=⟨rfl,(fun h=>(by cases h)),⟨M,[],[.int .i64 kk,o1,.int .i64 nm,o3,o4],[],by simp,by simp,rfl,hG.2.2.1,rfl,rfl⟩,HN.out,fun ad hA j u hu=>by obtain rfl:=Option.some.inj hA;rw[addr_add];unfold World.cell?;simp only[hg2];simpa using hu⟩
  refine wp_append_D (.tmp 29) (.tmp 31) 26 rfl 42 io (.agg #[.int .i64 0,.int .i64 0,.int .i64 0,.slice none 0 0,.slice none 0 0]) 5 72 Tryd.underlying26 hio zo0 zo1 zo2 (by decide) (by decide) hold hsr 1 rfl rfl (fun b hb hm=>(HM.out b hm).2.2 ⟨42,5,v2,L,ds⟩ (by simp) hb) (by omega) (by unfold maxLen;omega) (fun v9 w9 hO9 hg9 hw9=>?_)
  (try simp only[Act.put,List.setIfInBounds_toArray,List.set_cons_zero,List.set_cons_succ,List.getElem_toArray,List.getElem_cons_zero,List.getElem_cons_succ])
  exact hK.out _ _ ⟨hg9.size,fun k hk hl=>hg9.block k hl (fun e=>by have:=hlv k (Or.inl e.symm);omega)⟩ ⟨wa,hG.2.2.2,hg9⟩ ⟨hO9,fun b hb=>(hw9 b hb).imp id (fun e=>by omega)⟩
 case hlast =>
  simp only[putP,Act.put,List.setIfInBounds_toArray,List.set_cons_zero,List.set_cons_succ,List.getElem_toArray,List.getElem_cons_zero,List.getElem_cons_succ]
  intro u wa hG hf K hK
  have e7:OwnD wa 42 5 (u 7) (L++M) (ds++[d])∧∀b,Value.ownBlock (u 7)=some b→v2.ownBlock=some b∨wr.heap.size≤b:=hf 7 (by decide)
  have e9:u 9=.pointer (some ⟨q,2,none⟩):=hf 9 (by decide)
  clear hf
  obtain⟨hO,hbl⟩:=e7
  obtain⟨A9,c9,e7⟩:∃A9 c9,u 7=.slice A9 (ds.length+1) c9:=by obtain⟨A9,c9,L9,hv9,-⟩:=hO.ownRow;exact⟨A9,c9,by rw[hv9,List.length_append];rfl⟩
  rw[e7]at hO hbl hK ⊢
  rw[e9]at hK ⊢
  obtain⟨wm,h2,h3⟩:=hG
  have hbz:=hbr.size
  have hz2:=h2.size
  have hz3:=h3.size
  have hlow:∀b,v2.ownBlock=some b→N≤b:=fun b hb=>HH.out.ents.low ⟨42,5,v2,L,ds⟩ (by simp) b (Or.inl hb)
  have same:∀k,k<w1.heap.size→v2.ownBlock≠some k→wa.heap[k]?=w1.heap[k]?:=fun k hk hne=>((h3.block k (by omega) (fun e=>hne e.symm)).trans (Below.block h2 k (by omega))).trans (Below.block hbr k hk)
  have BX:=HH.out.box.block (w':=wa) (by omega) (same q (by have:=HH.out.box.1;omega) (fun e=>hqN ⟨42,5,v2,L,ds⟩ (by simp) (Or.inl e)))
  have hent:Ents N wa (la++⟨42,5,.slice A9 (ds.length+1) c9,L++M,ds++[d]⟩ :: lb):=Ents.growAt (HH.out.ents.bel hbr) h2 h3 (e':=⟨42,5,.slice A9 (ds.length+1) c9,L++M,ds++[d]⟩) hO (fun b hb=>?gx)
  case gx =>
   exact rk32
  have hqz:=HH.out.box.1
  have hqN2:=low_grow (y:=.slice A9 (ds.length+1) c9) (M:=M) (d:=d) hqN (fun e=>(hbl q e).elim id (fun h=>by omega)) (fun e=>(HM.out q e).2.1 rfl)
  have MK:=hide (show MkS N (wa.setCell ⟨q,2,none⟩ (.slice A9 (ds.length+1) c9)) q v0 v1 (.slice A9 (ds.length+1) c9) v3 v4 v5 v6 v7 v8 v9 v10 v11 (.int .i64 nm) la lb (L++M) (ds++[d])from⟨BX.put2 _,hent.far2 hqN2 2 _,hqN2⟩)
  exact rk81
end Go.Proofs.YtoikhhnmbbbjjaaDoor
namespace Go.Proofs.YtoikhhnmbbbjjaaDoor
set_option linter.unusedVariables false
set_option linter.unusedSimpArgs false
set_option maxRecDepth 100000
open Go.RowKit
theorem Z6.block {w w':World} {b:Nat} (h:Z6 w b) (hs:w.heap.size≤w'.heap.size) (hb:w'.heap[b]?=w.heap[b]?):Z6 w' b:=by
 obtain⟨c0,c1,c2,c3,c4,c5,f,l⟩:=h
 have e:∀o,w'.cell? ⟨b,o,none⟩=w.cell? ⟨b,o,none⟩:=fun o=>World.cell?_of_block hb
 exact⟨(e 0).trans c0,(e 1).trans c1,(e 2).trans c2,(e 3).trans c3,(e 4).trans c4,(e 5).trans c5,fun o=>(World.frozen?_of_block hb).trans (f o),by omega⟩
structure ButB (r:Nat) (w w':World):Prop where
 size:w'.heap.size=w.heap.size
 os:w'.os=w.os
 tape:w'.tape=w.tape
 output:w'.output=w.output
 block:∀k,k≠r→w'.heap[k]?=w.heap[k]?
theorem ButB.set {r:Nat} {w w':World} (h:ButB r w w') (o:Nat) (u:Value):ButB r w (w'.setCell ⟨r,o,none⟩ u):=by
 have hB:Below r w' (w'.setCell ⟨r,o,none⟩ u):=Below.setCell (Below.refl r w') (Nat.le_refl r) _
 exact⟨by simpa using h.size,hB.os.trans h.os,hB.tape.trans h.tape,hB.output.trans h.output,fun k hk=>(set_block o u (fun e=>hk e.symm)).trans (h.block k hk)⟩
theorem gen_ret6k {P:Program} {fn:Func} {Q:Ending→World→Prop} {ex:Exit} {a:Act} {w:World} {b:Nat} {x0 x1 x2 x3 x4 x5:Value} (h:Z6 w b)
  (H:∀w',w'.cell? ⟨b,0,none⟩=some x0→w'.cell? ⟨b,1,none⟩=some x1→w'.cell? ⟨b,2,none⟩=some x2→w'.cell? ⟨b,3,none⟩=some x3→w'.cell? ⟨b,4,none⟩=some x4→w'.cell? ⟨b,5,none⟩=some x5→ButB b w w'→bodyPost P fn Q ex a w') :
  bodyPost P fn Q ex a ((((((w.setCell ⟨b,0,none⟩ x0).setCell ⟨b,1,none⟩ x1).setCell ⟨b,2,none⟩ x2).setCell ⟨b,3,none⟩ x3).setCell ⟨b,4,none⟩ x4).setCell ⟨b,5,none⟩ x5):=by
 obtain⟨d0,d1,d2,d3,d4,d5⟩:=h.put x0 x1 x2 x3 x4 x5
 exact H _ d0 d1 d2 d3 d4 d5 ((((((ButB.set ⟨rfl,rfl,rfl,rfl,fun _ _=>rfl⟩ 0 x0).set 1 x1).set 2 x2).set 3 x3).set 4 x4).set 5 x5)
theorem MkS.keep {N r:Nat} {w w':World} {q:Nat} {v0 v1 v2 v3 v4 v5 v6 v7 v8 v9 v10 v11 v12:Value} {la lb:List Ent} {L:List Nat} {ds:List (List Dat)} (h:MkS N w q v0 v1 v2 v3 v4 v5 v6 v7 v8 v9 v10 v11 v12 la lb L ds) (hs:w.heap.size≤w'.heap.size) (hb:∀k,k<w.heap.size→k≠r→w'.heap[k]?=w.heap[k]?) (hr:q≠r) (hn:∀f,f∈la++⟨42,5,v2,L,ds⟩ :: lb→¬Blk f.v f.L r):MkS N w' q v0 v1 v2 v3 v4 v5 v6 v7 v8 v9 v10 v11 v12 la lb L ds :=
 ⟨h.box.block hs (hb q h.box.1 hr),h.ents.keep hs fun e he b hm=>hb b ((h.ents.own e he).lt b hm) (fun e2=>hn e he (e2▸hm)),h.low⟩
theorem MadeP.fin {N r:Nat} {w wr w2 w3 w4:World} {q:Nat} {v0 v1 v2 v3 v4 v5 v6 v7 v8 v9 v10 v11 v12 x12 u12:Value} {la lb:List Ent} {L M:List Nat} {ds:List (List Dat)} {d:List Dat} {r0 r1:Value} {e:Ending} (h0:MkS N w q v0 v1 v2 v3 v4 v5 v6 v7 v8 v9 v10 v11 v12 la lb L ds) (hM:¬r∈M)
  (hs:w.heap.size≤wr.heap.size) (ho:wr.os=w.os∧wr.tape=w.tape∧wr.output=w.output) (hf:∀k,k<w.heap.size→k≠q→wr.heap[k]?=w.heap[k]?) (hr1:w.heap.size≤r) (hr2:r<wr.heap.size)
  (hP:MadeP N wr q v0 v1 v2 v3 v4 v5 v6 v7 v8 v9 v10 v11 x12 u12 la lb L M ds d r0 e w2) (hb:Bel w2 w3) (hB:ButB r w3 w4):MadeP N w q v0 v1 v2 v3 v4 v5 v6 v7 v8 v9 v10 v11 v12 u12 la lb L M ds d r1 (.returned r1) w4:=by
 obtain⟨y,-,hk,hfr,hy,hsm⟩:=hP
 have hlt:=(h0.ents.own ⟨42,5,v2,L,ds⟩ (by simp)).lt
 have hq:=h0.box.1
 have hz:=hb.size
 have hz4:=hB.size
 refine⟨y,rfl,(hk.on hb).keep (r:=r) (by omega) (fun k _ hk=>hB.block k hk) (by omega) (fun f hf hc=>?_),⟨hB.os.trans (hb.os.trans (hfr.1.trans ho.1)),hB.tape.trans (hb.tape.trans (hfr.2.1.trans ho.2.1)),hB.output.trans (hb.output.trans (hfr.2.2.1.trans ho.2.2)),by omega⟩,fun b hb=>(hy b hb).imp id (fun h=>by omega),fun k hk hkq hne=>(hB.block k (by omega)).trans ((Below.block hb k (by omega)).trans ((hsm k (by omega) hkq hne).trans (hf k hk hkq)))⟩
 rcases List.mem_append.1 hf with hf | hf
 ·
  have:=(h0.ents.own f (List.mem_append.2 (Or.inl hf))).lt r hc
  omega
 ·
  rcases List.mem_cons.1 hf with rfl | hf
  ·
   rcases hc with hc | hc
   ·
    rcases hy r hc with h | h
    ·
     have:=hlt r (Or.inl h)
     omega
    ·
     omega
   ·
    rcases List.mem_append.1 hc with hc | hc
    ·
     have:=hlt r (Or.inr hc)
     omega
    ·
     exact hM hc
  ·
   have:=(h0.ents.own f (List.mem_append.2 (Or.inr (List.mem_cons_of_mem _ hf)))).lt r hc
   omega
end Go.Proofs.YtoikhhnmbbbjjaaDoor
