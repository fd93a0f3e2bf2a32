/- A list of values copied; the frame of a store's copy. -/
import Derived.Test.YtppmgodahloogaaGreatDoorPr
import Derived.Test.YtppmgodahloogaaGreatDoorPNb
import Derived.Deep.MidRow
import Derived.Test.YtppmgodahloogaaGreatDoorPB
import Derived.Test.YtppmgodahloogaaGreatDoorPShelf
import Derived.ArgAppend
namespace Go.Proofs.YtppmgodahloogaaGreatDoor
set_option linter.unusedVariables false
set_option linter.unusedSimpArgs false
set_option maxRecDepth 100000
open Go.RowKit
abbrev ValsC (f:FuncId):Prop:=∀(xs:List TValue) (S:Nat→Prop) (w:World) (A:Option Addr) (c:Nat),Row w S 6 A c (xs.map TValue.D)→xs.length≤1048576 →
 Calls Tryz.prog f #[.slice A xs.length c] w fun e w'=>∃v,e=.returned v∧OwnD w' 43 6 v [] (xs.map TValue.D)∧(∀b,Blk v [] b→w.heap.size≤b)∧Bel w w'
theorem copy_bel {w w9:World} {T:TypeId} {v9:Value} (hg:(w.alloc (.cells #[] T)).grownBy w9 (some w.heap.size)) (hw:∀b,v9.ownBlock=some b→(Value.slice (some ⟨w.heap.size,0,none⟩) 0 0).ownBlock=some b∨w.heap.size+1≤b):Bel w w9∧∀b,Blk v9 [] b→w.heap.size≤b:=by
 refine⟨Below.grown (show Bel w (w.alloc (.cells #[] T))from bl) hg (by simp) (fun k hk=>by have:=Option.some.inj hk;omega),fun b hb=>?_⟩
 rcases hb with hb | hb
 ·
  rcases hw b hb with e | e
  ·
   have:=Option.some.inj (show some w.heap.size=some b from e);omega
  ·
   omega
 ·
  cases hb
def OB (w:World) (b:Nat) (v0 v1 v2 v3 v4:Value):Prop:=b<w.heap.size∧(∀o,w.frozen? ⟨b,o,none⟩=false)∧w.cell? ⟨b,0,none⟩=some v0∧w.cell? ⟨b,1,none⟩=some v1∧w.cell? ⟨b,2,none⟩=some v2∧w.cell? ⟨b,3,none⟩=some v3∧w.cell? ⟨b,4,none⟩=some v4
section
variable {w w':World} {b:Nat} {v0 v1 v2 v3 v4:Value}
theorem OB.block (h:OB w b v0 v1 v2 v3 v4) (hs:w.heap.size≤w'.heap.size) (hb:w'.heap[b]?=w.heap[b]?):OB w' b v0 v1 v2 v3 v4:=by
 obtain⟨l,f,c0,c1,c2,c3,c4⟩:=h
 have e:∀o,w'.cell? ⟨b,o,none⟩=w.cell? ⟨b,o,none⟩:=fun o=>World.cell?_of_block hb
 exact⟨by omega,fun o=>(World.frozen?_of_block hb).trans (f o),(e 0).trans c0,(e 1).trans c1,(e 2).trans c2,(e 3).trans c3,(e 4).trans c4⟩
theorem OB.on (h:OB w b v0 v1 v2 v3 v4) (k:Bel w w'):OB w' b v0 v1 v2 v3 v4:=h.block k.size (Below.block k b h.1)
theorem OB.new (w:World) (t:TypeId):OB (w.alloc (.cells #[v0,v1,v2,v3,v4] t)) w.heap.size v0 v1 v2 v3 v4 :=
 ⟨by simp,fun o=>by simp,by simp,by simp,by simp,by simp,by simp⟩
theorem OB.put0 (h:OB w b v0 v1 v2 v3 v4) (u:Value):OB (w.setCell ⟨b,0,none⟩ u) b u v1 v2 v3 v4:=by
 exact rk121
theorem OB.put1 (h:OB w b v0 v1 v2 v3 v4) (u:Value):OB (w.setCell ⟨b,1,none⟩ u) b v0 u v2 v3 v4:=by
 exact rk121
theorem OB.put2 (h:OB w b v0 v1 v2 v3 v4) (u:Value):OB (w.setCell ⟨b,2,none⟩ u) b v0 v1 u v3 v4:=by
 exact rk121
theorem OB.put3 (h:OB w b v0 v1 v2 v3 v4) (u:Value):OB (w.setCell ⟨b,3,none⟩ u) b v0 v1 v2 u v4:=by
 exact rk121
theorem OB.put4 (h:OB w b v0 v1 v2 v3 v4) (u:Value):OB (w.setCell ⟨b,4,none⟩ u) b v0 v1 v2 v3 u:=by
 exact rk121
end
structure ClF (w:World) (N:Nat) (wx:World) (b q r:Nat) (v0 v1 v2 v3 v4 v5 v6 v7 v8 v9 v10 v11 v12:Value) (s0 s1 s2 s3 s4 s5 s6 s7 s8 s9 s10 s11 s12:Value) (l:List Ent):Prop where
 cl:ClS w N wx b v0 v1 v2 v3 v4 v5 v6 v7 v8 v9 v10 v11 v12 l
 sb:SB wx q s0 s1 s2 s3 s4 s5 s6 s7 s8 s9 s10 s11 s12
 rb:SB wx r (.slice none 0 0) (.slice none 0 0) (.slice none 0 0) (.slice none 0 0) (.string ByteArray.empty) (.int .i64 0) (.slice none 0 0) (.slice none 0 0) (.slice none 0 0) (.bool false) (.int .i64 0) (.int .i64 0) (.int .i64 0)
 ne:q≠b∧r≠b∧q<N∧r<N∧w.heap.size≤r
section
variable {w wx wy:World} {N b q r:Nat} {v0 v1 v2 v3 v4 v5 v6 v7 v8 v9 v10 v11 v12 s0 s1 s2 s3 s4 s5 s6 s7 s8 s9 s10 s11 s12:Value} {l:List Ent} {e:Ent}
theorem ClF.on (h:ClF w N wx b q r v0 v1 v2 v3 v4 v5 v6 v7 v8 v9 v10 v11 v12 s0 s1 s2 s3 s4 s5 s6 s7 s8 s9 s10 s11 s12 l) (k:Bel wx wy):ClF w N wy b q r v0 v1 v2 v3 v4 v5 v6 v7 v8 v9 v10 v11 v12 s0 s1 s2 s3 s4 s5 s6 s7 s8 s9 s10 s11 s12 l:=⟨h.cl.on k,h.sb.on k,h.rb.on k,h.ne⟩
theorem ClF.next (h:ClF w N wx b q r v0 v1 v2 v3 v4 v5 v6 v7 v8 v9 v10 v11 v12 s0 s1 s2 s3 s4 s5 s6 s7 s8 s9 s10 s11 s12 l) (hb:Bel wx wy) {E:TypeId} {k:Nat} {u:Value} {L:List Nat} {ds:List (List Dat)} (ho:OwnD wy E k u L ds) (hn:∀x,Blk u L x→wx.heap.size≤x) (o:Nat) {u0 u1 u2 u3 u4 u5 u6 u7 u8 u9 u10 u11 u12:Value} (hbx:SB (wy.setCell ⟨b,o,none⟩ u) b u0 u1 u2 u3 u4 u5 u6 u7 u8 u9 u10 u11 u12):ClF w N (wy.setCell ⟨b,o,none⟩ u) b q r u0 u1 u2 u3 u4 u5 u6 u7 u8 u9 u10 u11 u12 s0 s1 s2 s3 s4 s5 s6 s7 s8 s9 s10 s11 s12 (l++[⟨E,k,u,L,ds⟩]) :=
 ⟨h.cl.next hb ho hn o hbx,(h.sb.on hb).far o u (fun e=>h.ne.1 e.symm),(h.rb.on hb).far o u (fun e=>h.ne.2.1 e.symm),h.ne⟩
theorem ClF.grow (h:ClF w N wx b q r v0 v1 v2 v3 v4 v5 v6 v7 v8 v9 v10 v11 v12 s0 s1 s2 s3 s4 s5 s6 s7 s8 s9 s10 s11 s12 (l++[e])) {wm:World} (hm:Bel wx wm) (hg:wm.grownBy wy e.v.ownBlock) {e':Ent} (ho:OwnD wy e'.E e'.k e'.v e'.L e'.ds) (hn:∀x,Blk e'.v e'.L x→Blk e.v e.L x∨wx.heap.size≤x) :
  SB wy b v0 v1 v2 v3 v4 v5 v6 v7 v8 v9 v10 v11 v12∧∀(o:Nat) (u:Value) {u0 u1 u2 u3 u4 u5 u6 u7 u8 u9 u10 u11 u12:Value},SB (wy.setCell ⟨b,o,none⟩ u) b u0 u1 u2 u3 u4 u5 u6 u7 u8 u9 u10 u11 u12→ClF w N (wy.setCell ⟨b,o,none⟩ u) b q r u0 u1 u2 u3 u4 u5 u6 u7 u8 u9 u10 u11 u12 s0 s1 s2 s3 s4 s5 s6 s7 s8 s9 s10 s11 s12 (l++[e']):=by
 have hlow:∀k,e.v.ownBlock=some k→N≤k:=fun k hk=>h.cl.ents.low e (by simp) k (Or.inl hk)
 have hN:=h.cl.low
 have hs:=hm.size
 have hgs:=hg.size
 have old:∀k,k<N→k<wx.heap.size→wy.heap[k]?=wx.heap[k]?:=fun k hk hl=>(hg.block k (by omega) (fun q=>by have:=hlow k q.symm;omega)).trans (Below.block hm k hl)
 have hbl:=h.cl.box.1
 have hql:=h.sb.1
 have hrl:=h.rb.1
 have B9:=h.cl.box.block (by omega) (old b hN.2.1 hbl)
 have hB:Bel w wy:=⟨hg.os.trans (hm.os.trans h.cl.bel.os),hg.tape.trans (hm.tape.trans h.cl.bel.tape),hg.output.trans (hm.output.trans h.cl.bel.output),by have:=h.cl.bel.size;omega,fun k hk=>(old k (by omega) (by omega)).trans (Below.block h.cl.bel k hk)⟩
 refine⟨B9,fun o u _ _ _ _ _ _ _ _ _ _ _ _ _ hbx=>⟨⟨hbx,(h.cl.ents.grow hm hg hN.2.2 ho hn).far hN.2.1 o u,Below.setCell hB hN.1 u,hN.1,hN.2.1,by simp only[World.size_setCell];omega⟩,(h.sb.block (by omega) (old q h.ne.2.2.1 hql)).far o u (fun e=>h.ne.1 e.symm),(h.rb.block (by omega) (old r h.ne.2.2.2.1 hrl)).far o u (fun e=>h.ne.2.1 e.symm),h.ne⟩⟩
end
theorem Ents.weak {N M:Nat} {w:World} {l:List Ent} (h:Ents N w l) (hm:M≤N):Ents M w l:=⟨h.own,fun e he b hb=>Nat.le_trans hm (h.low e he b hb),h.sep⟩
def TObject.its:TObject→List TValue | .mk _ _ _ i _=>i
def TObject.kys:TObject→List TValue | .mk _ _ _ _ k=>k
theorem wt_objs:∀(l:List TObject) (i:Nat) (h:i<l.length),l[i].its.length+l[i].kys.length≤Dat.wtR (l.map TObject.D)
 | .mk a b c d e :: r,0,_=>by
  simp only[List.getElem_cons_zero,TObject.its,TObject.kys,List.map_cons,Dat.wtR,TObject.D_mk,Dat.wtL,Dat.wt,List.length_map]
  omega
 | x :: r,i+1,h=>by
  have:=wt_objs r i (by simpa using h)
  simp only[List.getElem_cons_succ,List.map_cons,Dat.wtR]
  omega
theorem wt_recs:∀(l:List TRecordType) (i:Nat) (h:i<l.length),l[i].fl.length≤Dat.wtR (l.map TRecordType.D)
 | .mk a b c :: r,0,_=>by
  simp only[List.getElem_cons_zero,TRecordType.fl,List.map_cons,Dat.wtR,TRecordType.D_mk,Dat.wtL,Dat.wt,List.length_map]
  omega
 | x :: r,i+1,h=>by
  have:=wt_recs r i (by simpa using h)
  simp only[List.getElem_cons_succ,List.map_cons,Dat.wtR]
  omega
def CloneP (w:World) (x0:List ByteArray) (x1:List TRecordType) (x2:List TObject) (x3:List TValue) (x4:ByteArray) (x5:Int) (x6 x7:List ByteArray) (x8:List TActive) (x9:Bool) (x10 x11 x12:Int) (e:Ending) (w':World):Prop :=
 ∃(v0 v1 v2 v3 v6 v7 v8:Value) (L0 L1 L2 L3 L6 L7 L8:List Nat),e=.returned (.agg #[v0,v1,v2,v3,.string x4,.int .i64 x5,v6,v7,v8,.bool x9,.int .i64 x10,.int .i64 x11,.int .i64 x12]) ∧
  Ents w.heap.size w' [⟨9,1,v0,L0,x0.map (fun x=>[Dat.str x])⟩,⟨92,3,v1,L1,x1.map TRecordType.D⟩,⟨89,5,v2,L2,x2.map TObject.D⟩,⟨43,6,v3,L3,x3.map TValue.D⟩,⟨9,1,v6,L6,x6.map (fun x=>[Dat.str x])⟩,⟨9,1,v7,L7,x7.map (fun x=>[Dat.str x])⟩,⟨96,2,v8,L8,x8.map TActive.D⟩]∧Bel w w'
abbrev CloneC (f:FuncId):Prop:=∀(x0:List ByteArray) (x1:List TRecordType) (x2:List TObject) (x3:List TValue) (x4:ByteArray) (x5:Int) (x6 x7:List ByteArray) (x8:List TActive) (x9:Bool) (x10 x11 x12:Int) (S:Nat→Prop) (w:World) (vs:List Value),
 Dat.HoldVals w S (TStore.mk x0 x1 x2 x3 x4 x5 x6 x7 x8 x9 x10 x11 x12).D vs→Dat.wtL (TStore.mk x0 x1 x2 x3 x4 x5 x6 x7 x8 x9 x10 x11 x12).D≤1048576→Calls Tryz.prog f #[.agg vs.toArray] w (CloneP w x0 x1 x2 x3 x4 x5 x6 x7 x8 x9 x10 x11 x12)
set_option maxHeartbeats 1000000 in
theorem specVals_any:ValsC 54:=by
 intro xs S w A c hR hx
 have HR:=hide hR
 have hlc:=hR.1
 have hcm:=hR.2.1
 simp only[List.length_map]at hlc
 unfold maxLen at hcm
 clear hR
 obtain⟨iv,hiv,zv0,zv1,zv2⟩:=info_parts infoVal
 have HO5:=hide (OwnD.lit0 w 43 6)
 obtain⟨nw,hsr⟩:=Row.src (val_flat xs) (Row.bel (show Bel w (w.alloc (.cells #[] 43))from bl) HR.out)
 rw[List.length_map]at hsr
 have HSR:=hide hsr
 clear hsr
 go_enter Tryz.func54,Tryz.ntmps54
 go_wp2_with (at_builtin;refine wpList_append_D rfl (.tmp 3) (.tmp 4) 37 rfl 43 iv (.agg #[.int .i64 0,.int .i64 0,.int .i64 0,.string ByteArray.empty,.int .i64 0,.int .i64 0]) 6 56 Tryz.underlying37 hiv zv0 zv1 zv2 (by decide) (by decide) HO5.out HSR.out c rfl rfl (fun b _ h=>by cases h) ?c2 ?c3 ?_)
 case c2=>simp only[List.length_nil];omega
 case c3=>simp only[List.length_nil];unfold maxLen;omega
 intro v9 w9 hO9 hg9 hw9
 have hq:=copy_bel hg9 hw9
 have HQ:=hide hq
 have HO9:=hide (show OwnD w9 43 6 v9 [] (xs.map TValue.D)from hO9)
 clear hO9 hg9 hw9 hq
 go_wp2_with (fail)
 all_goals
  go_returns
  exact⟨v9,rfl,HO9.out,HQ.out.2,HQ.out.1⟩
end Go.Proofs.YtppmgodahloogaaGreatDoor
namespace Go.Proofs.YtppmgodahloogaaGreatDoor
set_option linter.unusedVariables false
set_option linter.unusedSimpArgs false
set_option maxRecDepth 100000
open Go.RowKit
theorem zero_intM (w:World):(zeroValue 3).run Tryz.prog w=.ok (.int .i64 0) w:=by kernel_rfl
def freshI (k:Int):List MapEntry→Bool
 | []=>true
 | ⟨.int .i64 a,_,_⟩ :: es=>decide (k≠a)&&freshI k es
 | _ :: _=>false
def lookI (k:Int):List MapEntry→Option Value
 | []=>some (.int .i64 0)
 | ⟨.int .i64 a,v,_⟩ :: es=>if k=a then some v else lookI k es
 | _ :: _=>none
theorem freshI_find (k:Int):∀(es:List MapEntry) (i:Nat),freshI k es=true→Instr.findNow (.int .i64) (.int .i64 k) es i=some none
 | [],i,_=>rfl
 | ⟨.int .i64 a,v,b⟩ :: es,i,h=>by
  simp only[freshI,Bool.and_eq_true,decide_eq_true_eq]at h
  have h2:(k==a)=false:=by simp[h.1]
  simp only[Instr.findNow,Instr.sameNow,h2,↓reduceIte]
  exact freshI_find k es (i+1) h.2
theorem lookI_find (k:Int) (v:Value):∀(es:List MapEntry) (i:Nat),lookI k es=some v→∃r,Instr.findNow (.int .i64) (.int .i64 k) es i=some r∧(match r with | some x=>x.2 | none=>.int .i64 0)=v
 | [],i,h=>⟨none,rfl,by simpa[lookI]using h⟩
 | ⟨.int .i64 a,u,b⟩ :: es,i,h=>by
  by_cases e:k=a
  ·
   subst e
   simp only[lookI,↓reduceIte,Option.some.injEq]at h
   subst h
   exact⟨some (i,u),by simp[Instr.findNow,Instr.sameNow],rfl⟩
  ·
   simp only[lookI,if_neg e]at h
   obtain⟨r,h1,h2⟩:=lookI_find k v es (i+1) h
   have e2:(k==a)=false:=by simp[e]
   exact⟨r,by simp only[Instr.findNow,Instr.sameNow,e2,↓reduceIte,h1],h2⟩
theorem ins_is (w0:World) (es:List MapEntry) (c b:Nat) (k:Int) (v:Value) (hb:b=w0.heap.size) (hnew:freshI k es=true) :
  (Instr.mapUpdate 118 (.map (some b)) (.int .i64 k) v).run Tryz.prog (w0.alloc (.map es.toArray c))=.ok () (w0.alloc (.map (es++[({ key:=.int .i64 k,val:=v,born:=c }:MapEntry)]).toArray (c+1))):=by
 have:=run_ins_int w0 es.toArray c Tryz.underlying118 Tryz.underlying3 b k v hb (freshI_find k _ 0 hnew)
 rw[this]
 simp
theorem run_look_intM {P:Program} (w0:World) (es:Array MapEntry) (c:Nat) {t kt e:TypeId} (ht:P.underlying t=some (.map kt e)) (hk:P.underlying kt=some (.int .i64)) (b:Nat) (k:Int) (r:Option (Nat × Value))
  (hb:b=w0.heap.size) (hr:Instr.findNow (.int .i64) (.int .i64 k) es.toList 0=some r) (hz:∀w,(zeroValue e).run P w=.ok (.int .i64 0) w) :
  (Instr.lookup t (.map (some b)) (.int .i64 k) false).run P (w0.alloc (.map es c))=.ok (match r with | some x=>x.2 | none=>.int .i64 0) (w0.alloc (.map es c)):=by
 subst hb
 have h0:(w0.alloc (.map es c)).heap[w0.heap.size]?=some (.map es c):=heap_alloc_new w0 _
 have hck:∀em w,(Instr.checkKey em 10000 kt (.int .i64 k)).run P w=.ok () w:=fun em w=>MapKept.run_checkKey hk (by simp[MapKept.IsKey]) em 9999
 cases r with
 | none=>simp[Instr.lookup,run_underlying ht,MapKept.run_getObj_map h0,hck,run_underlying hk,Instr.findKey,hr,hz,Result.andThen]
 | some x=>simp[Instr.lookup,run_underlying ht,MapKept.run_getObj_map h0,hck,run_underlying hk,Instr.findKey,hr,Result.andThen]
theorem look_is (w0:World) (es:List MapEntry) (c b:Nat) (k:Int) (hb:b=w0.heap.size) (hr:(lookI k es).isSome=true) :
  (Instr.lookup 118 (.map (some b)) (.int .i64 k) false).run Tryz.prog (w0.alloc (.map es.toArray c))=.ok ((lookI k es).getD undef) (w0.alloc (.map es.toArray c)):=by
 obtain⟨v,hv⟩:=Option.isSome_iff_exists.1 hr
 obtain⟨r,h1,h2⟩:=lookI_find k v es 0 hv
 rw[hv,Option.getD_some,←h2]
 have:=run_look_intM w0 es.toArray c Tryz.underlying118 Tryz.underlying3 b k r hb h1 zero_intM
 rw[this]
 cases r <;> rfl
theorem freshI_nil (k:Int):freshI k []=true:=by simp[freshI]
theorem freshI_cons (k a:Int) (v:Value) (b:Nat) (es:List MapEntry):freshI k (({ key:=.int .i64 a,val:=v,born:=b }:MapEntry) :: es)=(decide (k≠a)&&freshI k es):=by simp[freshI]
theorem lookI_nil (k:Int):lookI k []=some (.int .i64 0):=by simp[lookI]
theorem lookI_cons (k a:Int) (v:Value) (b:Nat) (es:List MapEntry):lookI k (({ key:=.int .i64 a,val:=v,born:=b }:MapEntry) :: es)=if k=a then some v else lookI k es:=by simp[lookI]
end Go.Proofs.YtppmgodahloogaaGreatDoor
namespace Go.Proofs.YtppmgodahloogaaGreatDoor
set_option linter.unusedVariables false
set_option linter.unusedSimpArgs false
set_option maxRecDepth 100000
open Go.RowKit
def nilSt:TStore:=.mk [] [] [] [] ByteArray.empty 0 [] [] [] false 0 0 0
def nilVal:TValue:=.mk 0 0 0 ByteArray.empty 0 0
def nilObj:TObject:=.mk 0 0 0 [] []
def newObj (o:TObject) (m:Int):TObject:=.mk o.kind o.tag m o.items o.keys
def nextM (m:Int):Int:=IntKind.i64.wrap (m+1)
def isCop (k:Int):Bool:=decide (4≤k)&&decide (k≤7)
def copS:TStore→TValue→TStore
 | .mk x0 x1 x2 x3 x4 x5 x6 x7 x8 x9 x10 x11 x12,.mk k n i t lo hi =>
  if isCop k=true then .mk x0 x1 (x2++[newObj (x2.getD n.toNat nilObj) (nextM x12)]) x3 x4 x5 x6 x7 x8 x9 x10 x11 (nextM x12) else .mk x0 x1 x2 x3 x4 x5 x6 x7 x8 x9 x10 x11 x12
def copV:TStore→TValue→TValue
 | .mk _ _ x2 _ _ _ _ _ _ _ _ _ _,.mk k n i t lo hi=>if isCop k=true then .mk k x2.length 0 ByteArray.empty 0 0 else .mk k n i t lo hi
def copOk (s:TStore) (v:TValue):Bool:=validB s&&dataB s v.v
def copT (s:TStore) (v:TValue):TStore:=if copOk s v=true then copS s v else nilSt
def copW (s:TStore) (v:TValue):TValue:=if copOk s v=true then copV s v else nilVal
theorem wt_getD:∀(l:List TObject) (i:Nat),Dat.wtL (newObj (l.getD i nilObj) 0).D≤Dat.wtR (l.map TObject.D)
 | [],i=>by simp[nilObj,newObj,TObject.kind,TObject.tag,TObject.items,TObject.keys,TObject.D_mk,Dat.wtL,Dat.wt,Dat.wtR]
 | .mk k t s it ks :: r,0=>by
  simp only[List.getD_cons_zero,newObj,TObject.kind,TObject.tag,TObject.items,TObject.keys,List.map_cons,Dat.wtR,TObject.D_mk,Dat.wtL,Dat.wt]
  omega
 | x :: r,i+1=>by
  have:=wt_getD r i
  simp only[List.getD_cons_succ,List.map_cons,Dat.wtR]
  omega
theorem wtR_snoc (l:List (List Dat)) (d:List Dat):Dat.wtR (l++[d])=Dat.wtR l+Dat.wtL d:=by
 induction l with
 | nil=>simp[Dat.wtR]
 | cons x r ih=>simp only[List.cons_append,Dat.wtR,ih];omega
theorem newObj_wt (o:TObject) (m:Int):Dat.wtL (newObj o m).D=Dat.wtL (newObj o 0).D:=by
 simp only[newObj,TObject.D_mk,Dat.wtL,Dat.wt]
theorem copT_wt (s:TStore) (v:TValue):Dat.wtL (copT s v).D≤2*Dat.wtL s.D+1:=by
 unfold copT
 split
 ·
  obtain⟨x0,x1,x2,x3,x4,x5,x6,x7,x8,x9,x10,x11,x12⟩:=s
  obtain⟨k,n,i,t,lo,hi⟩:=v
  simp only[copS]
  split
  ·
   have h:=wt_getD x2 n.toNat
   rw[←newObj_wt _ (nextM x12)]at h
   simp only[TStore.D_mk,Dat.wtL,Dat.wt,List.length_map,List.map_append,List.map_cons,List.map_nil,List.length_append,List.length_cons,List.length_nil,wtR_snoc]
   omega
  ·
   omega
 ·
  simp[nilSt,TStore.D_mk,Dat.wtL,Dat.wt,Dat.wtR]
end Go.Proofs.YtppmgodahloogaaGreatDoor
namespace Go.Proofs.YtppmgodahloogaaGreatDoor
set_option linter.unusedVariables false
set_option linter.unusedSimpArgs false
set_option maxRecDepth 100000
open Go.RowKit
theorem append_lit_bel {P:Program} {w w':World} (t ty e:TypeId) (i:TypeInfo) (z:Value) (ht:P.underlying t=some (.slice e)) (hi:P.info? e=some i) (hz:i.zero=some z)
  {g:Nat} {v':Value} (hown:w.ownsRow 0 e i.size (.slice (some ⟨g,0,none⟩) 0 0) 0 []) (a:Addr) (m c:Nat) {news:List Value} (hl:news.length=m*i.size) (hnews:∀j u,news[j]?=some u→w.cell? (a.add j)=some u) (h1:∀u∈news,u.oneCell'=true)
  (h63:m≤maxLen) (hbytes:m*i.bytes≤140737488355328) (hr:(Builtin.append_ #[t,t] ty #[.slice (some ⟨g,0,none⟩) 0 0,.slice (some a) m c]).run P w=.ok v' w'):Bel w w'∧∀b,v'.ownBlock=some b→b=g∨w.heap.size≤b:=by
 have hsm:=h63
 unfold maxLen at hsm
 rcases Nat.eq_zero_or_pos m with rfl | hm
 ·
  obtain rfl:news=[]:=List.eq_nil_of_length_eq_zero (by simpa using hl)
  rw[run_append_room_cells (P:=P) w t ty e i ht hi g 0 0 0 a 0 c [] hl hnews h1 (Nat.le_refl _) (fun j hj=>(by cases hj)) (fun j hj=>(by cases hj))]at hr
  injection hr with hv hw
  subst hv hw
  exact⟨Bel.refl _,fun b hb=>Or.inl (by injection hb with hb;exact hb.symm)⟩
 ·
  have hc:0<0+m:=by omega
  have hb2:(0+m)*i.bytes≤140737488355328:=by rw[Nat.zero_add];exact hbytes
  rw[run_append_grow (P:=P) w t ty e i z ht hi hz ⟨g,0,none⟩ 0 0 [] hown.1 (hown.cells (g:=g) rfl) a m c news hl hnews hc (by omega) (growslice_fits hc hb2)]at hr
  injection hr with hv hw
  subst hv hw
  exact⟨bl,fun b hb=>Or.inr (by injection hb with hb;exact Nat.le_of_eq hb)⟩
theorem wp_append_lit {P:Program} {w:World} {o:Oper} {a:Act} {K:Act→World→Prop} {Q:Exit→Act→World→Prop} (s x:Operand) (t:TypeId) (ho:o.op=.call { callee:=.builtin .append,args:=#[s,x],argTypes:=#[t,t] })
  (E:TypeId) (i:TypeInfo) (z:Value) (k bytes:Nat) (ht:P.underlying t=some (.slice E)) (hi:P.info? E=some i) (hz:i.zero=some z) (hsize:i.size=k) (hby:i.bytes=bytes) (hzs:z.cells.size=k) (hsz:0<k)
  {g:Nat} (hD:OwnD w E k (.slice (some ⟨g,0,none⟩) 0 0) [] []) {A:Option Addr} {m:Nat} {M:List Nat} {es:List (List Dat)} {news:List Value} (hS:Src w k A m M es news) (c:Nat) (hs:a.eval s=.slice (some ⟨g,0,none⟩) 0 0) (hx:a.eval x=.slice A m c)
  (hM:g∉M) (hlen:m*bytes≤140737488355328) (hmax:m≤maxLen)
  (h:∀v' w',OwnD w' E k v' M es→Bel w w'→(∀b,v'.ownBlock=some b→b=g∨w.heap.size≤b)→K (a.put o.dst v') w'):o.wp P a w K Q:=by
 obtain⟨cs,h1,h2,h3,h4⟩:=hD
 obtain⟨-,rfl⟩:=h2
 obtain⟨rfl,g2,g3,g4,g5⟩:=hS
 simp only[List.length_nil]at h1
 cases A with
 | none =>
  obtain h0:=g2 rfl
  obtain rfl:es=[]:=List.eq_nil_of_length_eq_zero h0
  obtain⟨rfl,rfl⟩:=g3
  have hrun:=run_append_none (P:=P) 0 t o.type E i k ht hi _ 0 [] h1 none c
  unfold Oper.wp
  simp only[List.length_nil]at hx hrun
  simp[execOp,ho,resolve,invoke,builtin,hs,hx,hrun,Result.andThen]
  exact h _ w ⟨[],h1,⟨rfl,rfl⟩,List.nodup_nil,fun b _ h=>(by cases h)⟩ (Bel.refl _) (fun b hb=>Or.inl (by injection hb with hb;exact hb.symm))
 | some ad =>
  subst hsize hby
  obtain⟨v',w',hr,q1,q2,-⟩:=run_append_own (P:=P) w 0 t o.type E i z i.size i.bytes ht hi hz rfl rfl hzs hsz _ 0 [] h1 ad es.length c news g3.len (g5 ad rfl) g3.oneCell (by omega) (by rw[Nat.zero_add];exact hlen) (Nat.zero_le _)
  obtain⟨h5,h6⟩:=append_lit_bel t o.type E i z ht hi hz h1 ad es.length c g3.len (g5 ad rfl) g3.oneCell hmax hlen hr
  unfold Oper.wp
  simp[execOp,ho,resolve,invoke,builtin,hs,hx,hr,Result.andThen]
  rw[Nat.zero_add]at q1
  refine h v' w' ⟨news,q1,g3.keep h5.size fun b hb=>h5.same (g3.lt b hb),g4,fun b hb hm=>?_⟩ h5 h6
  rcases h6 b hb with e | e
  ·
   subst e;exact hM hm
  ·
   have:=g3.lt b hm
   omega
end Go.Proofs.YtppmgodahloogaaGreatDoor
