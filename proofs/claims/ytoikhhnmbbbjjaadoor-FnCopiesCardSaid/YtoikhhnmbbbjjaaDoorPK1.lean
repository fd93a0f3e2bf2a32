/- CopyValue: what it gives. -/
import Derived.Test.YtoikhhnmbbbjjaaDoorPr
import Derived.Test.YtoikhhnmbbbjjaaDoorPShelf
import Derived.Test.YtoikhhnmbbbjjaaDoorPB
import Derived.Test.YtoikhhnmbbbjjaaDoorPK6
import Derived.Test.YtoikhhnmbbbjjaaDoorPK0
import Derived.ArgAppend
import Derived.Test.YtoikhhnmbbbjjaaDoorPMStringS
namespace Go.Proofs.YtoikhhnmbbbjjaaDoor
set_option linter.unusedVariables false
set_option linter.unusedSimpArgs false
set_option maxRecDepth 100000
open Go.RowKit
def nilSt:TStore:=.mk [] [] [] [] ByteArray.empty 0 [] [] [] false 0 0 0
def nilVal:TValue:=.mk 0 0 0 ByteArray.empty 0 0
def nilObj:TObject:=.mk 0 0 0 [] []
def newObj (o:TObject) (m:Int):TObject:=.mk o.kind o.tag m o.items o.keys
def nextM (m:Int):Int:=IntKind.i64.wrap (m+1)
def isCop (k:Int):Bool:=decide (4≤k)&&decide (k≤7)
def copS:TStore→TValue→TStore
 | .mk x0 x1 x2 x3 x4 x5 x6 x7 x8 x9 x10 x11 x12,.mk k n i t lo hi =>
  if isCop k=true then .mk x0 x1 (x2++[newObj (x2.getD n.toNat nilObj) (nextM x12)]) x3 x4 x5 x6 x7 x8 x9 x10 x11 (nextM x12) else .mk x0 x1 x2 x3 x4 x5 x6 x7 x8 x9 x10 x11 x12
def copV:TStore→TValue→TValue
 | .mk _ _ x2 _ _ _ _ _ _ _ _ _ _,.mk k n i t lo hi=>if isCop k=true then .mk k x2.length 0 ByteArray.empty 0 0 else .mk k n i t lo hi
def copOk (s:TStore) (v:TValue):Bool:=validB s&&dataB s v.v
def copT (s:TStore) (v:TValue):TStore:=if copOk s v=true then copS s v else nilSt
def copW (s:TStore) (v:TValue):TValue:=if copOk s v=true then copV s v else nilVal
end Go.Proofs.YtoikhhnmbbbjjaaDoor
namespace Go.Proofs.YtoikhhnmbbbjjaaDoor
set_option linter.unusedVariables false
set_option linter.unusedSimpArgs false
set_option maxRecDepth 100000
open Go.RowKit
theorem zero_intM (w:World):(zeroValue 3).run Tryd.prog w=.ok (.int .i64 0) w:=by kernel_rfl
def freshI (k:Int):List MapEntry→Bool
 | []=>true
 | ⟨.int .i64 a,_,_⟩ :: es=>decide (k≠a)&&freshI k es
 | _ :: _=>false
def lookI (k:Int):List MapEntry→Option Value
 | []=>some (.int .i64 0)
 | ⟨.int .i64 a,v,_⟩ :: es=>if k=a then some v else lookI k es
 | _ :: _=>none
theorem freshI_find (k:Int):∀(es:List MapEntry) (i:Nat),freshI k es=true→Instr.findNow (.int .i64) (.int .i64 k) es i=some none
 | [],i,_=>rfl
 | ⟨.int .i64 a,v,b⟩ :: es,i,h=>by
  simp only[freshI,Bool.and_eq_true,decide_eq_true_eq]at h
  have h2:(k==a)=false:=by simp[h.1]
  simp only[Instr.findNow,Instr.sameNow,h2,↓reduceIte]
  exact freshI_find k es (i+1) h.2
theorem lookI_find (k:Int) (v:Value):∀(es:List MapEntry) (i:Nat),lookI k es=some v→∃r,Instr.findNow (.int .i64) (.int .i64 k) es i=some r∧(match r with | some x=>x.2 | none=>.int .i64 0)=v
 | [],i,h=>⟨none,rfl,by simpa[lookI]using h⟩
 | ⟨.int .i64 a,u,b⟩ :: es,i,h=>by
  by_cases e:k=a
  ·
   subst e
   simp only[lookI,↓reduceIte,Option.some.injEq]at h
   subst h
   exact⟨some (i,u),by simp[Instr.findNow,Instr.sameNow],rfl⟩
  ·
   simp only[lookI,if_neg e]at h
   obtain⟨r,h1,h2⟩:=lookI_find k v es (i+1) h
   have e2:(k==a)=false:=by simp[e]
   exact⟨r,by simp only[Instr.findNow,Instr.sameNow,e2,↓reduceIte,h1],h2⟩
theorem ins_is (w0:World) (es:List MapEntry) (c b:Nat) (k:Int) (v:Value) (hb:b=w0.heap.size) (hnew:freshI k es=true) :
  (Instr.mapUpdate 92 (.map (some b)) (.int .i64 k) v).run Tryd.prog (w0.alloc (.map es.toArray c))=.ok () (w0.alloc (.map (es++[({ key:=.int .i64 k,val:=v,born:=c }:MapEntry)]).toArray (c+1))):=by
 have:=run_ins_int w0 es.toArray c Tryd.underlying92 Tryd.underlying3 b k v hb (freshI_find k _ 0 hnew)
 rw[this]
 simp
theorem run_look_intM {P:Program} (w0:World) (es:Array MapEntry) (c:Nat) {t kt e:TypeId} (ht:P.underlying t=some (.map kt e)) (hk:P.underlying kt=some (.int .i64)) (b:Nat) (k:Int) (r:Option (Nat × Value))
  (hb:b=w0.heap.size) (hr:Instr.findNow (.int .i64) (.int .i64 k) es.toList 0=some r) (hz:∀w,(zeroValue e).run P w=.ok (.int .i64 0) w) :
  (Instr.lookup t (.map (some b)) (.int .i64 k) false).run P (w0.alloc (.map es c))=.ok (match r with | some x=>x.2 | none=>.int .i64 0) (w0.alloc (.map es c)):=by
 subst hb
 have h0:(w0.alloc (.map es c)).heap[w0.heap.size]?=some (.map es c):=heap_alloc_new w0 _
 have hck:∀em w,(Instr.checkKey em 10000 kt (.int .i64 k)).run P w=.ok () w:=fun em w=>MapKept.run_checkKey hk (by simp[MapKept.IsKey]) em 9999
 cases r with
 | none=>simp[Instr.lookup,run_underlying ht,MapKept.run_getObj_map h0,hck,run_underlying hk,Instr.findKey,hr,hz,Result.andThen]
 | some x=>simp[Instr.lookup,run_underlying ht,MapKept.run_getObj_map h0,hck,run_underlying hk,Instr.findKey,hr,Result.andThen]
theorem look_is (w0:World) (es:List MapEntry) (c b:Nat) (k:Int) (hb:b=w0.heap.size) (hr:(lookI k es).isSome=true) :
  (Instr.lookup 92 (.map (some b)) (.int .i64 k) false).run Tryd.prog (w0.alloc (.map es.toArray c))=.ok ((lookI k es).getD undef) (w0.alloc (.map es.toArray c)):=by
 obtain⟨v,hv⟩:=Option.isSome_iff_exists.1 hr
 obtain⟨r,h1,h2⟩:=lookI_find k v es 0 hv
 rw[hv,Option.getD_some,←h2]
 have:=run_look_intM w0 es.toArray c Tryd.underlying92 Tryd.underlying3 b k r hb h1 zero_intM
 rw[this]
 cases r <;> rfl
theorem freshI_nil (k:Int):freshI k []=true:=by simp[freshI]
theorem freshI_cons (k a:Int) (v:Value) (b:Nat) (es:List MapEntry):freshI k (({ key:=.int .i64 a,val:=v,born:=b }:MapEntry) :: es)=(decide (k≠a)&&freshI k es):=by simp[freshI]
theorem lookI_nil (k:Int):lookI k []=some (.int .i64 0):=by simp[lookI]
theorem lookI_cons (k a:Int) (v:Value) (b:Nat) (es:List MapEntry):lookI k (({ key:=.int .i64 a,val:=v,born:=b }:MapEntry) :: es)=if k=a then some v else lookI k es:=by simp[lookI]
end Go.Proofs.YtoikhhnmbbbjjaaDoor
namespace Go.Proofs.YtoikhhnmbbbjjaaDoor
set_option linter.unusedVariables false
set_option linter.unusedSimpArgs false
set_option maxRecDepth 100000
open Go.RowKit
attribute [local go_sem] ins_is look_is freshI_nil freshI_cons lookI_nil lookI_cons
set_option maxHeartbeats 4000000 in
theorem addStructure_any (kk mm nm:Int) (hnm:IntKind.i64.wrap (mm+1)=nm) (hkk:kk=2∨kk=3∨kk=4∨kk=5) (N:Nat) (w:World) (q:Nat) (v0 v1 v2 v3 v4 v5 v6 v7 v8 v9 v10 v11:Value) (la lb:List Ent) (L M:List Nat) (ds:List (List Dat)) (d:List Dat) (tg:Int) (A3 A4:Option Addr) (n3 c3 n4 c4:Nat) (h:MkS N w q v0 v1 v2 v3 v4 v5 v6 v7 v8 v9 v10 v11 (.int .i64 mm) la lb L ds) (hd:Dat.OwnVals w M d [.int .i64 kk,.int .i64 tg,.int .i64 nm,.slice A3 n3 c3,.slice A4 n4 c4]) (hn:M.Nodup) (hM:∀b,b∈M→N≤b∧b≠q∧∀f,f∈la++⟨42,5,v2,L,ds⟩ :: lb→¬Blk f.v f.L b) (hl:ds.length≤2097152) (hNw:N≤w.heap.size) :
  Calls Tryd.prog 32 #[.pointer (some ⟨q,0,none⟩),.int .i64 kk,.int .i64 tg,.slice A3 n3 c3,.slice A4 n4 c4] w (MadeP N w q v0 v1 v2 v3 v4 v5 v6 v7 v8 v9 v10 v11 (.int .i64 mm) (.int .i64 nm) la lb L M ds d (.agg #[.int .i64 (kk+2),.int .i64 (ds.length:Nat),.int .i64 0,.string ByteArray.empty,.int .i64 0,.int .i64 0])):=by
 have HH0:=hide h
 have HD0:=hide hd
 have HN:=hide hn
 have HM:=hide hM
 have hqN:=h.low
 clear h hd hn hM
 have hc1:=HD0.out.oneCell
 obtain⟨hlb,hfb,kb_0,kb_1,kb_2,kb_3,kb_4,kb_5,kb_6,kb_7,kb_8,kb_9,kb_10,kb_11,kb_12⟩:=HH0.out.box
 go_enter Tryd.func32,Tryd.ntmps32
 go_upto_region 2 with (fail)
 refine wp_named2 fun wr hwr=>?_
 clear hlb hfb kb_0 kb_1 kb_2 kb_3 kb_4 kb_5 kb_6 kb_7 kb_8 kb_9 kb_10 kb_11 kb_12 hc1
 obtain⟨w1,hw1⟩:∃x,w.setCell ⟨q,12,none⟩ (.int .i64 nm)=x:=⟨_,rfl⟩
 replace hwr:w1.alloc (.cells #[.int .i64 0,.int .i64 0,.int .i64 0,.string ByteArray.empty,.int .i64 0,.int .i64 0] 34)=wr:=by rw[←hw1];exact hwr
 have hB1:ButB q w w1:=by rw[←hw1];exact ButB.set ⟨rfl,rfl,rfl,rfl,fun _ _=>rfl⟩ 12 _
 have hz1:=hB1.size
 have hbr:Bel w1 wr:=by rw[←hwr];exact bl
 have HS:=hide hB1
 have HH:=hide (show MkS N wr q v0 v1 v2 v3 v4 v5 v6 v7 v8 v9 v10 v11 (.int .i64 nm) la lb L ds from MkS.on (by rw[←hw1];exact⟨HH0.out.box.put12 _,HH0.out.ents.far2 hqN 12 _,hqN⟩) hbr)
 have HD:=hide (show Dat.OwnVals wr M d [.int .i64 kk,.int .i64 tg,.int .i64 nm,.slice A3 n3 c3,.slice A4 n4 c4]from Dat.OwnVals.bel hbr (Dat.OwnVals.keep (by omega) _ _ _ (fun x hx=>⟨fun o=>World.cell?_of_block (hB1.block x (HM.out x hx).2.1),fun o=>World.frozen?_of_block (hB1.block x (HM.out x hx).2.1)⟩) HD0.out))
 have HZ:=hide (show Z6 wr w.heap.size from by rw[←hwr,←hz1];exact Z6.new)
 have hsz:wr.heap.size=w.heap.size+1:=by rw[←hwr,←hz1];simp
 have hc1:=HD.out.oneCell
 obtain⟨hlb,hfb,kb_0,kb_1,kb_2,kb_3,kb_4,kb_5,kb_6,kb_7,kb_8,kb_9,kb_10,kb_11,kb_12⟩:=HH.out.box
 go_upto_region 3 with (first | (go_at_call 60;refine (addObject_any N wr q v0 v1 v2 v3 v4 v5 v6 v7 v8 v9 v10 v11 (.int .i64 nm) la lb L M ds d _ _ _ _ _ HH.out HD.out HN.out HM.out hl (by omega)).mono ?_;intro e w2 hP;obtain⟨y,rfl,hrest⟩:=hP))
 have hs2:=hrest.2.1.2.2.2
 have hlv:=(HH0.out.ents.own ⟨42,5,v2,L,ds⟩ (by simp)).lt
 have hwq:=HH0.out.box.1
 have HZ2:=hide (HZ.out.block hs2 (hrest.2.2.2 w.heap.size (by omega) (by omega) (fun e=>by have:=hlv w.heap.size (Or.inl e);omega)))
 have HP:=hide (show MadeP N wr q v0 v1 v2 v3 v4 v5 v6 v7 v8 v9 v10 v11 (.int .i64 nm) (.int .i64 nm) la lb L M ds d (.int .i64 (ds.length:Nat)) (.returned (.int .i64 (ds.length:Nat))) w2 from⟨y,rfl,hrest⟩)
 clear hrest hlb hfb kb_0 kb_1 kb_2 kb_3 kb_4 kb_5 kb_6 kb_7 kb_8 kb_9 kb_10 kb_11 kb_12 hc1 HD HN
 rcases hkk with rfl | rfl | rfl | rfl
 ·
  skip
  obtain⟨cz0,cz1,cz2,cz3,cz4,cz5,cz6,cz7⟩:=HZ2.out
  have hmm:=@run_makeMap Tryd.prog
  go_upto_region 4 with (fail)
  refine wp_named2 fun w3 hw3=>?_
  have hb3:Bel w2 w3:=by rw[←hw3];exact bl
  clear hw3 cz0 cz1 cz2 cz3 cz4 cz5 cz6 cz7
  have HZ3:=hide (HZ2.out.on hb3)
  have hs3:=hb3.size
  obtain⟨cz0,cz1,cz2,cz3,cz4,cz5,cz6,cz7⟩:=HZ3.out
  have HB3:=hide hb3
  clear hb3
  go_wp2_with (fail)
  refine gen_ret6k HZ3.out fun w4 d0 d1 d2 d3 d4 d5 hB4=>?_
  exact bodyPost_ret (v:=.agg #[.int .i64 4,.int .i64 (ds.length:Nat),.int .i64 0,.string ByteArray.empty,.int .i64 0,.int .i64 0]) (by simp[results,Tryd.results32,d0,d1,d2,d3,d4,d5,go_sem];try rfl) rfl (MadeP.fin HH0.out (fun hb=>Nat.lt_irrefl _ (Dat.OwnVals.lt _ _ _ HD0.out _ hb)) (by omega) ⟨hbr.os.trans hB1.os,hbr.tape.trans hB1.tape,hbr.output.trans hB1.output⟩ (fun k hk hkq=>(Below.block hbr k (by omega)).trans (hB1.block k hkq)) (Nat.le_refl _) (by omega) HP.out HB3.out hB4)
 ·
  skip
  obtain⟨cz0,cz1,cz2,cz3,cz4,cz5,cz6,cz7⟩:=HZ2.out
  have hmm:=@run_makeMap Tryd.prog
  go_upto_region 4 with (fail)
  refine wp_named2 fun w3 hw3=>?_
  have hb3:Bel w2 w3:=by rw[←hw3];exact bl
  clear hw3 cz0 cz1 cz2 cz3 cz4 cz5 cz6 cz7
  have HZ3:=hide (HZ2.out.on hb3)
  have hs3:=hb3.size
  obtain⟨cz0,cz1,cz2,cz3,cz4,cz5,cz6,cz7⟩:=HZ3.out
  have HB3:=hide hb3
  clear hb3
  go_wp2_with (fail)
  refine gen_ret6k HZ3.out fun w4 d0 d1 d2 d3 d4 d5 hB4=>?_
  exact bodyPost_ret (v:=.agg #[.int .i64 5,.int .i64 (ds.length:Nat),.int .i64 0,.string ByteArray.empty,.int .i64 0,.int .i64 0]) (by simp[results,Tryd.results32,d0,d1,d2,d3,d4,d5,go_sem];try rfl) rfl (MadeP.fin HH0.out (fun hb=>Nat.lt_irrefl _ (Dat.OwnVals.lt _ _ _ HD0.out _ hb)) (by omega) ⟨hbr.os.trans hB1.os,hbr.tape.trans hB1.tape,hbr.output.trans hB1.output⟩ (fun k hk hkq=>(Below.block hbr k (by omega)).trans (hB1.block k hkq)) (Nat.le_refl _) (by omega) HP.out HB3.out hB4)
 ·
  skip
  obtain⟨cz0,cz1,cz2,cz3,cz4,cz5,cz6,cz7⟩:=HZ2.out
  have hmm:=@run_makeMap Tryd.prog
  go_upto_region 4 with (fail)
  refine wp_named2 fun w3 hw3=>?_
  have hb3:Bel w2 w3:=by rw[←hw3];exact bl
  clear hw3 cz0 cz1 cz2 cz3 cz4 cz5 cz6 cz7
  have HZ3:=hide (HZ2.out.on hb3)
  have hs3:=hb3.size
  obtain⟨cz0,cz1,cz2,cz3,cz4,cz5,cz6,cz7⟩:=HZ3.out
  have HB3:=hide hb3
  clear hb3
  go_wp2_with (fail)
  refine gen_ret6k HZ3.out fun w4 d0 d1 d2 d3 d4 d5 hB4=>?_
  exact bodyPost_ret (v:=.agg #[.int .i64 6,.int .i64 (ds.length:Nat),.int .i64 0,.string ByteArray.empty,.int .i64 0,.int .i64 0]) (by simp[results,Tryd.results32,d0,d1,d2,d3,d4,d5,go_sem];try rfl) rfl (MadeP.fin HH0.out (fun hb=>Nat.lt_irrefl _ (Dat.OwnVals.lt _ _ _ HD0.out _ hb)) (by omega) ⟨hbr.os.trans hB1.os,hbr.tape.trans hB1.tape,hbr.output.trans hB1.output⟩ (fun k hk hkq=>(Below.block hbr k (by omega)).trans (hB1.block k hkq)) (Nat.le_refl _) (by omega) HP.out HB3.out hB4)
 ·
  skip
  obtain⟨cz0,cz1,cz2,cz3,cz4,cz5,cz6,cz7⟩:=HZ2.out
  have hmm:=@run_makeMap Tryd.prog
  go_upto_region 4 with (fail)
  refine wp_named2 fun w3 hw3=>?_
  have hb3:Bel w2 w3:=by rw[←hw3];exact bl
  clear hw3 cz0 cz1 cz2 cz3 cz4 cz5 cz6 cz7
  have HZ3:=hide (HZ2.out.on hb3)
  have hs3:=hb3.size
  obtain⟨cz0,cz1,cz2,cz3,cz4,cz5,cz6,cz7⟩:=HZ3.out
  have HB3:=hide hb3
  clear hb3
  go_wp2_with (fail)
  refine gen_ret6k HZ3.out fun w4 d0 d1 d2 d3 d4 d5 hB4=>?_
  exact bodyPost_ret (v:=.agg #[.int .i64 7,.int .i64 (ds.length:Nat),.int .i64 0,.string ByteArray.empty,.int .i64 0,.int .i64 0]) (by simp[results,Tryd.results32,d0,d1,d2,d3,d4,d5,go_sem];try rfl) rfl (MadeP.fin HH0.out (fun hb=>Nat.lt_irrefl _ (Dat.OwnVals.lt _ _ _ HD0.out _ hb)) (by omega) ⟨hbr.os.trans hB1.os,hbr.tape.trans hB1.tape,hbr.output.trans hB1.output⟩ (fun k hk hkq=>(Below.block hbr k (by omega)).trans (hB1.block k hkq)) (Nat.le_refl _) (by omega) HP.out HB3.out hB4)
end Go.Proofs.YtoikhhnmbbbjjaaDoor
namespace Go.Proofs.YtoikhhnmbbbjjaaDoor
set_option linter.unusedVariables false
set_option linter.unusedSimpArgs false
set_option maxRecDepth 100000
open Go.RowKit
theorem append_lit_bel {P:Program} {w w':World} (t ty e:TypeId) (i:TypeInfo) (z:Value) (ht:P.underlying t=some (.slice e)) (hi:P.info? e=some i) (hz:i.zero=some z)
  {g:Nat} {v':Value} (hown:w.ownsRow 0 e i.size (.slice (some ⟨g,0,none⟩) 0 0) 0 []) (a:Addr) (m c:Nat) {news:List Value} (hl:news.length=m*i.size) (hnews:∀j u,news[j]?=some u→w.cell? (a.add j)=some u) (h1:∀u∈news,u.oneCell'=true)
  (h63:m≤maxLen) (hbytes:m*i.bytes≤140737488355328) (hr:(Builtin.append_ #[t,t] ty #[.slice (some ⟨g,0,none⟩) 0 0,.slice (some a) m c]).run P w=.ok v' w'):Bel w w'∧∀b,v'.ownBlock=some b→b=g∨w.heap.size≤b:=by
 have hsm:=h63
 unfold maxLen at hsm
 rcases Nat.eq_zero_or_pos m with rfl | hm
 ·
  obtain rfl:news=[]:=List.eq_nil_of_length_eq_zero (by simpa using hl)
  rw[run_append_room_cells (P:=P) w t ty e i ht hi g 0 0 0 a 0 c [] hl hnews h1 (Nat.le_refl _) (fun j hj=>(by cases hj)) (fun j hj=>(by cases hj))]at hr
  injection hr with hv hw
  subst hv hw
  exact⟨Bel.refl _,fun b hb=>Or.inl (by injection hb with hb;exact hb.symm)⟩
 ·
  have hc:0<0+m:=by omega
  have hb2:(0+m)*i.bytes≤140737488355328:=by rw[Nat.zero_add];exact hbytes
  rw[run_append_grow (P:=P) w t ty e i z ht hi hz ⟨g,0,none⟩ 0 0 [] hown.1 (hown.cells (g:=g) rfl) a m c news hl hnews hc (by omega) (growslice_fits hc hb2)]at hr
  injection hr with hv hw
  subst hv hw
  exact⟨bl,fun b hb=>Or.inr (by injection hb with hb;exact Nat.le_of_eq hb)⟩
theorem wp_append_lit {P:Program} {w:World} {o:Oper} {a:Act} {K:Act→World→Prop} {Q:Exit→Act→World→Prop} (s x:Operand) (t:TypeId) (ho:o.op=.call { callee:=.builtin .append,args:=#[s,x],argTypes:=#[t,t] })
  (E:TypeId) (i:TypeInfo) (z:Value) (k bytes:Nat) (ht:P.underlying t=some (.slice E)) (hi:P.info? E=some i) (hz:i.zero=some z) (hsize:i.size=k) (hby:i.bytes=bytes) (hzs:z.cells.size=k) (hsz:0<k)
  {g:Nat} (hD:OwnD w E k (.slice (some ⟨g,0,none⟩) 0 0) [] []) {A:Option Addr} {m:Nat} {M:List Nat} {es:List (List Dat)} {news:List Value} (hS:Src w k A m M es news) (c:Nat) (hs:a.eval s=.slice (some ⟨g,0,none⟩) 0 0) (hx:a.eval x=.slice A m c)
  (hM:g∉M) (hlen:m*bytes≤140737488355328) (hmax:m≤maxLen)
  (h:∀v' w',OwnD w' E k v' M es→Bel w w'→(∀b,v'.ownBlock=some b→b=g∨w.heap.size≤b)→K (a.put o.dst v') w'):o.wp P a w K Q:=by
 obtain⟨cs,h1,h2,h3,h4⟩:=hD
 obtain⟨-,rfl⟩:=h2
 obtain⟨rfl,g2,g3,g4,g5⟩:=hS
 simp only[List.length_nil]at h1
 cases A with
 | none =>
  obtain h0:=g2 rfl
  obtain rfl:es=[]:=List.eq_nil_of_length_eq_zero h0
  obtain⟨rfl,rfl⟩:=g3
  have hrun:=run_append_none (P:=P) 0 t o.type E i k ht hi _ 0 [] h1 none c
  unfold Oper.wp
  simp only[List.length_nil]at hx hrun
  simp[execOp,ho,resolve,invoke,builtin,hs,hx,hrun,Result.andThen]
  exact h _ w ⟨[],h1,⟨rfl,rfl⟩,List.nodup_nil,fun b _ h=>(by cases h)⟩ (Bel.refl _) (fun b hb=>Or.inl (by injection hb with hb;exact hb.symm))
 | some ad =>
  subst hsize hby
  obtain⟨v',w',hr,q1,q2,-⟩:=run_append_own (P:=P) w 0 t o.type E i z i.size i.bytes ht hi hz rfl rfl hzs hsz _ 0 [] h1 ad es.length c news g3.len (g5 ad rfl) g3.oneCell (by omega) (by rw[Nat.zero_add];exact hlen) (Nat.zero_le _)
  obtain⟨h5,h6⟩:=append_lit_bel t o.type E i z ht hi hz h1 ad es.length c g3.len (g5 ad rfl) g3.oneCell hmax hlen hr
  unfold Oper.wp
  simp[execOp,ho,resolve,invoke,builtin,hs,hx,hr,Result.andThen]
  rw[Nat.zero_add]at q1
  refine h v' w' ⟨news,q1,g3.keep h5.size fun b hb=>h5.same (g3.lt b hb),g4,fun b hb hm=>?_⟩ h5 h6
  rcases h6 b hb with e | e
  ·
   subst e;exact hM hm
  ·
   have:=g3.lt b hm
   omega
end Go.Proofs.YtoikhhnmbbbjjaaDoor
namespace Go.Proofs.YtoikhhnmbbbjjaaDoor
set_option linter.unusedVariables false
set_option linter.unusedSimpArgs false
set_option maxRecDepth 100000
open Go.RowKit
theorem MadeP.on {N:Nat} {w w2 w3:World} {q:Nat} {v0 v1 v2 v3 v4 v5 v6 v7 v8 v9 v10 v11 v12 u12:Value} {la lb:List Ent} {L M:List Nat} {ds:List (List Dat)} {d:List Dat} {r:Value} {e:Ending} (h:MadeP N w q v0 v1 v2 v3 v4 v5 v6 v7 v8 v9 v10 v11 v12 u12 la lb L M ds d r e w2) (k:Bel w2 w3):MadeP N w q v0 v1 v2 v3 v4 v5 v6 v7 v8 v9 v10 v11 v12 u12 la lb L M ds d r e w3:=by
 obtain⟨y,he,hk,hfr,hy,hsm⟩:=h
 have hz:=k.size
 exact⟨y,he,hk.on k,⟨k.os.trans hfr.1,k.tape.trans hfr.2.1,k.output.trans hfr.2.2.1,by omega⟩,hy,fun j hj a b=>(Below.block k j (by omega)).trans (hsm j hj a b)⟩
def VB (w:World) (b:Nat) (k n i:Int) (t:ByteArray) (lo hi:Int):Prop:=b<w.heap.size∧w.cell? ⟨b,0,none⟩=some (.int .i64 k)∧w.cell? ⟨b,1,none⟩=some (.int .i64 n)∧w.cell? ⟨b,2,none⟩=some (.int .i64 i)∧w.cell? ⟨b,3,none⟩=some (.string t)∧w.cell? ⟨b,4,none⟩=some (.int .i64 lo)∧w.cell? ⟨b,5,none⟩=some (.int .i64 hi)
theorem VB.block {w w':World} {b:Nat} {k n i lo hi:Int} {t:ByteArray} (h:VB w b k n i t lo hi) (hs:w.heap.size≤w'.heap.size) (hb:w'.heap[b]?=w.heap[b]?):VB w' b k n i t lo hi:=by
 obtain⟨l,c0,c1,c2,c3,c4,c5⟩:=h
 have e:∀o,w'.cell? ⟨b,o,none⟩=w.cell? ⟨b,o,none⟩:=fun o=>World.cell?_of_block hb
 exact⟨by omega,(e 0).trans c0,(e 1).trans c1,(e 2).trans c2,(e 3).trans c3,(e 4).trans c4,(e 5).trans c5⟩
theorem VB.on {w w':World} {b:Nat} {k n i lo hi:Int} {t:ByteArray} (h:VB w b k n i t lo hi) (k':Bel w w'):VB w' b k n i t lo hi:=h.block k'.size (Below.block k' b h.1)
theorem inI_wrap (x:Int):InI (IntKind.i64.wrap x):=by
 unfold InI
 rw[IntKind.wrap_i64]
 omega
def CopP (N:Nat) (w:World) (q:Nat) (v0 v1 v2 v3 v4 v5 v6 v7 v8 v9 v10 v11:Value) (mm:Int) (la lb:List Ent) (L:List Nat) (x2:List TObject) (k n i:Int) (t:ByteArray) (lo hi:Int) (e:Ending) (w':World):Prop :=
 if isCop k=true then ∃M:List Nat,M.Nodup∧(∀b,b∈M→w.heap.size≤b)∧MadeP N w q v0 v1 v2 v3 v4 v5 v6 v7 v8 v9 v10 v11 (.int .i64 mm) (.int .i64 (nextM mm)) la lb L M (x2.map TObject.D) (newObj (x2.getD n.toNat nilObj) (nextM mm)).D (.agg #[.int .i64 k,.int .i64 (x2.length:Nat),.int .i64 0,.string ByteArray.empty,.int .i64 0,.int .i64 0]) e w'
 else e=.returned (.agg #[.int .i64 k,.int .i64 n,.int .i64 i,.string t,.int .i64 lo,.int .i64 hi])∧Bel w w'
abbrev CopC (f:FuncId):Prop:=∀(N:Nat) (w:World) (q:Nat) (v0 v1 v2 v3 v4 v5 v6 v7 v8 v9 v10 v11:Value) (mm:Int) (la lb:List Ent) (L:List Nat) (x2:List TObject) (k n i:Int) (t:ByteArray) (lo hi:Int),MkS N w q v0 v1 v2 v3 v4 v5 v6 v7 v8 v9 v10 v11 (.int .i64 mm) la lb L (x2.map TObject.D) →
 (isCop k=true→∃m:Nat,n=(m:Int)∧∃h:m<x2.length,x2[m].kind+2=k)→x2.length≤1048576→(∀(j:Nat) (h:j<x2.length),x2[j].its.length≤1048576∧x2[j].kys.length≤1048576)→N≤w.heap.size →
  Calls Tryd.prog f #[.pointer (some ⟨q,0,none⟩),.agg #[.int .i64 k,.int .i64 n,.int .i64 i,.string t,.int .i64 lo,.int .i64 hi]] w (CopP N w q v0 v1 v2 v3 v4 v5 v6 v7 v8 v9 v10 v11 mm la lb L x2 k n i t lo hi)
set_option maxHeartbeats 4000000 in
theorem specCopy_any:CopC 17:=by
 intro N w q v0 v1 v2 v3 v4 v5 v6 v7 v8 v9 v10 v11 mm la lb L x2 k n i t lo hi h hn hl hsz hNw
 have HH0:=hide h
 have HSZ:=hide hsz
 clear h hsz
 obtain⟨A2,c2,hv2,hrow⟩:=OwnD.row (S:=fun _=>True) (HH0.out.ents.own ⟨42,5,v2,L,x2.map TObject.D⟩ (by simp)) (fun _ _=>trivial)
 have HR2:=hide hrow
 rw[List.length_map]at hv2
 replace hv2:v2=.slice A2 x2.length c2:=hv2
 subst hv2
 clear hrow
 have hc:=hn
 unfold CopP
 rcases (show k<4∨7<k∨(4≤k∧k≤7) by omega)with hk | hk | ⟨hk4,hk7⟩
 ·
  have hcf:isCop k=false:=by unfold isCop;simp;omega
  clear hn hc
  rw[hcf]
  simp only[Bool.false_eq_true,↓reduceIte]
  have dk:decide (k<4)=true:=decide_eq_true hk
  exact rk213
 ·
  have hcf:isCop k=false:=by unfold isCop;simp;omega
  clear hn hc
  rw[hcf]
  simp only[Bool.false_eq_true,↓reduceIte]
  have dk:decide (k<4)=false:=decide_eq_false (by omega)
  have dk2:decide (7<k)=true:=decide_eq_true hk
  have hk3:¬k<4:=by omega
  exact rk213
 ·
  have hct:isCop k=true:=by unfold isCop;simp;omega
  obtain⟨m,rfl,hm,hkk⟩:=hn hct
  clear hn hc
  rw[hct]
  simp only[↓reduceIte]
  have dk:decide (k<4)=false:=decide_eq_false (by omega)
  have dk2:decide (7<k)=false:=decide_eq_false (by omega)
  have hk3:¬k<4:=by omega
  have hk4:¬7<k:=by omega
  have HKK:=hide hkk
  clear hkk
  go_enter Tryd.func17,Tryd.ntmps17
  go_upto_region 2 with (fail)
  refine wp_named2 fun wL hwL=>?_
  have hbL:Bel w wL:=by rw[←hwL];exact bl
  have HVB:=hide (show VB wL w.heap.size k m i t lo hi from by rw[←hwL];exact⟨by simp;omega,by simp[go_sem],by simp[go_sem],by simp[go_sem],by simp[go_sem],by simp[go_sem],by simp[go_sem]⟩)
  have HZ:=hide (show Z6 wL (w.heap.size+1)from by rw[←hwL];have h:=Z6.new (w:=w.alloc (.cells #[.int .i64 k,.int .i64 m,.int .i64 i,.string t,.int .i64 lo,.int .i64 hi] 34)) (t:=34);rw[World.size_alloc]at h;exact h)
  have hzL:wL.heap.size=w.heap.size+2:=by rw[←hwL];simp
  have HZL:=hide hzL
  have hzL2:w.heap.size+1<wL.heap.size:=by omega
  clear hwL hzL
  have HT:=hide (HH0.out.on hbL)
  have hi0:(0:Int)≤(m:Int):=by omega
  have hi1:(m:Int)<(x2.length:Int):=by omega
  (obtain⟨b1,o1,x1_0,x1_1,x1_2,x1_3,x1_4,A1_3,C1_3,A1_4,C1_4,hA1,hS1,hl1,hx1,hv1,g1_0,g1_1,g1_2,g1_3,g1_4,c1_0,c1_1,c1_2,c1_3,c1_4⟩:=TObject.at HR2.out m hm;subst hA1;have HV1:=hide (Dat.HoldVals.bel hbL hv1);have hh1:=hbL.box b1 hl1;have hw1:=Nat.lt_of_lt_of_le hl1 (Bel.size hbL);replace c1_0:=(hh1 _).trans c1_0;replace c1_1:=(hh1 _).trans c1_1;replace c1_2:=(hh1 _).trans c1_2;replace c1_3:=(hh1 _).trans c1_3;replace c1_4:=(hh1 _).trans c1_4;have HX1:=hide hx1;have GR1_3:=hide g1_3;have GR1_4:=hide g1_4;clear hh1 hv1 hx1 hS1 g1_3 g1_4)
  have hgd:x2.getD ((m:Int)).toNat nilObj=.mk x1_0 x1_1 x1_2 x1_3 x1_4:=by rw[Int.toNat_natCast,List.getD_eq_getElem?_getD,List.getElem?_eq_getElem hm,Option.getD_some];exact HX1.out
  have HGD:=hide hgd
  clear hgd
  have hkk:=HKK.out
  rw[HX1.out]at hkk
  replace hkk:x1_0+2=k:=hkk
  have hfo:=HSZ.out m hm
  rw[HX1.out]at hfo
  simp only[TObject.its,TObject.kys]at hfo
  obtain⟨hlb,hfb,kb_0,kb_1,kb_2,kb_3,kb_4,kb_5,kb_6,kb_7,kb_8,kb_9,kb_10,kb_11,kb_12⟩:=HT.out.box
  obtain⟨hlv,y0,y1,y2,y3,y4,y5⟩:=HVB.out
  go_region
  go_upto_region 4 with (fail)
  clear hlb hfb kb_0 kb_1 kb_2 kb_3 kb_4 kb_5 kb_6 kb_7 kb_8 kb_9 kb_10 kb_11 kb_12 hlv y0 y1 y2 y3 y4 y5
  refine wp_named2 fun wr hwr=>?_
  have hbA:Bel wL wr:=by rw[←hwr];exact bl
  have OA:=hide (show OB wr wL.heap.size (.int .i64 x1_0) (.int .i64 x1_1) (.int .i64 x1_2) (.slice A1_3 x1_3.length C1_3) (.slice A1_4 x1_4.length C1_4)from by rw[←hwr];exact (OB.new _ _).on bl)
  have TA:=hide (HT.out.on hbA)
  have VA:=hide (HVB.out.on hbA)
  have ZA:=hide (HZ.out.on hbA)
  have hzo:wL.heap.size<wr.heap.size:=OA.out.1
  clear hwr
  have hlv2:∀b,Value.ownBlock (.slice (some ⟨b1,o1,none⟩) x2.length c2)=some b→b<w.heap.size:=fun b hb=>(HH0.out.ents.own ⟨42,5,.slice (some ⟨b1,o1,none⟩) x2.length c2,L,x2.map TObject.D⟩ (by simp)).lt b (Or.inl hb)
  have hwq:=HH0.out.box.1
  have HLV:=hide hlv2
  clear hlv2
  refine wp_region_factsU (m:=16) (p:=14) (fun j=>match j with | 12=>[9] | _=>[]) (fun j vf wq=>match j with | 0=>((vf 0)=.pointer (some ⟨w.heap.size,0,none⟩)) | 1=>((vf 1)=.int .i64 k) | 2=>((vf 2)=.pointer (some ⟨q,0,none⟩)) | 3=>((vf 3)=.pointer (some ⟨wL.heap.size,0,none⟩)) | 4=>((vf 4)=.int .i64 x1_0) | 5=>((vf 5)=.pointer (some ⟨wL.heap.size,1,none⟩)) | 6=>((vf 6)=.int .i64 x1_1) | 7=>((vf 7)=.pointer (some ⟨wL.heap.size,3,none⟩)) | 8=>((vf 8)=.slice A1_3 x1_3.length C1_3) | 9=>(∃(AI:Option Addr) (dI:Nat),(vf 9)=.slice AI (List.length x1_3) dI∧OwnD wq 34 6 (.slice AI (List.length x1_3) dI) [] (x1_3.map TValue.D)∧(∀q,Blk (.slice AI (List.length x1_3) dI) [] q→wr.heap.size≤q)) | 10=>((vf 10)=.pointer (some ⟨wL.heap.size,4,none⟩)) | 11=>((vf 11)=.slice A1_4 x1_4.length C1_4) | 12=>(∃(AJ:Option Addr) (dJ:Nat),(vf 12)=.slice AJ (List.length x1_4) dJ∧OwnD wq 34 6 (.slice AJ (List.length x1_4) dJ) [] (x1_4.map TValue.D)∧(∀q,Blk (.slice AJ (List.length x1_4) dJ) [] q→wr.heap.size≤q∧¬Blk (vf 9) [] q)) | 13=>(∃(AI:Option Addr) (dI:Nat) (AJ:Option Addr) (dJ:Nat),(vf 13)=.agg #[.int .i64 x1_0,.int .i64 x1_1,.int .i64 0,.slice AI (List.length x1_3) dI,.slice AJ (List.length x1_4) dJ]∧OwnD wq 34 6 (.slice AI (List.length x1_3) dI) [] (x1_3.map TValue.D)∧OwnD wq 34 6 (.slice AJ (List.length x1_4) dJ) [] (x1_4.map TValue.D)∧(∀q,Blk (.slice AI (List.length x1_3) dI) [] q→wr.heap.size≤q)∧(∀q,Blk (.slice AJ (List.length x1_4) dJ) [] q→wr.heap.size≤q∧¬Blk (.slice AI (List.length x1_3) dI) [] q)) | 14=>((vf 14)=.int .i64 (x2.length:Nat)) | 15=>((vf 15)=.agg #[.int .i64 k,.int .i64 (x2.length:Nat),.int .i64 0,.string ByteArray.empty,.int .i64 0,.int .i64 0]) | _=>True) (fun wa wb=>Bel wa wb) (fun wa wb=>KpN wr.heap.size wa wb) (fun wq=>MkS N wq q v0 v1 (.slice (some ⟨b1,o1,none⟩) x2.length c2) v3 v4 v5 v6 v7 v8 v9 v10 v11 (.int .i64 mm) la lb L (x2.map TObject.D)∧VB wq w.heap.size k m i t lo hi∧OB wq wL.heap.size (.int .i64 x1_0) (.int .i64 x1_1) (.int .i64 x1_2) (.slice A1_3 x1_3.length C1_3) (.slice A1_4 x1_4.length C1_4)∧Z6 wq (w.heap.size+1)∧Bel wr wq) (fun wq=>(VB wq w.heap.size k m i t lo hi∧Z6 wq (w.heap.size+1))∧∃(wa:World) (M:List Nat),Bel wr wa∧M.Nodup∧(∀b,b∈M→wr.heap.size≤b)∧MadeP N wa q v0 v1 (.slice (some ⟨b1,o1,none⟩) x2.length c2) v3 v4 v5 v6 v7 v8 v9 v10 v11 (.int .i64 mm) (.int .i64 (nextM mm)) la lb L M (x2.map TObject.D) (newObj (x2.getD ((m:Int)).toNat nilObj) (nextM mm)).D (.int .i64 (x2.length:Nat)) (.returned (.int .i64 (x2.length:Nat))) wq) [(0,some 23),(1,some 24),(2,some 25),(3,some 26),(4,some 27),(5,some 28),(6,some 29),(7,some 30),(8,some 31),(9,some 32),(10,some 33),(11,some 34),(12,some 35),(13,some 36),(14,some 37),(15,some 38),(16,none)] rfl (by kernel_rfl) (by kernel_rfl) (by kernel_rfl) (by decide) ?hG ?hR ?hR2 ?hG0 ?hG1 rfl rfl ?hstep ?hp ?hlast
  case hG=>exact⟨TA.out.on bl,VA.out.on bl,OA.out.on bl,ZA.out.on bl,bl⟩
  case hG0=>exact fun wa wb hk hg=>⟨hg.1.on hk,hg.2.1.on hk,hg.2.2.1.on hk,hg.2.2.2.1.on hk,hg.2.2.2.2.trans hk⟩
  case hG1=>exact fun wa wb hk hg=>by obtain⟨g1,wq,M,g2,g3,g4,g5⟩:=hg;exact⟨⟨g1.1.on hk,g1.2.on hk⟩,wq,M,g2,g3,g4,g5.on hk⟩
  case hR =>
   intro j vf wa wb hk hv
   match j,hv with
   | 0,hv=>exact hv
   | 1,hv=>exact hv
   | 2,hv=>exact hv
   | 3,hv=>exact hv
   | 4,hv=>exact hv
   | 5,hv=>exact hv
   | 6,hv=>exact hv
   | 7,hv=>exact hv
   | 8,hv=>exact hv
   | 9,hv=>exact (by obtain⟨AI,dI,e,h1,h2⟩:=hv;exact⟨AI,dI,e,h1.kpn (kpn_bel hk) h2,h2⟩)
   | 10,hv=>exact hv
   | 11,hv=>exact hv
   | 12,hv=>exact (by obtain⟨AJ,dJ,e,h1,h2⟩:=hv;exact⟨AJ,dJ,e,h1.kpn (kpn_bel hk) (fun q hq=>(h2 q hq).1),h2⟩)
   | 13,hv=>exact (by obtain⟨AI,dI,AJ,dJ,e,h1,h2,h3,h4⟩:=hv;exact⟨AI,dI,AJ,dJ,e,h1.kpn (kpn_bel hk) h3,h2.kpn (kpn_bel hk) (fun q hq=>(h4 q hq).1),h3,h4⟩)
   | 14,hv=>exact hv
   | 15,hv=>exact hv
   | n+16,hv=>exact trivial
  case hR2 =>
   intro j vf wa wb hjp hk hv
   match j,hv with
   | 0,hv=>exact hv
   | 1,hv=>exact hv
   | 2,hv=>exact hv
   | 3,hv=>exact hv
   | 4,hv=>exact hv
   | 5,hv=>exact hv
   | 6,hv=>exact hv
   | 7,hv=>exact hv
   | 8,hv=>exact hv
   | 9,hv=>exact (by obtain⟨AI,dI,e,h1,h2⟩:=hv;exact⟨AI,dI,e,h1.kpn hk h2,h2⟩)
   | 10,hv=>exact hv
   | 11,hv=>exact hv
   | 12,hv=>exact (by obtain⟨AJ,dJ,e,h1,h2⟩:=hv;exact⟨AJ,dJ,e,h1.kpn hk (fun q hq=>(h2 q hq).1),h2⟩)
   | 13,hv=>exact (by obtain⟨AI,dI,AJ,dJ,e,h1,h2,h3,h4⟩:=hv;exact⟨AI,dI,AJ,dJ,e,h1.kpn hk h3,h2.kpn hk (fun q hq=>(h4 q hq).1),h3,h4⟩)
   | 15,hv=>exact hv
   | 14,hv=>exact absurd rfl hjp
   | n+16,hv=>exact trivial
  case hstep =>
   simp only[putP,Act.put,List.setIfInBounds_toArray,List.set_cons_zero,List.set_cons_succ,List.getElem_toArray,List.getElem_cons_zero,List.getElem_cons_succ]
   refine (stepsU_cons (i:=0) (i2:=1) (o:=_) rfl ?s0 (stepsU_cons (i:=1) (i2:=2) (o:=_) rfl ?s1 (stepsU_cons (i:=2) (i2:=3) (o:=_) rfl ?s2 (stepsU_cons (i:=3) (i2:=4) (o:=_) rfl ?s3 (stepsU_cons (i:=4) (i2:=5) (o:=_) rfl ?s4 (stepsU_cons (i:=5) (i2:=6) (o:=_) rfl ?s5 (stepsU_cons (i:=6) (i2:=7) (o:=_) rfl ?s6 (stepsU_cons (i:=7) (i2:=8) (o:=_) rfl ?s7 (stepsU_cons (i:=8) (i2:=9) (o:=_) rfl ?s8 (stepsU_cons (i:=9) (i2:=10) (o:=_) rfl ?s9 (stepsU_cons (i:=10) (i2:=11) (o:=_) rfl ?s10 (stepsU_cons (i:=11) (i2:=12) (o:=_) rfl ?s11 (stepsU_cons (i:=12) (i2:=13) (o:=_) rfl ?s12 (stepsU_cons (i:=13) (i2:=14) (o:=_) rfl ?s13 (stepsU_skip (p:=14) (p2:=15) (stepsU_cons (i:=15) (i2:=16) (o:=_) rfl ?s15 (stepsU_nil (by decide))))))))))))))))))
   case s0 =>
    exact rk76
   case s2 =>
    exact rk76
   case s3 =>
    exact rk76
   case s5 =>
    exact rk76
   case s7 =>
    exact rk76
   case s10 =>
    exact rk76
   case s1 =>
    intro u wa hG hf K hK
    have hvb:VB wa w.heap.size k m i t lo hi:=hG.elim (fun g=>g.2.1) (fun g=>g.1.1.1)
    have e0:(u 0)=.pointer (some ⟨w.heap.size,0,none⟩):=fact_ofU hf 0 (by kernel_rfl)
    clear hf
    clear hG
    simp only[Act.put,List.setIfInBounds_toArray,List.set_cons_zero,List.set_cons_succ,List.getElem_toArray,List.getElem_cons_zero,List.getElem_cons_succ]at hK ⊢
    rw[e0]at hK ⊢
    obtain⟨hlv,y0,y1,y2,y3,y4,y5⟩:=hvb
    go_simp
    exact hK.out _ _ (Bel.refl _) rfl
   case s4 =>
    intro u wa hG hf K hK
    have g0:=g0_of hG (by kernel_rfl)
    have e3:(u 3)=.pointer (some ⟨wL.heap.size,0,none⟩):=fact_ofU hf 3 (by kernel_rfl)
    clear hf
    clear hG
    simp only[Act.put,List.setIfInBounds_toArray,List.set_cons_zero,List.set_cons_succ,List.getElem_toArray,List.getElem_cons_zero,List.getElem_cons_succ]at hK ⊢
    rw[e3]at hK ⊢
    exact rk183
   case s6 =>
    intro u wa hG hf K hK
    have g0:=g0_of hG (by kernel_rfl)
    have e5:(u 5)=.pointer (some ⟨wL.heap.size,1,none⟩):=fact_ofU hf 5 (by kernel_rfl)
    clear hf
    clear hG
    simp only[Act.put,List.setIfInBounds_toArray,List.set_cons_zero,List.set_cons_succ,List.getElem_toArray,List.getElem_cons_zero,List.getElem_cons_succ]at hK ⊢
    rw[e5]at hK ⊢
    exact rk183
   case s8 =>
    intro u wa hG hf K hK
    have g0:=g0_of hG (by kernel_rfl)
    have e7:(u 7)=.pointer (some ⟨wL.heap.size,3,none⟩):=fact_ofU hf 7 (by kernel_rfl)
    clear hf
    clear hG
    simp only[Act.put,List.setIfInBounds_toArray,List.set_cons_zero,List.set_cons_succ,List.getElem_toArray,List.getElem_cons_zero,List.getElem_cons_succ]at hK ⊢
    rw[e7]at hK ⊢
    exact rk183
   case s11 =>
    intro u wa hG hf K hK
    have g0:=g0_of hG (by kernel_rfl)
    have e10:(u 10)=.pointer (some ⟨wL.heap.size,4,none⟩):=fact_ofU hf 10 (by kernel_rfl)
    clear hf
    clear hG
    simp only[Act.put,List.setIfInBounds_toArray,List.set_cons_zero,List.set_cons_succ,List.getElem_toArray,List.getElem_cons_zero,List.getElem_cons_succ]at hK ⊢
    rw[e10]at hK ⊢
    exact rk183
   case s9 =>
    intro u wa hG hf K hK
    have g0:=g0_of hG (by kernel_rfl)
    have e8:(u 8)=.slice A1_3 x1_3.length C1_3:=fact_ofU hf 8 (by kernel_rfl)
    clear hf
    clear hG
    simp only[Act.put,List.setIfInBounds_toArray,List.set_cons_zero,List.set_cons_succ,List.getElem_toArray,List.getElem_cons_zero,List.getElem_cons_succ]at hK ⊢
    rw[e8]at hK ⊢
    have hbl9:=Bel.trans hbL (Bel.trans hbA g0.2.2.2.2)
    have hz9:=Bel.size g0.2.2.2.2
    go_simp
    go_at_call 34
    refine (specVals_any x1_3 (fun _=>True) _ _ _ (Row.bel hbl9 GR1_3.out) (by omega)).mono ?_
    rintro e w2 ⟨vv,rfl,hO,hn,hb2⟩
    exact rk204
   case s12 =>
    intro u wa hG hf K hK
    have g0:=g0_of hG (by kernel_rfl)
    have e11:(u 11)=.slice A1_4 x1_4.length C1_4:=fact_ofU hf 11 (by kernel_rfl)
    have e9:∃(AI:Option Addr) (dI:Nat),(u 9)=.slice AI (List.length x1_3) dI∧OwnD wa 34 6 (.slice AI (List.length x1_3) dI) [] (x1_3.map TValue.D)∧(∀q,Blk (.slice AI (List.length x1_3) dI) [] q→wr.heap.size≤q):=fact_ofU hf 9 (by kernel_rfl)
    clear hf
    clear hG
    simp only[Act.put,List.setIfInBounds_toArray,List.set_cons_zero,List.set_cons_succ,List.getElem_toArray,List.getElem_cons_zero,List.getElem_cons_succ]at hK ⊢
    rw[e11]at hK ⊢
    obtain⟨AI,dI,e9,hI,hIl⟩:=e9
    rw[e9]at hK ⊢
    have hbl9:=Bel.trans hbL (Bel.trans hbA g0.2.2.2.2)
    have hz9:=Bel.size g0.2.2.2.2
    go_simp
    go_at_call 34
    refine (specVals_any x1_4 (fun _=>True) _ _ _ (Row.bel hbl9 GR1_4.out) (by omega)).mono ?_
    rintro e w2 ⟨vv,rfl,hO,hn,hb2⟩
    obtain⟨AJ,dJ,L9,hvv,-⟩:=hO.ownRow
    rw[List.length_map]at hvv
    subst hvv
    exact hK.out _ _ hb2 ⟨AJ,dJ,rfl,hO,fun q hq=>⟨Nat.le_trans hz9 (hn q hq),by show ¬Blk (u 9) [] q;rw[e9];intro hc;have h1:=hI.lt q hc;have h2:=hn q hq;omega⟩⟩
   case s13 =>
    intro u wa hG hf K hK
    have e4:(u 4)=.int .i64 x1_0:=fact_ofU hf 4 (by kernel_rfl)
    have e6:(u 6)=.int .i64 x1_1:=fact_ofU hf 6 (by kernel_rfl)
    have e9:∃(AI:Option Addr) (dI:Nat),(u 9)=.slice AI (List.length x1_3) dI∧OwnD wa 34 6 (.slice AI (List.length x1_3) dI) [] (x1_3.map TValue.D)∧(∀q,Blk (.slice AI (List.length x1_3) dI) [] q→wr.heap.size≤q):=fact_ofU hf 9 (by kernel_rfl)
    have e12:∃(AJ:Option Addr) (dJ:Nat),(u 12)=.slice AJ (List.length x1_4) dJ∧OwnD wa 34 6 (.slice AJ (List.length x1_4) dJ) [] (x1_4.map TValue.D)∧(∀q,Blk (.slice AJ (List.length x1_4) dJ) [] q→wr.heap.size≤q∧¬Blk (u 9) [] q):=fact_ofU hf 12 (by kernel_rfl)
    clear hf
    clear hG
    simp only[Act.put,List.setIfInBounds_toArray,List.set_cons_zero,List.set_cons_succ,List.getElem_toArray,List.getElem_cons_zero,List.getElem_cons_succ]at hK ⊢
    rw[e4]at hK ⊢
    rw[e6]at hK ⊢
    obtain⟨AI,dI,e9,hI,hIl⟩:=e9
    rw[e9]at hK ⊢
    obtain⟨AJ,dJ,e12,hJ,hJl⟩:=e12
    rw[e12]at hK ⊢
    rw[e9]at hJl
    go_simp
    exact hK.out _ _ (Bel.refl _) ⟨AI,dI,AJ,dJ,rfl,hI,hJ,hIl,hJl⟩
   case s15 =>
    intro u wa hG hf K hK
    have e1:(u 1)=.int .i64 k:=fact_ofU hf 1 (by kernel_rfl)
    have e14:(u 14)=.int .i64 (x2.length:Nat):=fact_ofU hf 14 (by kernel_rfl)
    clear hf
    clear hG
    simp only[Act.put,List.setIfInBounds_toArray,List.set_cons_zero,List.set_cons_succ,List.getElem_toArray,List.getElem_cons_zero,List.getElem_cons_succ]at hK ⊢
    rw[e1]at hK ⊢
    rw[e14]at hK ⊢
    go_simp
    exact hK.out _ _ (Bel.refl _) rfl
  case hp =>
   simp only[putP,Act.put,List.setIfInBounds_toArray,List.set_cons_zero,List.set_cons_succ,List.getElem_toArray,List.getElem_cons_zero,List.getElem_cons_succ]
   intro u wa hG hf K hK
   have e2:(u 2)=.pointer (some ⟨q,0,none⟩):=fact_ofU hf 2 (by kernel_rfl)
   have e13:∃(AI:Option Addr) (dI:Nat) (AJ:Option Addr) (dJ:Nat),(u 13)=.agg #[.int .i64 x1_0,.int .i64 x1_1,.int .i64 0,.slice AI (List.length x1_3) dI,.slice AJ (List.length x1_4) dJ]∧OwnD wa 34 6 (.slice AI (List.length x1_3) dI) [] (x1_3.map TValue.D)∧OwnD wa 34 6 (.slice AJ (List.length x1_4) dJ) [] (x1_4.map TValue.D)∧(∀q,Blk (.slice AI (List.length x1_3) dI) [] q→wr.heap.size≤q)∧(∀q,Blk (.slice AJ (List.length x1_4) dJ) [] q→wr.heap.size≤q∧¬Blk (.slice AI (List.length x1_3) dI) [] q):=fact_ofU hf 13 (by kernel_rfl)
   clear hf
   rw[e2]at hK ⊢
   obtain⟨AI,dI,AJ,dJ,e13,hI,hJ,hIl,hJl⟩:=e13
   rw[e13]at hK ⊢
   obtain⟨AI2,cI2,LI,eI,rI,nI2,mI⟩:=hI.ownRow
   obtain⟨AJ2,cJ2,LJ,eJ,rJ,nJ2,mJ⟩:=hJ.ownRow
   simp only[List.length_map]at eI eJ
   injection eI with eI1 eI2 eI3
   injection eJ with eJ1 eJ2 eJ3
   subst eI1 eI3 eJ1 eJ3
   have hov:=TObject.own_mk g1_0 g1_1 (inI_wrap (mm+1)) rI rJ
   have hnd:(LI++LJ).Nodup:=nodup_app nI2 nJ2 (fun a ha hb=>(hJl a (mJ a hb)).2 (mI a ha))
   have hlm:∀a,a∈LI++LJ→wr.heap.size≤a:=fun a ha=>(List.mem_append.1 ha).elim (fun q=>hIl a (mI a q)) (fun q=>(hJl a (mJ a q)).1)
   have hMM:∀b,b∈LI++LJ→N≤b∧b≠q∧∀f,f∈la++⟨42,5,.slice (some ⟨b1,o1,none⟩) x2.length c2,L,x2.map TObject.D⟩ :: lb→¬Blk f.v f.L b:=fun b hb=>⟨by have:=hlm b hb;omega,by have:=hlm b hb;omega,fun f hf hc=>by have h1:=hlm b hb;have h2:=(TA.out.ents.own f hf).lt b hc;omega⟩
   have hz9:=Bel.size hG.2.2.2.2
   have hzb:=Bel.size hbA
   go_simp
   go_at_call 35
   refine (l13New_any x1_0 mm (nextM mm) rfl (by omega) (by omega) N wa q v0 v1 (.slice (some ⟨b1,o1,none⟩) x2.length c2) v3 v4 v5 v6 v7 v8 v9 v10 v11 la lb L (LI++LJ) (x2.map TObject.D) (TObject.mk x1_0 x1_1 (nextM mm) x1_3 x1_4).D _ _ _ _ hG.1 hov (by rfl) hnd hMM (by rw[List.length_map];omega) (by omega)).mono ?_
   intro e w2 hP
   rw[List.length_map]at hP
   exact rk123
  case hlast =>
   simp only[putP,Act.put,List.setIfInBounds_toArray,List.set_cons_zero,List.set_cons_succ,List.getElem_toArray,List.getElem_cons_zero,List.getElem_cons_succ]
   intro u wa hG hf K hK
   have e15:(u 15)=.agg #[.int .i64 k,.int .i64 (x2.length:Nat),.int .i64 0,.string ByteArray.empty,.int .i64 0,.int .i64 0]:=hf 15 (by decide)
   clear hf
   rw[e15]at hK ⊢
   obtain⟨⟨hvb,hzz⟩,wc,M,hbc,hnd,hlm,hP⟩:=hG
   have ZZ:=hide hzz
   have HP:=hide hP
   have hzc:=hbc.size
   have hzA:=hbA.size
   have hfa:∀k,k<w.heap.size→k≠q→wc.heap[k]?=w.heap[k]?:=fun k hk _=>(Below.block hbc k (by omega)).trans ((Below.block hbA k (by omega)).trans (Below.block hbL k hk))
   have HFA:=hide hfa
   have HFO:=hide (show wc.os=w.os∧wc.tape=w.tape∧wc.output=w.output from⟨hbc.os.trans (hbA.os.trans hbL.os),hbc.tape.trans (hbA.tape.trans hbL.tape),hbc.output.trans (hbA.output.trans hbL.output)⟩)
   have HLM:=hide hlm
   have HND:=hide hnd
   clear hP hvb hfa hlm hnd
   obtain⟨cz0,cz1,cz2,cz3,cz4,cz5,cz6,cz7⟩:=hzz
   go_simp
   refine hK.out undef _ ?_
   clear hK
   go_wp2_with (fail)
   refine gen_ret6k ZZ.out fun w4 d0 d1 d2 d3 d4 d5 hB4=>?_
   exact bodyPost_ret (v:=.agg #[.int .i64 k,.int .i64 (x2.length:Nat),.int .i64 0,.string ByteArray.empty,.int .i64 0,.int .i64 0]) (by simp[results,Tryd.results17,d0,d1,d2,d3,d4,d5,go_sem];try rfl) rfl ⟨M,HND.out,fun b hb=>by have:=HLM.out b hb;omega,MadeP.fin HH0.out (fun hb=>by have:=HLM.out _ hb;omega) (by omega) HFO.out HFA.out (by omega) (by omega) HP.out (Bel.refl _) hB4⟩
end Go.Proofs.YtoikhhnmbbbjjaaDoor
namespace Go.Proofs.YtoikhhnmbbbjjaaDoor
set_option linter.unusedVariables false
set_option linter.unusedSimpArgs false
set_option maxRecDepth 100000
open Go.RowKit
theorem ents_rows {N:Nat} {w:World}:∀(l:List Ent),Ents N w l→∃Ms:List (List Nat),Ms.length=l.length∧(∀(i:Nat) (e:Ent),l[i]?=some e→∃A c M,Ms[i]?=some M∧e.v=.slice A e.ds.length c∧OwnRow w M e.k A c e.ds)∧Ms.flatten.Nodup∧∀b,b∈Ms.flatten→∃e∈l,Blk e.v e.L b
 | [],_=>⟨[],rfl,fun i e h=>by simp at h,List.nodup_nil,fun b hb=>by simp at hb⟩
 | x :: r,h=>by
  have hp:=List.pairwise_cons.1 h.sep
  obtain⟨Ms,h1,h2,h3,h4⟩:=ents_rows r ⟨fun e he=>h.own e (List.mem_cons_of_mem _ he),fun e he=>h.low e (List.mem_cons_of_mem _ he),hp.2⟩
  obtain⟨A,c,M,e1,e2,e3,e4⟩:=OwnD.ownRow (h.own x (List.mem_cons_self ..))
  refine⟨M :: Ms,by simp[h1],fun i e he=>?_,?_,fun b hb=>?_⟩
  ·
   cases i with
   | zero =>
    obtain rfl:x=e:=by simpa using he
    exact⟨A,c,M,rfl,e1,e2⟩
   | succ i=>exact h2 i e (by simpa using he)
  ·
   rw[List.flatten_cons]
   exact nodup_app e3 h3 (fun a ha hb=>by obtain⟨e,he,hq⟩:=h4 a hb;exact hp.1 e he a (e4 a ha) hq)
  ·
   rw[List.flatten_cons]at hb
   rcases List.mem_append.1 hb with hb | hb
   ·
    exact⟨x,List.mem_cons_self ..,e4 b hb⟩
   ·
    obtain⟨e,he,hq⟩:=h4 b hb
    exact⟨e,List.mem_cons_of_mem _ he,hq⟩
theorem ents_own {N:Nat} {w:World} {x0:List ByteArray} {x1:List TRecordType} {x2:List TObject} {x3:List TValue} {x4:ByteArray} {x5:Int} {x6 x7:List ByteArray} {x8:List TActive} {x9:Bool} {x10 x11 x12:Int} {v0 v1 v2 v3 v6 v7 v8:Value} {L0 L1 L2 L3 L6 L7 L8:List Nat} (h:Ents N w [⟨9,1,v0,L0,x0.map (fun x=>[Dat.str x])⟩,⟨71,3,v1,L1,x1.map TRecordType.D⟩,⟨42,5,v2,L2,x2.map TObject.D⟩,⟨34,6,v3,L3,x3.map TValue.D⟩,⟨9,1,v6,L6,x6.map (fun x=>[Dat.str x])⟩,⟨9,1,v7,L7,x7.map (fun x=>[Dat.str x])⟩,⟨53,2,v8,L8,x8.map TActive.D⟩]) (h4:x4.size≤maxLen) (h5:InI x5) (h10:InI x10) (h11:InI x11) (h12:InI x12):∃L,Dat.OwnVals w L (TStore.mk x0 x1 x2 x3 x4 x5 x6 x7 x8 x9 x10 x11 x12).D [v0,v1,v2,v3,.string x4,.int .i64 x5,v6,v7,v8,.bool x9,.int .i64 x10,.int .i64 x11,.int .i64 x12]∧L.Nodup∧∀b,b∈L→N≤b:=by
 obtain⟨Ms,hlen,hrow,hnd,hin⟩:=ents_rows _ h
 obtain⟨M0,M1,M2,M3,M6,M7,M8,rfl⟩:∃M0 M1 M2 M3 M6 M7 M8,Ms=[M0,M1,M2,M3,M6,M7,M8]:=by match Ms,hlen with | [M0,M1,M2,M3,M6,M7,M8],_=>exact⟨_,_,_,_,_,_,_,rfl⟩
 obtain⟨A0,c0,M,hM,e0,r0⟩:=hrow 0 _ rfl
 obtain rfl:=Option.some.inj (show some M0=some M from hM)
 replace e0:v0=.slice A0 (x0.map (fun x=>[Dat.str x])).length c0:=e0
 rw[List.length_map]at e0
 subst e0
 obtain⟨A1,c1,M,hM,e1,r1⟩:=hrow 1 _ rfl
 obtain rfl:=Option.some.inj (show some M1=some M from hM)
 replace e1:v1=.slice A1 (x1.map TRecordType.D).length c1:=e1
 rw[List.length_map]at e1
 subst e1
 obtain⟨A2,c2,M,hM,e2,r2⟩:=hrow 2 _ rfl
 obtain rfl:=Option.some.inj (show some M2=some M from hM)
 replace e2:v2=.slice A2 (x2.map TObject.D).length c2:=e2
 rw[List.length_map]at e2
 subst e2
 obtain⟨A3,c3,M,hM,e3,r3⟩:=hrow 3 _ rfl
 obtain rfl:=Option.some.inj (show some M3=some M from hM)
 replace e3:v3=.slice A3 (x3.map TValue.D).length c3:=e3
 rw[List.length_map]at e3
 subst e3
 obtain⟨A6,c6,M,hM,e6,r6⟩:=hrow 4 _ rfl
 obtain rfl:=Option.some.inj (show some M6=some M from hM)
 replace e6:v6=.slice A6 (x6.map (fun x=>[Dat.str x])).length c6:=e6
 rw[List.length_map]at e6
 subst e6
 obtain⟨A7,c7,M,hM,e7,r7⟩:=hrow 5 _ rfl
 obtain rfl:=Option.some.inj (show some M7=some M from hM)
 replace e7:v7=.slice A7 (x7.map (fun x=>[Dat.str x])).length c7:=e7
 rw[List.length_map]at e7
 subst e7
 obtain⟨A8,c8,M,hM,e8,r8⟩:=hrow 6 _ rfl
 obtain rfl:=Option.some.inj (show some M8=some M from hM)
 replace e8:v8=.slice A8 (x8.map TActive.D).length c8:=e8
 rw[List.length_map]at e8
 subst e8
 have hfl:[M0,M1,M2,M3,M6,M7,M8].flatten=M0++(M1++(M2++(M3++(M6++(M7++M8))))):=by simp
 rw[hfl]at hnd hin
 exact⟨_,TStore.own_mk r0 r1 r2 r3 h4 h5 r6 r7 r8 h10 h11 h12,hnd,fun b hb=>by obtain⟨e,he,hq⟩:=hin b hb;exact h.low e he b hq⟩
end Go.Proofs.YtoikhhnmbbbjjaaDoor
namespace Go.Proofs.YtoikhhnmbbbjjaaDoor
set_option linter.unusedVariables false
set_option linter.unusedSimpArgs false
set_option maxRecDepth 100000
open Go.RowKit
set_option maxHeartbeats 4000000 in
theorem implCopied_any:CopC 14:=by
 intro N w q v0 v1 v2 v3 v4 v5 v6 v7 v8 v9 v10 v11 mm la lb L x2 k n i t lo hi h hn hl hsz hNw
 obtain⟨iv,hiv,zv0,zv1,zv2⟩:=info_parts infoVal
 have HH0:=hide h
 have HSZ:=hide hsz
 clear h hsz
 obtain⟨A2,c2,hv2,hrow⟩:=OwnD.row (S:=fun _=>True) (HH0.out.ents.own ⟨42,5,v2,L,x2.map TObject.D⟩ (by simp)) (fun _ _=>trivial)
 have HR2:=hide hrow
 rw[List.length_map]at hv2
 replace hv2:v2=.slice A2 x2.length c2:=hv2
 subst hv2
 clear hrow
 have hc:=hn
 unfold CopP
 rcases (show k<4∨7<k∨(4≤k∧k≤7) by omega)with hk | hk | ⟨hk4,hk7⟩
 ·
  have hcf:isCop k=false:=by unfold isCop;simp;omega
  clear hn hc
  rw[hcf]
  simp only[Bool.false_eq_true,↓reduceIte]
  have dk:decide (k<4)=true:=decide_eq_true hk
  exact rk214
 ·
  have hcf:isCop k=false:=by unfold isCop;simp;omega
  clear hn hc
  rw[hcf]
  simp only[Bool.false_eq_true,↓reduceIte]
  have dk:decide (k<4)=false:=decide_eq_false (by omega)
  have dk2:decide (7<k)=true:=decide_eq_true hk
  have hk3:¬k<4:=by omega
  exact rk214
 ·
  have hct:isCop k=true:=by unfold isCop;simp;omega
  obtain⟨m,rfl,hm,hkk⟩:=hn hct
  clear hn hc
  rw[hct]
  simp only[↓reduceIte]
  have dk:decide (k<4)=false:=decide_eq_false (by omega)
  have dk2:decide (7<k)=false:=decide_eq_false (by omega)
  have hk3:¬k<4:=by omega
  have hk4:¬7<k:=by omega
  have HKK:=hide hkk
  clear hkk
  go_enter Tryd.func14,Tryd.ntmps14
  go_upto_region 2 with (fail)
  refine wp_named2 fun wL hwL=>?_
  have hbL:Bel w wL:=by rw[←hwL];exact bl
  have HVB:=hide (show VB wL w.heap.size k m i t lo hi from by rw[←hwL];exact⟨by simp;omega,by simp[go_sem],by simp[go_sem],by simp[go_sem],by simp[go_sem],by simp[go_sem],by simp[go_sem]⟩)
  have HZ:=hide (show Z6 wL (w.heap.size+1)from by rw[←hwL];have h:=Z6.new (w:=w.alloc (.cells #[.int .i64 k,.int .i64 m,.int .i64 i,.string t,.int .i64 lo,.int .i64 hi] 34)) (t:=34);rw[World.size_alloc]at h;exact h)
  have hzL:wL.heap.size=w.heap.size+2:=by rw[←hwL];simp
  have HZL:=hide hzL
  have hzL2:w.heap.size+1<wL.heap.size:=by omega
  clear hwL hzL
  have HT:=hide (HH0.out.on hbL)
  have hi0:(0:Int)≤(m:Int):=by omega
  have hi1:(m:Int)<(x2.length:Int):=by omega
  (obtain⟨b1,o1,x1_0,x1_1,x1_2,x1_3,x1_4,A1_3,C1_3,A1_4,C1_4,hA1,hS1,hl1,hx1,hv1,g1_0,g1_1,g1_2,g1_3,g1_4,c1_0,c1_1,c1_2,c1_3,c1_4⟩:=TObject.at HR2.out m hm;subst hA1;have HV1:=hide (Dat.HoldVals.bel hbL hv1);have hh1:=hbL.box b1 hl1;have hw1:=Nat.lt_of_lt_of_le hl1 (Bel.size hbL);replace c1_0:=(hh1 _).trans c1_0;replace c1_1:=(hh1 _).trans c1_1;replace c1_2:=(hh1 _).trans c1_2;replace c1_3:=(hh1 _).trans c1_3;replace c1_4:=(hh1 _).trans c1_4;have HX1:=hide hx1;have GR1_3:=hide g1_3;have GR1_4:=hide g1_4;clear hh1 hv1 hx1 hS1 g1_3 g1_4)
  have hgd:x2.getD ((m:Int)).toNat nilObj=.mk x1_0 x1_1 x1_2 x1_3 x1_4:=by rw[Int.toNat_natCast,List.getD_eq_getElem?_getD,List.getElem?_eq_getElem hm,Option.getD_some];exact HX1.out
  have HGD:=hide hgd
  clear hgd
  have hkk:=HKK.out
  rw[HX1.out]at hkk
  replace hkk:x1_0+2=k:=hkk
  have hfo:=HSZ.out m hm
  rw[HX1.out]at hfo
  simp only[TObject.its,TObject.kys]at hfo
  obtain⟨hlb,hfb,kb_0,kb_1,kb_2,kb_3,kb_4,kb_5,kb_6,kb_7,kb_8,kb_9,kb_10,kb_11,kb_12⟩:=HT.out.box
  obtain⟨hlv,y0,y1,y2,y3,y4,y5⟩:=HVB.out
  go_region
  go_upto_region 4 with (fail)
  clear hlb hfb kb_0 kb_1 kb_2 kb_3 kb_4 kb_5 kb_6 kb_7 kb_8 kb_9 kb_10 kb_11 kb_12 hlv y0 y1 y2 y3 y4 y5
  refine wp_named2 fun wr hwr=>?_
  have hbA:Bel wL wr:=by rw[←hwr];exact bl
  have OA:=hide (show OB wr wL.heap.size (.int .i64 x1_0) (.int .i64 x1_1) (.int .i64 x1_2) (.slice A1_3 x1_3.length C1_3) (.slice A1_4 x1_4.length C1_4)from by rw[←hwr];exact (OB.new _ _).on bl)
  have TA:=hide (HT.out.on hbA)
  have VA:=hide (HVB.out.on hbA)
  have ZA:=hide (HZ.out.on hbA)
  have hzo:wL.heap.size<wr.heap.size:=OA.out.1
  clear hwr
  have hlv2:∀b,Value.ownBlock (.slice (some ⟨b1,o1,none⟩) x2.length c2)=some b→b<w.heap.size:=fun b hb=>(HH0.out.ents.own ⟨42,5,.slice (some ⟨b1,o1,none⟩) x2.length c2,L,x2.map TObject.D⟩ (by simp)).lt b (Or.inl hb)
  have hwq:=HH0.out.box.1
  have HLV:=hide hlv2
  clear hlv2
  refine wp_region_factsV (m:=14) (p:=13) (fun j=>match j with  | _=>[]) (fun j vf wq=>match j with | 0=>((vf 0)=.pointer (some ⟨q,0,none⟩)) | 1=>((vf 1)=.pointer (some ⟨wL.heap.size,0,none⟩)) | 2=>((vf 2)=.int .i64 x1_0) | 3=>((vf 3)=.pointer (some ⟨wL.heap.size,1,none⟩)) | 4=>((vf 4)=.int .i64 x1_1) | 5=>(∃g:Nat,(vf 5)=.slice (some ⟨g,0,none⟩) 0 0∧OwnD wq 34 6 (.slice (some ⟨g,0,none⟩) 0 0) [] []∧wr.heap.size≤g) | 6=>((vf 6)=.pointer (some ⟨wL.heap.size,3,none⟩)) | 7=>((vf 7)=.slice A1_3 x1_3.length C1_3) | 8=>(∃(AI:Option Addr) (dI:Nat),(vf 8)=.slice AI (List.length x1_3) dI∧OwnD wq 34 6 (.slice AI (List.length x1_3) dI) [] (x1_3.map TValue.D)∧(∀q,Blk (.slice AI (List.length x1_3) dI) [] q→wr.heap.size≤q)) | 9=>(∃g:Nat,(vf 9)=.slice (some ⟨g,0,none⟩) 0 0∧OwnD wq 34 6 (.slice (some ⟨g,0,none⟩) 0 0) [] []∧wr.heap.size≤g) | 10=>((vf 10)=.pointer (some ⟨wL.heap.size,4,none⟩)) | 11=>((vf 11)=.slice A1_4 x1_4.length C1_4) | 12=>(∃(AJ:Option Addr) (dJ:Nat),(vf 12)=.slice AJ (List.length x1_4) dJ∧OwnD wq 34 6 (.slice AJ (List.length x1_4) dJ) [] (x1_4.map TValue.D)∧(∀q,Blk (.slice AJ (List.length x1_4) dJ) [] q→wr.heap.size≤q)) | 13=>((vf 13)=.agg #[.int .i64 k,.int .i64 (x2.length:Nat),.int .i64 0,.string ByteArray.empty,.int .i64 0,.int .i64 0]) | _=>True) (fun wa wb=>Bel wa wb) (fun wa wb=>KpN wr.heap.size wa wb) [5,8,9,12] (fun s u wq=>SepJ [5,8] [9,12] s u wq∧MkS N wq q v0 v1 (.slice (some ⟨b1,o1,none⟩) x2.length c2) v3 v4 v5 v6 v7 v8 v9 v10 v11 (.int .i64 mm) la lb L (x2.map TObject.D)∧VB wq w.heap.size k m i t lo hi∧OB wq wL.heap.size (.int .i64 x1_0) (.int .i64 x1_1) (.int .i64 x1_2) (.slice A1_3 x1_3.length C1_3) (.slice A1_4 x1_4.length C1_4)∧Z6 wq (w.heap.size+1)∧Bel wr wq) (fun wq=>(VB wq w.heap.size k m i t lo hi∧Z6 wq (w.heap.size+1))∧∃(wa:World) (M:List Nat),Bel wr wa∧M.Nodup∧(∀b,b∈M→wr.heap.size≤b)∧MadeP N wa q v0 v1 (.slice (some ⟨b1,o1,none⟩) x2.length c2) v3 v4 v5 v6 v7 v8 v9 v10 v11 (.int .i64 mm) (.int .i64 (nextM mm)) la lb L M (x2.map TObject.D) (newObj (x2.getD ((m:Int)).toNat nilObj) (nextM mm)).D (.agg #[.int .i64 k,.int .i64 (x2.length:Nat),.int .i64 0,.string ByteArray.empty,.int .i64 0,.int .i64 0]) (.returned (.agg #[.int .i64 k,.int .i64 (x2.length:Nat),.int .i64 0,.string ByteArray.empty,.int .i64 0,.int .i64 0])) wq) [(0,some 23),(1,some 24),(2,some 25),(3,some 26),(4,some 27),(5,some 28),(6,some 29),(7,some 30),(8,some 31),(9,some 32),(10,some 33),(11,some 34),(12,some 35),(13,some 36),(14,none)] rfl (by kernel_rfl) (by kernel_rfl) (by kernel_rfl) (by decide) ?hG ?hR ?hR2 ?hG0 ?hG1 rfl rfl ?hstep ?hp ?hlast
  case hG=>exact fun u=>⟨SepJ.none,TA.out.on bl,VA.out.on bl,OA.out.on bl,ZA.out.on bl,bl⟩
  case hG0=>exact fun i s u v wa wb hi hk hg=>⟨SepJ.skip hi hg.1 hk.size,hg.2.1.on hk,hg.2.2.1.on hk,hg.2.2.2.1.on hk,hg.2.2.2.2.1.on hk,hg.2.2.2.2.2.trans hk⟩
  case hG1=>exact fun wa wb hk hg=>by obtain⟨g1,wq,M,g2,g3,g4,g5⟩:=hg;exact⟨⟨g1.1.on hk,g1.2.on hk⟩,wq,M,g2,g3,g4,g5.on hk⟩
  case hR =>
   intro j vf wa wb hk hv
   match j,hv with
   | 0,hv=>exact hv
   | 1,hv=>exact hv
   | 2,hv=>exact hv
   | 3,hv=>exact hv
   | 4,hv=>exact hv
   | 5,hv=>exact (by obtain⟨g,e,h1,h2⟩:=hv;exact⟨g,e,h1.kpn (kpn_bel hk) (fun b hb=>hb.elim (fun h=>by injection h with h;show wr.heap.size≤b;rw[←h];exact h2) (fun h=>by cases h)),h2⟩)
   | 6,hv=>exact hv
   | 7,hv=>exact hv
   | 8,hv=>exact (by obtain⟨AI,dI,e,h1,h2⟩:=hv;exact⟨AI,dI,e,h1.kpn (kpn_bel hk) h2,h2⟩)
   | 9,hv=>exact (by obtain⟨g,e,h1,h2⟩:=hv;exact⟨g,e,h1.kpn (kpn_bel hk) (fun b hb=>hb.elim (fun h=>by injection h with h;show wr.heap.size≤b;rw[←h];exact h2) (fun h=>by cases h)),h2⟩)
   | 10,hv=>exact hv
   | 11,hv=>exact hv
   | 12,hv=>exact (by obtain⟨AJ,dJ,e,h1,h2⟩:=hv;exact⟨AJ,dJ,e,h1.kpn (kpn_bel hk) h2,h2⟩)
   | 13,hv=>exact hv
   | n+14,hv=>exact trivial
  case hR2 =>
   intro j vf wa wb hjp hk hv
   match j,hv with
   | 0,hv=>exact hv
   | 1,hv=>exact hv
   | 2,hv=>exact hv
   | 3,hv=>exact hv
   | 4,hv=>exact hv
   | 5,hv=>exact (by obtain⟨g,e,h1,h2⟩:=hv;exact⟨g,e,h1.kpn hk (fun b hb=>hb.elim (fun h=>by injection h with h;show wr.heap.size≤b;rw[←h];exact h2) (fun h=>by cases h)),h2⟩)
   | 6,hv=>exact hv
   | 7,hv=>exact hv
   | 8,hv=>exact (by obtain⟨AI,dI,e,h1,h2⟩:=hv;exact⟨AI,dI,e,h1.kpn hk h2,h2⟩)
   | 9,hv=>exact (by obtain⟨g,e,h1,h2⟩:=hv;exact⟨g,e,h1.kpn hk (fun b hb=>hb.elim (fun h=>by injection h with h;show wr.heap.size≤b;rw[←h];exact h2) (fun h=>by cases h)),h2⟩)
   | 10,hv=>exact hv
   | 11,hv=>exact hv
   | 12,hv=>exact (by obtain⟨AJ,dJ,e,h1,h2⟩:=hv;exact⟨AJ,dJ,e,h1.kpn hk h2,h2⟩)
   | 13,hv=>exact absurd rfl hjp
   | n+14,hv=>exact trivial
  case hstep =>
   simp only[putP,Act.put,List.setIfInBounds_toArray,List.set_cons_zero,List.set_cons_succ,List.getElem_toArray,List.getElem_cons_zero,List.getElem_cons_succ]
   refine (stepsV_cons (i:=0) (i2:=1) (o:=_) rfl ?s0 (stepsV_cons (i:=1) (i2:=2) (o:=_) rfl ?s1 (stepsV_cons (i:=2) (i2:=3) (o:=_) rfl ?s2 (stepsV_cons (i:=3) (i2:=4) (o:=_) rfl ?s3 (stepsV_cons (i:=4) (i2:=5) (o:=_) rfl ?s4 (stepsV_cons (i:=5) (i2:=6) (o:=_) rfl ?s5 (stepsV_cons (i:=6) (i2:=7) (o:=_) rfl ?s6 (stepsV_cons (i:=7) (i2:=8) (o:=_) rfl ?s7 (stepsV_cons (i:=8) (i2:=9) (o:=_) rfl ?s8 (stepsV_cons (i:=9) (i2:=10) (o:=_) rfl ?s9 (stepsV_cons (i:=10) (i2:=11) (o:=_) rfl ?s10 (stepsV_cons (i:=11) (i2:=12) (o:=_) rfl ?s11 (stepsV_cons (i:=12) (i2:=13) (o:=_) rfl ?s12 (stepsV_skip (p:=13) (p2:=14) (stepsV_nil (by decide))))))))))))))))
   case s0 =>
    exact rk110
   case s1 =>
    exact rk110
   case s3 =>
    exact rk110
   case s6 =>
    exact rk110
   case s10 =>
    exact rk110
   case s2 =>
    intro u wa hG hf K hK
    obtain⟨s0,hs0,gs,g0⟩:=or_ofV hG (by kernel_rfl)
    have e1:(u 1)=.pointer (some ⟨wL.heap.size,0,none⟩):=fact_ofU hf 1 (by kernel_rfl)
    clear hf
    clear hG
    simp only[Act.put,List.setIfInBounds_toArray,List.set_cons_zero,List.set_cons_succ,List.getElem_toArray,List.getElem_cons_zero,List.getElem_cons_succ]at hK ⊢
    rw[e1]at hK ⊢
    exact rk169
   case s4 =>
    intro u wa hG hf K hK
    obtain⟨s0,hs0,gs,g0⟩:=or_ofV hG (by kernel_rfl)
    have e3:(u 3)=.pointer (some ⟨wL.heap.size,1,none⟩):=fact_ofU hf 3 (by kernel_rfl)
    clear hf
    clear hG
    simp only[Act.put,List.setIfInBounds_toArray,List.set_cons_zero,List.set_cons_succ,List.getElem_toArray,List.getElem_cons_zero,List.getElem_cons_succ]at hK ⊢
    rw[e3]at hK ⊢
    exact rk169
   case s7 =>
    intro u wa hG hf K hK
    obtain⟨s0,hs0,gs,g0⟩:=or_ofV hG (by kernel_rfl)
    have e6:(u 6)=.pointer (some ⟨wL.heap.size,3,none⟩):=fact_ofU hf 6 (by kernel_rfl)
    clear hf
    clear hG
    simp only[Act.put,List.setIfInBounds_toArray,List.set_cons_zero,List.set_cons_succ,List.getElem_toArray,List.getElem_cons_zero,List.getElem_cons_succ]at hK ⊢
    rw[e6]at hK ⊢
    exact rk169
   case s11 =>
    intro u wa hG hf K hK
    obtain⟨s0,hs0,gs,g0⟩:=or_ofV hG (by kernel_rfl)
    have e10:(u 10)=.pointer (some ⟨wL.heap.size,4,none⟩):=fact_ofU hf 10 (by kernel_rfl)
    clear hf
    clear hG
    simp only[Act.put,List.setIfInBounds_toArray,List.set_cons_zero,List.set_cons_succ,List.getElem_toArray,List.getElem_cons_zero,List.getElem_cons_succ]at hK ⊢
    rw[e10]at hK ⊢
    exact rk169
   case s5 =>
    intro u wa hG hf K hK
    obtain⟨s0,hs0,gs,g0⟩:=or_ofV hG (by kernel_rfl)
    clear hf
    clear hG
    simp only[Act.put,List.setIfInBounds_toArray,List.set_cons_zero,List.set_cons_succ,List.getElem_toArray,List.getElem_cons_zero,List.getElem_cons_succ]at hK ⊢
    have hz9:=Bel.size g0.2.2.2.2
    have hbx:Bel wa (wa.alloc (.cells #[] 34)):=bl
    go_simp
    exact hK.out _ _ hbx ⟨wa.heap.size,rfl,OwnD.lit0 wa 34 6,hz9⟩ (fun _ s hs ha hg=>⟨SepJ.newA (by decide) hg.1 hbx.size (fun b hb=>by injection hb with hb;exact⟨by rw[←hb,World.size_alloc];exact Nat.lt_succ_self _,Or.inr (Nat.le_of_eq hb)⟩),hg.2.1.on hbx,hg.2.2.1.on hbx,hg.2.2.2.1.on hbx,hg.2.2.2.2.1.on hbx,hg.2.2.2.2.2.trans hbx⟩)
   case s9 =>
    intro u wa hG hf K hK
    obtain⟨s0,hs0,gs,g0⟩:=or_ofV hG (by kernel_rfl)
    clear hf
    clear hG
    simp only[Act.put,List.setIfInBounds_toArray,List.set_cons_zero,List.set_cons_succ,List.getElem_toArray,List.getElem_cons_zero,List.getElem_cons_succ]at hK ⊢
    have hz9:=Bel.size g0.2.2.2.2
    have hbx:Bel wa (wa.alloc (.cells #[] 34)):=bl
    go_simp
    exact hK.out _ _ hbx ⟨wa.heap.size,rfl,OwnD.lit0 wa 34 6,hz9⟩ (fun _ s hs ha hg=>⟨SepJ.newC (by decide) hg.1 hbx.size (fun b hb=>by injection hb with hb;exact⟨by rw[←hb,World.size_alloc];exact Nat.lt_succ_self _,Or.inr (Nat.le_of_eq hb)⟩),hg.2.1.on hbx,hg.2.2.1.on hbx,hg.2.2.2.1.on hbx,hg.2.2.2.2.1.on hbx,hg.2.2.2.2.2.trans hbx⟩)
   case s8 =>
    intro u wa hG hf K hK
    obtain⟨s0,hs0,gs,g0⟩:=or_ofV hG (by kernel_rfl)
    have e5:∃g:Nat,(u 5)=.slice (some ⟨g,0,none⟩) 0 0∧OwnD wa 34 6 (.slice (some ⟨g,0,none⟩) 0 0) [] []∧wr.heap.size≤g:=fact_ofU hf 5 (by kernel_rfl)
    have e7:(u 7)=.slice A1_3 x1_3.length C1_3:=fact_ofU hf 7 (by kernel_rfl)
    clear hf
    clear hG
    simp only[Act.put,List.setIfInBounds_toArray,List.set_cons_zero,List.set_cons_succ,List.getElem_toArray,List.getElem_cons_zero,List.getElem_cons_succ]at hK ⊢
    obtain⟨g5,e5,hO5,hg5⟩:=e5
    rw[e5]at hK ⊢
    rw[e7]at hK ⊢
    have hbl9:=Bel.trans hbL (Bel.trans hbA g0.2.2.2.2)
    have hz9:=Bel.size g0.2.2.2.2
    obtain⟨nw,hsr⟩:=Row.src (val_flat x1_3) (Row.bel hbl9 GR1_3.out)
    rw[List.length_map]at hsr
    refine wp_append_lit (.tmp 28) (.tmp 30) 27 rfl 34 iv (.agg #[.int .i64 0,.int .i64 0,.int .i64 0,.string ByteArray.empty,.int .i64 0,.int .i64 0]) 6 56 Tryd.underlying27 hiv zv0 zv1 zv2 (by decide) (by decide) hO5 hsr C1_3 rfl rfl (fun h=>by cases h) (by omega) (by unfold maxLen;omega) (fun v9 w9 hO9 hb9 hw9=>?_)
    (try simp only[Act.put,List.setIfInBounds_toArray,List.set_cons_zero,List.set_cons_succ,List.getElem_toArray,List.getElem_cons_zero,List.getElem_cons_succ])
    obtain⟨AI,dI,L9,hvv,-⟩:=hO9.ownRow
    rw[List.length_map]at hvv
    subst hvv
    exact hK.out _ _ hb9 ⟨AI,dI,rfl,hO9,fun b hb=>hb.elim (fun hb=>(hw9 b hb).elim (fun e=>by rw[e];exact hg5) (fun e=>Nat.le_trans hz9 e)) (fun hb=>by cases hb)⟩ (fun _ s hs ha hg=>⟨SepJ.newA (by decide) hg.1 hb9.size (fun b hb=>⟨hO9.lt b (Or.inl hb),(hw9 b hb).elim (fun e=>Or.inl ⟨5,by simp,ha 5 (by kernel_rfl),by rw[e5,e];rfl⟩) Or.inr⟩),hg.2.1.on hb9,hg.2.2.1.on hb9,hg.2.2.2.1.on hb9,hg.2.2.2.2.1.on hb9,hg.2.2.2.2.2.trans hb9⟩)
   case s12 =>
    intro u wa hG hf K hK
    obtain⟨s0,hs0,gs,g0⟩:=or_ofV hG (by kernel_rfl)
    have e9:∃g:Nat,(u 9)=.slice (some ⟨g,0,none⟩) 0 0∧OwnD wa 34 6 (.slice (some ⟨g,0,none⟩) 0 0) [] []∧wr.heap.size≤g:=fact_ofU hf 9 (by kernel_rfl)
    have e11:(u 11)=.slice A1_4 x1_4.length C1_4:=fact_ofU hf 11 (by kernel_rfl)
    clear hf
    clear hG
    simp only[Act.put,List.setIfInBounds_toArray,List.set_cons_zero,List.set_cons_succ,List.getElem_toArray,List.getElem_cons_zero,List.getElem_cons_succ]at hK ⊢
    obtain⟨g5,e9,hO5,hg5⟩:=e9
    rw[e9]at hK ⊢
    rw[e11]at hK ⊢
    have hbl9:=Bel.trans hbL (Bel.trans hbA g0.2.2.2.2)
    have hz9:=Bel.size g0.2.2.2.2
    obtain⟨nw,hsr⟩:=Row.src (val_flat x1_4) (Row.bel hbl9 GR1_4.out)
    rw[List.length_map]at hsr
    refine wp_append_lit (.tmp 32) (.tmp 34) 27 rfl 34 iv (.agg #[.int .i64 0,.int .i64 0,.int .i64 0,.string ByteArray.empty,.int .i64 0,.int .i64 0]) 6 56 Tryd.underlying27 hiv zv0 zv1 zv2 (by decide) (by decide) hO5 hsr C1_4 rfl rfl (fun h=>by cases h) (by omega) (by unfold maxLen;omega) (fun v9 w9 hO9 hb9 hw9=>?_)
    (try simp only[Act.put,List.setIfInBounds_toArray,List.set_cons_zero,List.set_cons_succ,List.getElem_toArray,List.getElem_cons_zero,List.getElem_cons_succ])
    obtain⟨AJ,dJ,L9,hvv,-⟩:=hO9.ownRow
    rw[List.length_map]at hvv
    subst hvv
    exact hK.out _ _ hb9 ⟨AJ,dJ,rfl,hO9,fun b hb=>hb.elim (fun hb=>(hw9 b hb).elim (fun e=>by rw[e];exact hg5) (fun e=>Nat.le_trans hz9 e)) (fun hb=>by cases hb)⟩ (fun _ s hs ha hg=>⟨SepJ.newC (by decide) hg.1 hb9.size (fun b hb=>⟨hO9.lt b (Or.inl hb),(hw9 b hb).elim (fun e=>Or.inl ⟨9,by simp,ha 9 (by kernel_rfl),by rw[e9,e];rfl⟩) Or.inr⟩),hg.2.1.on hb9,hg.2.2.1.on hb9,hg.2.2.2.1.on hb9,hg.2.2.2.2.1.on hb9,hg.2.2.2.2.2.trans hb9⟩)
  case hp =>
   simp only[putP,Act.put,List.setIfInBounds_toArray,List.set_cons_zero,List.set_cons_succ,List.getElem_toArray,List.getElem_cons_zero,List.getElem_cons_succ]
   intro u wa hG hf K hK
   have e0:(u 0)=.pointer (some ⟨q,0,none⟩):=fact_ofU hf 0 (by kernel_rfl)
   have e2:(u 2)=.int .i64 x1_0:=fact_ofU hf 2 (by kernel_rfl)
   have e4:(u 4)=.int .i64 x1_1:=fact_ofU hf 4 (by kernel_rfl)
   have e8:∃(AI:Option Addr) (dI:Nat),(u 8)=.slice AI (List.length x1_3) dI∧OwnD wa 34 6 (.slice AI (List.length x1_3) dI) [] (x1_3.map TValue.D)∧(∀q,Blk (.slice AI (List.length x1_3) dI) [] q→wr.heap.size≤q):=fact_ofU hf 8 (by kernel_rfl)
   have e12:∃(AJ:Option Addr) (dJ:Nat),(u 12)=.slice AJ (List.length x1_4) dJ∧OwnD wa 34 6 (.slice AJ (List.length x1_4) dJ) [] (x1_4.map TValue.D)∧(∀q,Blk (.slice AJ (List.length x1_4) dJ) [] q→wr.heap.size≤q):=fact_ofU hf 12 (by kernel_rfl)
   clear hf
   rw[e0]at hK ⊢
   rw[e2]at hK ⊢
   rw[e4]at hK ⊢
   obtain⟨AI,dI,e8,hI,hIl⟩:=e8
   rw[e8]at hK ⊢
   obtain⟨AJ,dJ,e12,hJ,hJl0⟩:=e12
   rw[e12]at hK ⊢
   obtain⟨s0,hs0,gs,hG⟩:=hG
   have hsep:=gs.2 8 (by simp) 12 (by simp) (hs0 8 (by kernel_rfl)) (hs0 12 (by kernel_rfl))
   rw[e8,e12]at hsep
   have hJl:∀q,Blk (.slice AJ (List.length x1_4) dJ) [] q→wr.heap.size≤q∧¬Blk (.slice AI (List.length x1_3) dI) [] q:=fun b hb=>⟨hJl0 b hb,fun hc=>hb.elim (fun h1=>hc.elim (fun h2=>hsep b h2 h1) (fun h2=>by cases h2)) (fun h1=>by cases h1)⟩
   obtain⟨AI2,cI2,LI,eI,rI,nI2,mI⟩:=hI.ownRow
   obtain⟨AJ2,cJ2,LJ,eJ,rJ,nJ2,mJ⟩:=hJ.ownRow
   simp only[List.length_map]at eI eJ
   injection eI with eI1 eI2 eI3
   injection eJ with eJ1 eJ2 eJ3
   subst eI1 eI3 eJ1 eJ3
   have hov:=TObject.own_mk g1_0 g1_1 (inI_wrap (mm+1)) rI rJ
   have hnd:(LI++LJ).Nodup:=nodup_app nI2 nJ2 (fun a ha hb=>(hJl a (mJ a hb)).2 (mI a ha))
   have hlm:∀a,a∈LI++LJ→wr.heap.size≤a:=fun a ha=>(List.mem_append.1 ha).elim (fun q=>hIl a (mI a q)) (fun q=>(hJl a (mJ a q)).1)
   have hMM:∀b,b∈LI++LJ→N≤b∧b≠q∧∀f,f∈la++⟨42,5,.slice (some ⟨b1,o1,none⟩) x2.length c2,L,x2.map TObject.D⟩ :: lb→¬Blk f.v f.L b:=fun b hb=>⟨by have:=hlm b hb;omega,by have:=hlm b hb;omega,fun f hf hc=>by have h1:=hlm b hb;have h2:=(TA.out.ents.own f hf).lt b hc;omega⟩
   have hz9:=Bel.size hG.2.2.2.2
   have hzb:=Bel.size hbA
   go_simp
   go_at_call 32
   refine (addStructure_any x1_0 mm (nextM mm) rfl (by omega) N wa q v0 v1 (.slice (some ⟨b1,o1,none⟩) x2.length c2) v3 v4 v5 v6 v7 v8 v9 v10 v11 la lb L (LI++LJ) (x2.map TObject.D) (TObject.mk x1_0 x1_1 (nextM mm) x1_3 x1_4).D _ _ _ _ _ _ _ hG.1 hov hnd hMM (by rw[List.length_map];omega) (by omega)).mono ?_
   intro e w2 hP
   rw[List.length_map,hkk]at hP
   exact rk123
  case hlast =>
   simp only[putP,Act.put,List.setIfInBounds_toArray,List.set_cons_zero,List.set_cons_succ,List.getElem_toArray,List.getElem_cons_zero,List.getElem_cons_succ]
   intro u wa hG hf K hK
   have e13:(u 13)=.agg #[.int .i64 k,.int .i64 (x2.length:Nat),.int .i64 0,.string ByteArray.empty,.int .i64 0,.int .i64 0]:=hf 13 (by decide)
   clear hf
   rw[e13]at hK ⊢
   obtain⟨⟨hvb,hzz⟩,wc,M,hbc,hnd,hlm,hP⟩:=hG
   have ZZ:=hide hzz
   have HP:=hide hP
   have hzc:=hbc.size
   have hzA:=hbA.size
   have hfa:∀k,k<w.heap.size→k≠q→wc.heap[k]?=w.heap[k]?:=fun k hk _=>(Below.block hbc k (by omega)).trans ((Below.block hbA k (by omega)).trans (Below.block hbL k hk))
   have HFA:=hide hfa
   have HFO:=hide (show wc.os=w.os∧wc.tape=w.tape∧wc.output=w.output from⟨hbc.os.trans (hbA.os.trans hbL.os),hbc.tape.trans (hbA.tape.trans hbL.tape),hbc.output.trans (hbA.output.trans hbL.output)⟩)
   have HLM:=hide hlm
   have HND:=hide hnd
   clear hP hvb hfa hlm hnd
   obtain⟨cz0,cz1,cz2,cz3,cz4,cz5,cz6,cz7⟩:=hzz
   go_simp
   refine hK.out undef _ ?_
   clear hK
   go_wp2_with (fail)
   refine gen_ret6k ZZ.out fun w4 d0 d1 d2 d3 d4 d5 hB4=>?_
   exact bodyPost_ret (v:=.agg #[.int .i64 k,.int .i64 (x2.length:Nat),.int .i64 0,.string ByteArray.empty,.int .i64 0,.int .i64 0]) (by simp[results,Tryd.results14,d0,d1,d2,d3,d4,d5,go_sem];try rfl) rfl ⟨M,HND.out,fun b hb=>by have:=HLM.out b hb;omega,MadeP.fin HH0.out (fun hb=>by have:=HLM.out _ hb;omega) (by omega) HFO.out HFA.out (by omega) (by omega) HP.out (Bel.refl _) hB4⟩
end Go.Proofs.YtoikhhnmbbbjjaaDoor
