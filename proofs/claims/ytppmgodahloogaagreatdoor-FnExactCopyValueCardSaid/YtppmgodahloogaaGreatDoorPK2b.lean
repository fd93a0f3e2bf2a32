/- Seven lists that share no block read as a store. -/
import Derived.Test.YtppmgodahloogaaGreatDoorPNb
import Derived.Test.YtppmgodahloogaaGreatDoorPMStore
import Derived.Test.YtppmgodahloogaaGreatDoorPK9
import Derived.Test.YtppmgodahloogaaGreatDoorPS9
import Derived.Test.YtppmgodahloogaaGreatDoorPBox
import Derived.Deep.MidRow
import Derived.Test.YtppmgodahloogaaGreatDoorPDr
import Derived.Test.YtppmgodahloogaaGreatDoorPOw
namespace Go.Proofs.YtppmgodahloogaaGreatDoor
set_option linter.unusedVariables false
set_option linter.unusedSimpArgs false
set_option maxRecDepth 100000
open Go.RowKit
theorem ents_rows {N:Nat} {w:World}:∀(l:List Ent),Ents N w l→∃Ms:List (List Nat),Ms.length=l.length∧(∀(i:Nat) (e:Ent),l[i]?=some e→∃A c M,Ms[i]?=some M∧e.v=.slice A e.ds.length c∧OwnRow w M e.k A c e.ds)∧Ms.flatten.Nodup∧∀b,b∈Ms.flatten→∃e∈l,Blk e.v e.L b
 | [],_=>⟨[],rfl,fun i e h=>by simp at h,List.nodup_nil,fun b hb=>by simp at hb⟩
 | x :: r,h=>by
  have hp:=List.pairwise_cons.1 h.sep
  obtain⟨Ms,h1,h2,h3,h4⟩:=ents_rows r ⟨fun e he=>h.own e (List.mem_cons_of_mem _ he),fun e he=>h.low e (List.mem_cons_of_mem _ he),hp.2⟩
  obtain⟨A,c,M,e1,e2,e3,e4⟩:=OwnD.ownRow (h.own x (List.mem_cons_self ..))
  refine⟨M :: Ms,by simp[h1],fun i e he=>?_,?_,fun b hb=>?_⟩
  ·
   cases i with
   | zero =>
    obtain rfl:x=e:=by simpa using he
    exact⟨A,c,M,rfl,e1,e2⟩
   | succ i=>exact h2 i e (by simpa using he)
  ·
   rw[List.flatten_cons]
   exact nodup_app e3 h3 (fun a ha hb=>by obtain⟨e,he,hq⟩:=h4 a hb;exact hp.1 e he a (e4 a ha) hq)
  ·
   rw[List.flatten_cons]at hb
   rcases List.mem_append.1 hb with hb | hb
   ·
    exact⟨x,List.mem_cons_self ..,e4 b hb⟩
   ·
    obtain⟨e,he,hq⟩:=h4 b hb
    exact⟨e,List.mem_cons_of_mem _ he,hq⟩
theorem ents_own {N:Nat} {w:World} {x0:List ByteArray} {x1:List TRecordType} {x2:List TObject} {x3:List TValue} {x4:ByteArray} {x5:Int} {x6 x7:List ByteArray} {x8:List TActive} {x9:Bool} {x10 x11 x12:Int} {v0 v1 v2 v3 v6 v7 v8:Value} {L0 L1 L2 L3 L6 L7 L8:List Nat} (h:Ents N w [⟨9,1,v0,L0,x0.map (fun x=>[Dat.str x])⟩,⟨92,3,v1,L1,x1.map TRecordType.D⟩,⟨89,5,v2,L2,x2.map TObject.D⟩,⟨43,6,v3,L3,x3.map TValue.D⟩,⟨9,1,v6,L6,x6.map (fun x=>[Dat.str x])⟩,⟨9,1,v7,L7,x7.map (fun x=>[Dat.str x])⟩,⟨96,2,v8,L8,x8.map TActive.D⟩]) (h4:x4.size≤maxLen) (h5:InI x5) (h10:InI x10) (h11:InI x11) (h12:InI x12):∃L,Dat.OwnVals w L (TStore.mk x0 x1 x2 x3 x4 x5 x6 x7 x8 x9 x10 x11 x12).D [v0,v1,v2,v3,.string x4,.int .i64 x5,v6,v7,v8,.bool x9,.int .i64 x10,.int .i64 x11,.int .i64 x12]∧L.Nodup∧∀b,b∈L→N≤b:=by
 obtain⟨Ms,hlen,hrow,hnd,hin⟩:=ents_rows _ h
 obtain⟨M0,M1,M2,M3,M6,M7,M8,rfl⟩:∃M0 M1 M2 M3 M6 M7 M8,Ms=[M0,M1,M2,M3,M6,M7,M8]:=by match Ms,hlen with | [M0,M1,M2,M3,M6,M7,M8],_=>exact⟨_,_,_,_,_,_,_,rfl⟩
 obtain⟨A0,c0,M,hM,e0,r0⟩:=hrow 0 _ rfl
 obtain rfl:=Option.some.inj (show some M0=some M from hM)
 replace e0:v0=.slice A0 (x0.map (fun x=>[Dat.str x])).length c0:=e0
 rw[List.length_map]at e0
 subst e0
 obtain⟨A1,c1,M,hM,e1,r1⟩:=hrow 1 _ rfl
 obtain rfl:=Option.some.inj (show some M1=some M from hM)
 replace e1:v1=.slice A1 (x1.map TRecordType.D).length c1:=e1
 rw[List.length_map]at e1
 subst e1
 obtain⟨A2,c2,M,hM,e2,r2⟩:=hrow 2 _ rfl
 obtain rfl:=Option.some.inj (show some M2=some M from hM)
 replace e2:v2=.slice A2 (x2.map TObject.D).length c2:=e2
 rw[List.length_map]at e2
 subst e2
 obtain⟨A3,c3,M,hM,e3,r3⟩:=hrow 3 _ rfl
 obtain rfl:=Option.some.inj (show some M3=some M from hM)
 replace e3:v3=.slice A3 (x3.map TValue.D).length c3:=e3
 rw[List.length_map]at e3
 subst e3
 obtain⟨A6,c6,M,hM,e6,r6⟩:=hrow 4 _ rfl
 obtain rfl:=Option.some.inj (show some M6=some M from hM)
 replace e6:v6=.slice A6 (x6.map (fun x=>[Dat.str x])).length c6:=e6
 rw[List.length_map]at e6
 subst e6
 obtain⟨A7,c7,M,hM,e7,r7⟩:=hrow 5 _ rfl
 obtain rfl:=Option.some.inj (show some M7=some M from hM)
 replace e7:v7=.slice A7 (x7.map (fun x=>[Dat.str x])).length c7:=e7
 rw[List.length_map]at e7
 subst e7
 obtain⟨A8,c8,M,hM,e8,r8⟩:=hrow 6 _ rfl
 obtain rfl:=Option.some.inj (show some M8=some M from hM)
 replace e8:v8=.slice A8 (x8.map TActive.D).length c8:=e8
 rw[List.length_map]at e8
 subst e8
 have hfl:[M0,M1,M2,M3,M6,M7,M8].flatten=M0++(M1++(M2++(M3++(M6++(M7++M8))))):=by simp
 rw[hfl]at hnd hin
 exact⟨_,TStore.own_mk r0 r1 r2 r3 h4 h5 r6 r7 r8 h10 h11 h12,hnd,fun b hb=>by obtain⟨e,he,hq⟩:=hin b hb;exact h.low e he b hq⟩
end Go.Proofs.YtppmgodahloogaaGreatDoor
namespace Go.Proofs.YtppmgodahloogaaGreatDoor
set_option linter.unusedVariables false
set_option linter.unusedSimpArgs false
set_option maxRecDepth 100000
open Go.RowKit
def copM (x12 k:Int):Int:=if isCop k=true then nextM x12 else x12
def copO (x2:List TObject) (x12 k n:Int):List TObject:=if isCop k=true then x2++[newObj (x2.getD n.toNat nilObj) (nextM x12)] else x2
def copVV (x2:List TObject) (v:VVal):VVal:=if isCop v.k=true then⟨v.k,x2.length,0,ByteArray.empty,0,0⟩ else v
def tvOf (v:VVal):TValue:=.mk v.k v.n v.i v.t v.lo v.hi
theorem copS_eq {x0:List ByteArray} {x1:List TRecordType} {x2:List TObject} {x3:List TValue} {x4:ByteArray} {x5:Int} {x6 x7:List ByteArray} {x8:List TActive} {x9:Bool} {x10 x11 x12:Int} (k n i:Int) (t:ByteArray) (lo hi:Int):copS (TStore.mk x0 x1 x2 x3 x4 x5 x6 x7 x8 x9 x10 x11 x12) (tvOf ⟨k,n,i,t,lo,hi⟩)=.mk x0 x1 (copO x2 x12 k n) x3 x4 x5 x6 x7 x8 x9 x10 x11 (copM x12 k):=by
 unfold copO copM
 show copS (TStore.mk x0 x1 x2 x3 x4 x5 x6 x7 x8 x9 x10 x11 x12) (.mk k n i t lo hi)=_
 simp only[copS]
 by_cases hc:isCop k=true
 ·
  rw[if_pos hc,if_pos hc,if_pos hc]
 ·
  rw[if_neg hc,if_neg hc,if_neg hc]
theorem copV_eq {x0:List ByteArray} {x1:List TRecordType} {x2:List TObject} {x3:List TValue} {x4:ByteArray} {x5:Int} {x6 x7:List ByteArray} {x8:List TActive} {x9:Bool} {x10 x11 x12:Int} (k n i:Int) (t:ByteArray) (lo hi:Int):(copV (TStore.mk x0 x1 x2 x3 x4 x5 x6 x7 x8 x9 x10 x11 x12) (tvOf ⟨k,n,i,t,lo,hi⟩)).v=copVV x2 ⟨k,n,i,t,lo,hi⟩:=by
 unfold copVV
 show (copV (TStore.mk x0 x1 x2 x3 x4 x5 x6 x7 x8 x9 x10 x11 x12) (.mk k n i t lo hi)).v=_
 simp only[copV]
 by_cases hc:isCop k=true
 ·
  rw[if_pos hc,if_pos hc]
  rfl
 ·
  rw[if_neg hc,if_neg hc]
  rfl
theorem copM_ok {x12 k:Int} (h:InI x12):InI (copM x12 k):=by
 unfold copM nextM
 split
 ·
  exact inI_wrap _
 ·
  exact h
theorem dataB_obj {s:TStore} {k n i:Int} {t:ByteArray} {lo hi:Int} (h:dataB s ⟨k,n,i,t,lo,hi⟩=true) (hc:isCop k=true):∃m:Nat,n=(m:Int)∧∃h:m<s.objects.length,s.objects[m].kind+2=k:=by
 unfold isCop at hc
 simp only[Bool.and_eq_true,decide_eq_true_eq]at hc
 unfold dataB inB at h
 simp only[Bool.and_eq_true]at h
 obtain⟨-,hw,ho⟩:=h
 have hk2:kindI k=k - 2:=by
  unfold kindI
  rcases (show k=4∨k=5∨k=6∨k=7 by omega)with rfl | rfl | rfl | rfl <;> decide
 have hn:0≤n:=by
  unfold wellB at hw
  simp only at hw
  rw[if_neg (by omega),if_neg (by omega),if_neg (by omega),if_neg (by omega),if_neg (by omega),if_neg (by omega),if_neg (by omega),if_pos (by omega)]at hw
  simp only[Bool.and_eq_true,decide_eq_true_eq]at hw
  exact hw.2
 rw[if_pos (by simp only[hk2];omega)]at ho
 unfold objInB at ho
 simp only[hk2]at ho
 cases hq:s.objects[n.toNat]? with
 | none=>rw[hq]at ho;cases ho
 | some o =>
  rw[hq]at ho
  simp only[Bool.and_eq_true,decide_eq_true_eq]at ho
  obtain⟨hlt,he⟩:=List.getElem?_eq_some_iff.1 hq
  exact⟨n.toNat,by omega,hlt,by rw[he];omega⟩
theorem CopP.out {N:Nat} {w w':World} {q:Nat} {v0 v1 v2 v3 v4 v5 v6 v7 v8 v9 v10 v11:Value} {mm:Int} {la lb:List Ent} {L:List Nat} {x2:List TObject} {k n i:Int} {t:ByteArray} {lo hi:Int} {e:Ending} (h:CopP N w q v0 v1 v2 v3 v4 v5 v6 v7 v8 v9 v10 v11 mm la lb L x2 k n i t lo hi e w') (h0:MkS N w q v0 v1 v2 v3 v4 v5 v6 v7 v8 v9 v10 v11 (.int .i64 mm) la lb L (x2.map TObject.D)) :
  ∃(y:Value) (L':List Nat),e=.returned (copVV x2 ⟨k,n,i,t,lo,hi⟩).val∧MkS N w' q v0 v1 y v3 v4 v5 v6 v7 v8 v9 v10 v11 (.int .i64 (copM mm k)) la lb L' ((copO x2 mm k n).map TObject.D)∧OffS (fun b=>b≠q∧v2.ownBlock≠some b) w w':=by
 unfold CopP at h
 unfold copVV copM copO
 split at h
 ·
  rename_i hc
  obtain⟨M,hn,hM,y,he,hk,hf,hy,hs⟩:=h
  refine⟨y,L++M,?_,?_,⟨hf.1,hf.2.1,hf.2.2.1,hf.2.2.2,fun b hb hl=>hs b hl hb.1 hb.2⟩⟩
  ·
   rw[if_pos hc];exact he
  ·
   rw[if_pos hc,if_pos hc,List.map_append];exact hk
 ·
  rename_i hc
  obtain⟨he,hb⟩:=h
  refine⟨v2,L,?_,?_,⟨hb.os,hb.tape,hb.output,hb.size,fun b _ hl=>Below.block hb b hl⟩⟩
  ·
   rw[if_neg hc];exact he
  ·
   rw[if_neg hc,if_neg hc];exact h0.on hb
def CpyP (w:World) (s:TStore) (v:VVal) (e:Ending) (w':World):Prop :=
 ∃(us:List Value) (L:List Nat),e=.returned (.tuple #[.agg us.toArray,(copW s (tvOf v)).v.val,.bool (copOk s (tvOf v))])∧Dat.OwnVals w' L (copT s (tvOf v)).D us∧L.Nodup∧(∀b,b∈L→w.heap.size≤b)∧Bel w w'
abbrev CpyC (f:FuncId):Prop:=∀(s:TStore) (v:VVal) (S:Nat→Prop) (w:World) (vs:List Value),Sp w→Dat.HoldVals w S s.D vs→v.Ok→Dat.wtL s.D≤1048576→Calls Tryz.prog f #[.agg vs.toArray,v.val] w (CpyP w s v)
theorem copOk_eq {s:TStore} {v:VVal}:copOk s (tvOf v)=(validB s&&dataB s v):=rfl
theorem nilSt_own (w:World):Dat.OwnVals w ([]++([]++([]++([]++([]++([]++[])))))) nilSt.D [.slice none 0 0,.slice none 0 0,.slice none 0 0,.slice none 0 0,.string ByteArray.empty,.int .i64 0,.slice none 0 0,.slice none 0 0,.slice none 0 0,.bool false,.int .i64 0,.int .i64 0,.int .i64 0]:=by
 have z:OwnRow w [] 1 none 0 []:=OwnRow.nil w 1 none 0 (Nat.zero_le _)
 have i0:InI 0:=by unfold InI;omega
 exact TStore.own_mk (x0:=[]) (x1:=[]) (x2:=[]) (x3:=[]) (x4:=ByteArray.empty) (x5:=0) (x6:=[]) (x7:=[]) (x8:=[]) (x9:=false) (x10:=0) (x11:=0) (x12:=0) z (OwnRow.nil w 3 none 0 (Nat.zero_le _)) (OwnRow.nil w 5 none 0 (Nat.zero_le _)) (OwnRow.nil w 6 none 0 (Nat.zero_le _)) (by show ByteArray.empty.size≤maxLen;exact Nat.zero_le _) i0 z z (OwnRow.nil w 2 none 0 (Nat.zero_le _)) i0 i0 i0
theorem cpy_fail {w w':World} {s:TStore} {v:VVal} (h:copOk s (tvOf v)=false) (hb:Bel w w'):CpyP w s v (.returned (.tuple #[.agg #[.slice none 0 0,.slice none 0 0,.slice none 0 0,.slice none 0 0,.string ByteArray.empty,.int .i64 0,.slice none 0 0,.slice none 0 0,.slice none 0 0,.bool false,.int .i64 0,.int .i64 0,.int .i64 0],.agg #[.int .i64 0,.int .i64 0,.int .i64 0,.string ByteArray.empty,.int .i64 0,.int .i64 0],.bool false])) w':=by
 refine⟨_,_,?_,by unfold copT;rw[if_neg (by rw[h];exact Bool.false_ne_true)];exact nilSt_own w',by simp,fun b hb=>by simp at hb,hb⟩
 rw[h]
 unfold copW
 rw[if_neg (by rw[h];exact Bool.false_ne_true)]
 rfl
theorem setCells_block {b b':Nat} (hn:b'≠b):∀(vs:List Value) (o:Nat) (w:World),(w.setCells b' o vs).heap[b]?=w.heap[b]?
 | [],o,w=>rfl
 | v :: r,o,w=>(setCells_block hn r (o+1) _).trans (set_block o v hn)
theorem ex_named {Q:Exit→Act→World→Prop} {ex:Exit} {a:Act} {W:World} (h:∀wz,W=wz→Q ex a wz):Q ex a W:=h W rfl
theorem put19 {w6 w7:World} {c z:Nat} {v0 v1 v2 v3 v4 v5 v6 v7 v8 v9 v10 v11 v12 u0 u1 u2 u3 u4 u5 u6 u7 u8 u9 u10 u11 u12 x0 x1 x2 x3 x4 x5:Value} (h:SB w6 c v0 v1 v2 v3 v4 v5 v6 v7 v8 v9 v10 v11 v12) (hz:Z6 w6 z) (hn:z≠c) (hw:(((((((((((((((((((w6.setCell ⟨c,0,none⟩ u0).setCell ⟨c,1,none⟩ u1).setCell ⟨c,2,none⟩ u2).setCell ⟨c,3,none⟩ u3).setCell ⟨c,4,none⟩ u4).setCell ⟨c,5,none⟩ u5).setCell ⟨c,6,none⟩ u6).setCell ⟨c,7,none⟩ u7).setCell ⟨c,8,none⟩ u8).setCell ⟨c,9,none⟩ u9).setCell ⟨c,10,none⟩ u10).setCell ⟨c,11,none⟩ u11).setCell ⟨c,12,none⟩ u12).setCell ⟨z,0,none⟩ x0).setCell ⟨z,1,none⟩ x1).setCell ⟨z,2,none⟩ x2).setCell ⟨z,3,none⟩ x3).setCell ⟨z,4,none⟩ x4).setCell ⟨z,5,none⟩ x5).drew=w7) :
  SB w7 c u0 u1 u2 u3 u4 u5 u6 u7 u8 u9 u10 u11 u12∧(w7.cell? ⟨z,0,none⟩=some x0∧w7.cell? ⟨z,1,none⟩=some x1∧w7.cell? ⟨z,2,none⟩=some x2∧w7.cell? ⟨z,3,none⟩=some x3∧w7.cell? ⟨z,4,none⟩=some x4∧w7.cell? ⟨z,5,none⟩=some x5)∧OffS (fun b=>b≠c∧b≠z) w6 w7:=by
 subst hw
 have hbl:Bel (((((((((((((((((((w6.setCell ⟨c,0,none⟩ u0).setCell ⟨c,1,none⟩ u1).setCell ⟨c,2,none⟩ u2).setCell ⟨c,3,none⟩ u3).setCell ⟨c,4,none⟩ u4).setCell ⟨c,5,none⟩ u5).setCell ⟨c,6,none⟩ u6).setCell ⟨c,7,none⟩ u7).setCell ⟨c,8,none⟩ u8).setCell ⟨c,9,none⟩ u9).setCell ⟨c,10,none⟩ u10).setCell ⟨c,11,none⟩ u11).setCell ⟨c,12,none⟩ u12).setCell ⟨z,0,none⟩ x0).setCell ⟨z,1,none⟩ x1).setCell ⟨z,2,none⟩ x2).setCell ⟨z,3,none⟩ x3).setCell ⟨z,4,none⟩ x4).setCell ⟨z,5,none⟩ x5) (((((((((((((((((((w6.setCell ⟨c,0,none⟩ u0).setCell ⟨c,1,none⟩ u1).setCell ⟨c,2,none⟩ u2).setCell ⟨c,3,none⟩ u3).setCell ⟨c,4,none⟩ u4).setCell ⟨c,5,none⟩ u5).setCell ⟨c,6,none⟩ u6).setCell ⟨c,7,none⟩ u7).setCell ⟨c,8,none⟩ u8).setCell ⟨c,9,none⟩ u9).setCell ⟨c,10,none⟩ u10).setCell ⟨c,11,none⟩ u11).setCell ⟨c,12,none⟩ u12).setCell ⟨z,0,none⟩ x0).setCell ⟨z,1,none⟩ x1).setCell ⟨z,2,none⟩ x2).setCell ⟨z,3,none⟩ x3).setCell ⟨z,4,none⟩ x4).setCell ⟨z,5,none⟩ x5).drew:=bl
 have hZ:Z6 (((((((((((((w6.setCell ⟨c,0,none⟩ u0).setCell ⟨c,1,none⟩ u1).setCell ⟨c,2,none⟩ u2).setCell ⟨c,3,none⟩ u3).setCell ⟨c,4,none⟩ u4).setCell ⟨c,5,none⟩ u5).setCell ⟨c,6,none⟩ u6).setCell ⟨c,7,none⟩ u7).setCell ⟨c,8,none⟩ u8).setCell ⟨c,9,none⟩ u9).setCell ⟨c,10,none⟩ u10).setCell ⟨c,11,none⟩ u11).setCell ⟨c,12,none⟩ u12) z:=by
  have hB:ButB c w6 (((((((((((((w6.setCell ⟨c,0,none⟩ u0).setCell ⟨c,1,none⟩ u1).setCell ⟨c,2,none⟩ u2).setCell ⟨c,3,none⟩ u3).setCell ⟨c,4,none⟩ u4).setCell ⟨c,5,none⟩ u5).setCell ⟨c,6,none⟩ u6).setCell ⟨c,7,none⟩ u7).setCell ⟨c,8,none⟩ u8).setCell ⟨c,9,none⟩ u9).setCell ⟨c,10,none⟩ u10).setCell ⟨c,11,none⟩ u11).setCell ⟨c,12,none⟩ u12):=(((((((((((((ButB.set ⟨rfl,rfl,rfl,rfl,fun _ _=>rfl⟩ 0 u0).set 1 u1).set 2 u2).set 3 u3).set 4 u4).set 5 u5).set 6 u6).set 7 u7).set 8 u8).set 9 u9).set 10 u10).set 11 u11).set 12 u12)
  have hs:=hB.size
  exact hz.block (by omega) (hB.block z hn)
 obtain⟨d0,d1,d2,d3,d4,d5⟩:=hZ.put x0 x1 x2 x3 x4 x5
 unfold put6 at d0 d1 d2 d3 d4 d5
 have hlt:z<((((((((((((((((((((w6.setCell ⟨c,0,none⟩ u0).setCell ⟨c,1,none⟩ u1).setCell ⟨c,2,none⟩ u2).setCell ⟨c,3,none⟩ u3).setCell ⟨c,4,none⟩ u4).setCell ⟨c,5,none⟩ u5).setCell ⟨c,6,none⟩ u6).setCell ⟨c,7,none⟩ u7).setCell ⟨c,8,none⟩ u8).setCell ⟨c,9,none⟩ u9).setCell ⟨c,10,none⟩ u10).setCell ⟨c,11,none⟩ u11).setCell ⟨c,12,none⟩ u12).setCell ⟨z,0,none⟩ x0).setCell ⟨z,1,none⟩ x1).setCell ⟨z,2,none⟩ x2).setCell ⟨z,3,none⟩ x3).setCell ⟨z,4,none⟩ x4).setCell ⟨z,5,none⟩ x5)).heap.size:=by simpa using hz.2.2.2.2.2.2.2
 refine⟨SB.on (((((((((((((((((((h.put0 u0).put1 u1).put2 u2).put3 u3).put4 u4).put5 u5).put6 u6).put7 u7).put8 u8).put9 u9).put10 u10).put11 u11).put12 u12).far 0 x0 hn).far 1 x1 hn).far 2 x2 hn).far 3 x3 hn).far 4 x4 hn).far 5 x5 hn) hbl,⟨(hbl.box z hlt 0).trans d0,(hbl.box z hlt 1).trans d1,(hbl.box z hlt 2).trans d2,(hbl.box z hlt 3).trans d3,(hbl.box z hlt 4).trans d4,(hbl.box z hlt 5).trans d5⟩,OffS.bel (OffS.set (OffS.set (OffS.set (OffS.set (OffS.set (OffS.set (OffS.set (OffS.set (OffS.set (OffS.set (OffS.set (OffS.set (OffS.set (OffS.set (OffS.set (OffS.set (OffS.set (OffS.set (OffS.set (OffS.refl (fun b=>b≠c∧b≠z) w6) (fun q=>q.1 rfl) u0) (fun q=>q.1 rfl) u1) (fun q=>q.1 rfl) u2) (fun q=>q.1 rfl) u3) (fun q=>q.1 rfl) u4) (fun q=>q.1 rfl) u5) (fun q=>q.1 rfl) u6) (fun q=>q.1 rfl) u7) (fun q=>q.1 rfl) u8) (fun q=>q.1 rfl) u9) (fun q=>q.1 rfl) u10) (fun q=>q.1 rfl) u11) (fun q=>q.1 rfl) u12) (fun q=>q.2 rfl) x0) (fun q=>q.2 rfl) x1) (fun q=>q.2 rfl) x2) (fun q=>q.2 rfl) x3) (fun q=>q.2 rfl) x4) (fun q=>q.2 rfl) x5) hbl⟩
end Go.Proofs.YtppmgodahloogaaGreatDoor
namespace Go.Proofs.YtppmgodahloogaaGreatDoor
set_option linter.unusedVariables false
set_option linter.unusedSimpArgs false
set_option maxRecDepth 100000
open Go.RowKit
def PtrTo (v:Value) (g:Nat):Prop:=v=.pointer (some ⟨g,0,none⟩)
theorem PtrTo.inj {v:Value} {a b:Nat} (h:PtrTo v a) (k:PtrTo v b):a=b:=by
 unfold PtrTo at h k
 rw[h]at k
 simpa using k
def HasH (w:World) (v:Value) (t:TStore):Prop:=∃vs:List Value,v=.agg vs.toArray∧Dat.HoldVals w (fun _=>True) t.D vs
theorem HasH.on {w w':World} {v:Value} {t:TStore} (h:HasH w v t) (k:Bel w w'):HasH w' v t:=by
 obtain⟨vs,e,h⟩:=h
 exact⟨vs,e,h.bel k⟩
def HasT (N:Nat) (w:World) (v:Value) (t:TStore) (rv:Value) (ok:Bool) (F:Nat→Prop):Prop:=∃(us:List Value) (L:List Nat),v=.tuple #[.agg us.toArray,rv,.bool ok]∧Dat.OwnVals w L t.D us∧L.Nodup∧∀b,b∈L→N≤b∧¬F b
theorem HasT.on {N:Nat} {w w':World} {v:Value} {t:TStore} {rv:Value} {ok:Bool} {F F':Nat→Prop} (h:HasT N w v t rv ok F) (k:Bel w w') (hF:∀b,F' b→F b∨w.heap.size≤b):HasT N w' v t rv ok F':=by
 obtain⟨us,L,e,ho,hn,hL⟩:=h
 exact⟨us,L,e,ho.bel k,hn,fun b hb=>⟨(hL b hb).1,fun hf=>(hF b hf).elim (hL b hb).2 (fun q=>by have:=ho.lt _ _ _ b hb;omega)⟩⟩
theorem HasT.off {N:Nat} {w w':World} {v:Value} {t:TStore} {rv:Value} {ok:Bool} {F:Nat→Prop} {S:Nat→Prop} (h:HasT N w v t rv ok F) (k:OffS S w w') (hF:∀b,¬F b→S b):HasT N w' v t rv ok F:=by
 obtain⟨us,L,e,ho,hn,hL⟩:=h
 exact⟨us,L,e,ho.offS k (fun b hb=>hF b (hL b hb).2),hn,hL⟩
def BoxZ (N:Nat) (w:World) (v:Value):Prop:=∃g,PtrTo v g∧N≤g∧SB w g (.slice none 0 0) (.slice none 0 0) (.slice none 0 0) (.slice none 0 0) (.string ByteArray.empty) (.int .i64 0) (.slice none 0 0) (.slice none 0 0) (.slice none 0 0) (.bool false) (.int .i64 0) (.int .i64 0) (.int .i64 0)
theorem BoxZ.on {N:Nat} {w w':World} {v:Value} (h:BoxZ N w v) (k:Bel w w'):BoxZ N w' v:=by
 obtain⟨g,e,hn,hs⟩:=h
 exact⟨g,e,hn,hs.on k⟩
def BoxS (N:Nat) (w:World) (v x:Value):Prop:=∃(g:Nat) (us:List Value),PtrTo v g∧N≤g∧x=.agg us.toArray∧g<w.heap.size∧(∀o,w.frozen? ⟨g,o,none⟩=false)∧w.rangeAt g 0 us
theorem BoxS.block {N:Nat} {w w':World} {v x:Value} (h:BoxS N w v x) (hs:w.heap.size≤w'.heap.size) (hb:∀g,PtrTo v g→g<w.heap.size→w'.heap[g]?=w.heap[g]?):BoxS N w' v x:=by
 obtain⟨g,us,e,hn,hx,hl,hf,hr⟩:=h
 have hg:=hb g e hl
 exact⟨g,us,e,hn,hx,by omega,fun o=>(World.frozen?_of_block hg).trans (hf o),fun j u hj=>(World.cell?_of_block (w:=w) (a:=⟨g,0+j,none⟩) hg).trans (hr j u hj)⟩
theorem BoxS.on {N:Nat} {w w':World} {v x:Value} (h:BoxS N w v x) (k:Bel w w'):BoxS N w' v x:=h.block k.size fun g _ hl=>Below.block k g hl
def BoxU (N:Nat) (w:World) (v:Value):Prop:=∃g,PtrTo v g∧N≤g∧Z6 w g
theorem BoxU.block {N:Nat} {w w':World} {v:Value} (h:BoxU N w v) (hs:w.heap.size≤w'.heap.size) (hb:∀g,PtrTo v g→g<w.heap.size→w'.heap[g]?=w.heap[g]?):BoxU N w' v:=by
 obtain⟨g,e,hn,hz⟩:=h
 exact⟨g,e,hn,hz.block hs (hb g e hz.2.2.2.2.2.2.2)⟩
theorem BoxU.on {N:Nat} {w w':World} {v:Value} (h:BoxU N w v) (k:Bel w w'):BoxU N w' v:=h.block k.size fun g _ hl=>Below.block k g hl
def BoxV (N:Nat) (w:World) (v:Value) (r:VVal):Prop:=∃g,PtrTo v g∧N≤g∧VB w g r.k r.n r.i r.t r.lo r.hi
theorem BoxV.on {N:Nat} {w w':World} {v:Value} {r:VVal} (h:BoxV N w v r) (k:Bel w w'):BoxV N w' v r:=by
 obtain⟨g,e,hn,hz⟩:=h
 exact⟨g,e,hn,hz.on k⟩
theorem setCells_off {w:World} {b:Nat} (vs:List Value):OffS (fun x=>x≠b) w (w.setCells b 0 vs):=by
 have hB:∀(vs:List Value) (o:Nat) (w:World),Bel w w→(w.setCells b o vs).heap.size=w.heap.size∧(w.setCells b o vs).os=w.os∧(w.setCells b o vs).tape=w.tape∧(w.setCells b o vs).output=w.output:=by
  intro vs
  induction vs with
  | nil=>intro o w _;exact⟨rfl,rfl,rfl,rfl⟩
  | cons v r ih =>
   intro o w _
   have h1:ButB b w (w.setCell ⟨b,o,none⟩ v):=ButB.set ⟨rfl,rfl,rfl,rfl,fun _ _=>rfl⟩ o v
   obtain⟨a1,a2,a3,a4⟩:=ih (o+1) (w.setCell ⟨b,o,none⟩ v) (Bel.refl _)
   exact⟨a1.trans h1.size,a2.trans h1.os,a3.trans h1.tape,a4.trans h1.output⟩
 obtain⟨a1,a2,a3,a4⟩:=hB vs 0 w (Bel.refl _)
 exact⟨a2,a3,a4,Nat.le_of_eq a1.symm,fun x hx _=>setCells_block (fun q=>hx q.symm) vs 0 w⟩
theorem BoxZ.fill {N:Nat} {w:World} {v:Value} {us:List Value} {g:Nat} (e:PtrTo v g) (hn:N≤g) (hz:SB w g (.slice none 0 0) (.slice none 0 0) (.slice none 0 0) (.slice none 0 0) (.string ByteArray.empty) (.int .i64 0) (.slice none 0 0) (.slice none 0 0) (.slice none 0 0) (.bool false) (.int .i64 0) (.int .i64 0) (.int .i64 0)) (hl:us.length=13):BoxS N (w.setCells g 0 us) v (.agg us.toArray):=by
 have ht:=hz.there
 rw[←hl]at ht
 refine⟨g,us,e,hn,rfl,?_,fun o=>?_,World.rangeAt_setCells_same w g 0 us ht⟩
 ·
  have:=(setCells_off (w:=w) (b:=g) us).size
  have:=hz.1
  omega
 ·
  exact (World.frozen?_setCells g us 0 w _).trans (hz.2.1 o)
theorem Z6.there {w:World} {b:Nat} (h:Z6 w b):w.there b 0 6:=by
 obtain⟨c0,c1,c2,c3,c4,c5,f,l⟩:=h
 intro j hj
 rcases (show j=0∨j=1∨j=2∨j=3∨j=4∨j=5 by omega)with rfl | rfl | rfl | rfl | rfl | rfl
 ·
  exact⟨by rw[show 0+0=0 from rfl,c0];rfl,f _⟩
 ·
  exact⟨by rw[show 0+1=1 from rfl,c1];rfl,f _⟩
 ·
  exact⟨by rw[show 0+2=2 from rfl,c2];rfl,f _⟩
 ·
  exact⟨by rw[show 0+3=3 from rfl,c3];rfl,f _⟩
 ·
  exact⟨by rw[show 0+4=4 from rfl,c4];rfl,f _⟩
 ·
  exact⟨by rw[show 0+5=5 from rfl,c5];rfl,f _⟩
theorem BoxU.fill {N:Nat} {w:World} {v:Value} {r:VVal} {g:Nat} (e:PtrTo v g) (hn:N≤g) (hz:Z6 w g):BoxV N (w.setCells g 0 [.int .i64 r.k,.int .i64 r.n,.int .i64 r.i,.string r.t,.int .i64 r.lo,.int .i64 r.hi]) v r:=by
 have ht:=hz.there
 have hr:=World.rangeAt_setCells_same w g 0 [.int .i64 r.k,.int .i64 r.n,.int .i64 r.i,.string r.t,.int .i64 r.lo,.int .i64 r.hi] ht
 have hs:=(setCells_off (w:=w) (b:=g) [.int .i64 r.k,.int .i64 r.n,.int .i64 r.i,.string r.t,.int .i64 r.lo,.int .i64 r.hi]).size
 have hl:=hz.2.2.2.2.2.2.2
 exact⟨g,e,hn,by omega,hr 0 _ rfl,hr 1 _ rfl,hr 2 _ rfl,hr 3 _ rfl,hr 4 _ rfl,hr 5 _ rfl⟩
theorem BoxS.sb {N:Nat} {w:World} {v:Value} {v0 v1 v2 v3 v4 v5 v6 v7 v8 v9 v10 v11 v12:Value} {g:Nat} (h:BoxS N w v (.agg #[v0,v1,v2,v3,v4,v5,v6,v7,v8,v9,v10,v11,v12])) (e:PtrTo v g):SB w g v0 v1 v2 v3 v4 v5 v6 v7 v8 v9 v10 v11 v12:=by
 obtain⟨g',us,e',-,hx,hl,hf,hr⟩:=h
 obtain rfl:=e.inj e'
 obtain rfl:us=[v0,v1,v2,v3,v4,v5,v6,v7,v8,v9,v10,v11,v12]:=by
  injection hx with hx
  have:=congrArg Array.toList hx
  simpa using this.symm
 exact⟨hl,hf,hr 0 _ rfl,hr 1 _ rfl,hr 2 _ rfl,hr 3 _ rfl,hr 4 _ rfl,hr 5 _ rfl,hr 6 _ rfl,hr 7 _ rfl,hr 8 _ rfl,hr 9 _ rfl,hr 10 _ rfl,hr 11 _ rfl,hr 12 _ rfl⟩
end Go.Proofs.YtppmgodahloogaaGreatDoor
namespace Go.Proofs.YtppmgodahloogaaGreatDoor
set_option linter.unusedVariables false
set_option linter.unusedSimpArgs false
set_option maxRecDepth 100000
open Go.RowKit
def TStore.rcnt:TStore→Nat
 | .mk x0 x1 x2 x3 x4 x5 x6 x7 x8 x9 x10 x11 x12=>Dat.cntR (x0.map (fun x=>[Dat.str x]))+Dat.cntR (x1.map TRecordType.D)+Dat.cntR (x2.map TObject.D)+Dat.cntR (x3.map TValue.D)+Dat.cntR (x6.map (fun x=>[Dat.str x]))+Dat.cntR (x7.map (fun x=>[Dat.str x]))+Dat.cntR (x8.map TActive.D)
def TStore.OwnM (w:World) (L:List Nat) (k:Int) (vs:List Value):TStore→Prop
 | .mk x0 x1 x2 x3 x4 x5 x6 x7 x8 x9 x10 x11 x12=>∃A0 c0 L0 A1 c1 L1 A2 c2 L2 A3 c3 L3 A6 c6 L6 A7 c7 L7 A8 c8 L8,L=L0++(L1++(L2++(L3++(L6++(L7++L8)))))∧vs=[.slice A0 x0.length c0,.slice A1 x1.length c1,.slice A2 x2.length c2,.slice A3 x3.length c3,.string x4,.int .i64 x5,.slice A6 x6.length c6,.slice A7 x7.length c7,.slice A8 x8.length c8,.bool x9,.int .i64 x10,.int .i64 x11,.int .i64 x12]∧OwnRow w L0 1 A0 c0 (Dat.markR (k) (x0.map (fun x=>[Dat.str x])))∧OwnRow w L1 3 A1 c1 (Dat.markR (k+(Dat.cntR (x0.map (fun x=>[Dat.str x])):Nat)) (x1.map TRecordType.D))∧OwnRow w L2 5 A2 c2 (Dat.markR (k+(Dat.cntR (x0.map (fun x=>[Dat.str x])):Nat)+(Dat.cntR (x1.map TRecordType.D):Nat)) (x2.map TObject.D))∧OwnRow w L3 6 A3 c3 (Dat.markR (k+(Dat.cntR (x0.map (fun x=>[Dat.str x])):Nat)+(Dat.cntR (x1.map TRecordType.D):Nat)+(Dat.cntR (x2.map TObject.D):Nat)) (x3.map TValue.D))∧OwnRow w L6 1 A6 c6 (Dat.markR (k+(Dat.cntR (x0.map (fun x=>[Dat.str x])):Nat)+(Dat.cntR (x1.map TRecordType.D):Nat)+(Dat.cntR (x2.map TObject.D):Nat)+(Dat.cntR (x3.map TValue.D):Nat)) (x6.map (fun x=>[Dat.str x])))∧OwnRow w L7 1 A7 c7 (Dat.markR (k+(Dat.cntR (x0.map (fun x=>[Dat.str x])):Nat)+(Dat.cntR (x1.map TRecordType.D):Nat)+(Dat.cntR (x2.map TObject.D):Nat)+(Dat.cntR (x3.map TValue.D):Nat)+(Dat.cntR (x6.map (fun x=>[Dat.str x])):Nat)) (x7.map (fun x=>[Dat.str x])))∧OwnRow w L8 2 A8 c8 (Dat.markR (k+(Dat.cntR (x0.map (fun x=>[Dat.str x])):Nat)+(Dat.cntR (x1.map TRecordType.D):Nat)+(Dat.cntR (x2.map TObject.D):Nat)+(Dat.cntR (x3.map TValue.D):Nat)+(Dat.cntR (x6.map (fun x=>[Dat.str x])):Nat)+(Dat.cntR (x7.map (fun x=>[Dat.str x])):Nat)) (x8.map TActive.D))
theorem TStore.rcnt_le:∀t:TStore,t.rcnt≤16*Dat.wtL t.D:=by
 rintro⟨x0,x1,x2,x3,x4,x5,x6,x7,x8,x9,x10,x11,x12⟩
 have r0:=cntR_le_of (fun x=>[Dat.str x]) x0 (fun i hi=>by simp[Dat.cntC,Dat.cnt];omega)
 have r1:=cntR_le_of TRecordType.D x1 (fun i hi=>TRecordType.mcnt_le x1[i])
 have r2:=cntR_le_of TObject.D x2 (fun i hi=>TObject.mcnt_le x2[i])
 have r3:=cntR_le_of TValue.D x3 (fun i hi=>TValue.mcnt_le x3[i])
 have r6:=cntR_le_of (fun x=>[Dat.str x]) x6 (fun i hi=>by simp[Dat.cntC,Dat.cnt];omega)
 have r7:=cntR_le_of (fun x=>[Dat.str x]) x7 (fun i hi=>by simp[Dat.cntC,Dat.cnt];omega)
 have r8:=cntR_le_of TActive.D x8 (fun i hi=>TActive.mcnt_le x8[i])
 rw[TStore.D_mk]
 simp only[TStore.rcnt,Dat.wtL,Dat.wt,List.length_map]
 omega
theorem TStore.OwnM.offS {S:Nat→Prop} {w w':World} {L:List Nat} {k:Int} {vs:List Value} {t:TStore} (ho:OffS S w w') (hS:∀x,x∈L→S x) (h:TStore.OwnM w L k vs t):TStore.OwnM w' L k vs t:=by
 obtain⟨x0,x1,x2,x3,x4,x5,x6,x7,x8,x9,x10,x11,x12⟩:=t
 obtain⟨A0,c0,L0,A1,c1,L1,A2,c2,L2,A3,c3,L3,A6,c6,L6,A7,c7,L7,A8,c8,L8,rfl,hv,g0,g1,g2,g3,g6,g7,g8⟩:=h
 exact⟨_,_,_,_,_,_,_,_,_,_,_,_,_,_,_,_,_,_,_,_,_,rfl,hv,OwnRow.offS ho (fun x hx=>hS x (by simp[hx])) g0,OwnRow.offS ho (fun x hx=>hS x (by simp[hx])) g1,OwnRow.offS ho (fun x hx=>hS x (by simp[hx])) g2,OwnRow.offS ho (fun x hx=>hS x (by simp[hx])) g3,OwnRow.offS ho (fun x hx=>hS x (by simp[hx])) g6,OwnRow.offS ho (fun x hx=>hS x (by simp[hx])) g7,OwnRow.offS ho (fun x hx=>hS x (by simp[hx])) g8⟩
theorem TStore.OwnM.lt {w:World} {L:List Nat} {k:Int} {vs:List Value} {t:TStore} (h:TStore.OwnM w L k vs t):∀x,x∈L→x<w.heap.size:=by
 obtain⟨x0,x1,x2,x3,x4,x5,x6,x7,x8,x9,x10,x11,x12⟩:=t
 obtain⟨A0,c0,L0,A1,c1,L1,A2,c2,L2,A3,c3,L3,A6,c6,L6,A7,c7,L7,A8,c8,L8,rfl,hv,g0,g1,g2,g3,g6,g7,g8⟩:=h
 intro x hx
 simp only[List.mem_append]at hx
 rcases hx with hx | hx
 ·
  exact g0.lt x hx
 rcases hx with hx | hx
 ·
  exact g1.lt x hx
 rcases hx with hx | hx
 ·
  exact g2.lt x hx
 rcases hx with hx | hx
 ·
  exact g3.lt x hx
 rcases hx with hx | hx
 ·
  exact g6.lt x hx
 rcases hx with hx | hx
 ·
  exact g7.lt x hx
 exact g8.lt x hx
theorem TStore.OwnM.bel {w w':World} {L:List Nat} {k:Int} {vs:List Value} {t:TStore} (hb:Bel w w') (h:TStore.OwnM w L k vs t):TStore.OwnM w' L k vs t:=by
 obtain⟨x0,x1,x2,x3,x4,x5,x6,x7,x8,x9,x10,x11,x12⟩:=t
 obtain⟨A0,c0,L0,A1,c1,L1,A2,c2,L2,A3,c3,L3,A6,c6,L6,A7,c7,L7,A8,c8,L8,rfl,hv,g0,g1,g2,g3,g6,g7,g8⟩:=h
 exact⟨_,_,_,_,_,_,_,_,_,_,_,_,_,_,_,_,_,_,_,_,_,rfl,hv,OwnRow.bel hb g0,OwnRow.bel hb g1,OwnRow.bel hb g2,OwnRow.bel hb g3,OwnRow.bel hb g6,OwnRow.bel hb g7,OwnRow.bel hb g8⟩
set_option maxHeartbeats 4000000 in
theorem markStoreW_any (t:TStore) (L:List Nat) (w:World) (vs:List Value) (k:Int) (hv:Dat.OwnVals w L t.D vs) (hnd:L.Nodup) (h0:0≤k) (hb:k+(t.rcnt:Nat)≤4611686018427387904) :
  Calls Tryz.prog 12 #[.agg vs.toArray,.int .i64 k] w fun e w'=>e=.returned (.int .i64 (k+(t.rcnt:Nat)))∧TStore.OwnM w' L k vs t∧OffS (fun x=>x∉L) w w':=by
 obtain⟨x0,x1,x2,x3,x4,x5,x6,x7,x8,x9,x10,x11,x12⟩:=t
 simp only[TStore.rcnt]at hb ⊢
 obtain⟨A0,c0,L_0,A1,c1,L_1,A2,c2,L_2,A3,c3,L_3,A6,c6,L_6,A7,c7,L_7,A8,c8,L_8,hLL,rfl,g0,g1,g2,g3,-,-,g6,g7,g8,-,-,-,-⟩:=TStore.vals_own hv
 clear hv
 have hLL2:=hLL.symm
 clear hLL
 subst hLL2
 obtain⟨q0,hq0⟩:∃q,Dat.cntR (x0.map (fun x=>[Dat.str x]))=q:=⟨_,rfl⟩
 obtain⟨q1,hq1⟩:∃q,Dat.cntR (x1.map TRecordType.D)=q:=⟨_,rfl⟩
 obtain⟨q2,hq2⟩:∃q,Dat.cntR (x2.map TObject.D)=q:=⟨_,rfl⟩
 obtain⟨q3,hq3⟩:∃q,Dat.cntR (x3.map TValue.D)=q:=⟨_,rfl⟩
 obtain⟨q6,hq6⟩:∃q,Dat.cntR (x6.map (fun x=>[Dat.str x]))=q:=⟨_,rfl⟩
 obtain⟨q7,hq7⟩:∃q,Dat.cntR (x7.map (fun x=>[Dat.str x]))=q:=⟨_,rfl⟩
 obtain⟨q8,hq8⟩:∃q,Dat.cntR (x8.map TActive.D)=q:=⟨_,rfl⟩
 simp only[hq0,hq1,hq2,hq3,hq6,hq7,hq8]at hb ⊢
 have HNL0:=hide (List.nodup_append.1 hnd).1
 have hdd0:=(List.nodup_append.1 hnd).2.2
 have hnn0:=(List.nodup_append.1 hnd).2.1
 clear hnd
 have HNL1:=hide (List.nodup_append.1 hnn0).1
 have hdd1:=(List.nodup_append.1 hnn0).2.2
 have hnn1:=(List.nodup_append.1 hnn0).2.1
 clear hnn0
 have HNL2:=hide (List.nodup_append.1 hnn1).1
 have hdd2:=(List.nodup_append.1 hnn1).2.2
 have hnn2:=(List.nodup_append.1 hnn1).2.1
 clear hnn1
 have HNL3:=hide (List.nodup_append.1 hnn2).1
 have hdd3:=(List.nodup_append.1 hnn2).2.2
 have hnn3:=(List.nodup_append.1 hnn2).2.1
 clear hnn2
 have HNL6:=hide (List.nodup_append.1 hnn3).1
 have hdd6:=(List.nodup_append.1 hnn3).2.2
 have hnn6:=(List.nodup_append.1 hnn3).2.1
 clear hnn3
 have HNL7:=hide (List.nodup_append.1 hnn6).1
 have hdd7:=(List.nodup_append.1 hnn6).2.2
 have hnn7:=(List.nodup_append.1 hnn6).2.1
 clear hnn6
 have HNL8:=hide hnn7
 clear hnn7
 have HI0:=hide (show ∀x,x∈L_0→x∈(L_0++(L_1++(L_2++(L_3++(L_6++(L_7++L_8))))))from fun x h=>by simp[h])
 have hb_0:w.heap.size∉L_0:=fun h=>Nat.lt_irrefl _ (g0.lt _ h)
 have G0:=hide g0
 have HQ0:=hide hq0
 have HI1:=hide (show ∀x,x∈L_1→x∈(L_0++(L_1++(L_2++(L_3++(L_6++(L_7++L_8))))))from fun x h=>by simp[h])
 have hb_1:w.heap.size∉L_1:=fun h=>Nat.lt_irrefl _ (g1.lt _ h)
 have G1:=hide g1
 have HQ1:=hide hq1
 have HI2:=hide (show ∀x,x∈L_2→x∈(L_0++(L_1++(L_2++(L_3++(L_6++(L_7++L_8))))))from fun x h=>by simp[h])
 have hb_2:w.heap.size∉L_2:=fun h=>Nat.lt_irrefl _ (g2.lt _ h)
 have G2:=hide g2
 have HQ2:=hide hq2
 have HI3:=hide (show ∀x,x∈L_3→x∈(L_0++(L_1++(L_2++(L_3++(L_6++(L_7++L_8))))))from fun x h=>by simp[h])
 have hb_3:w.heap.size∉L_3:=fun h=>Nat.lt_irrefl _ (g3.lt _ h)
 have G3:=hide g3
 have HQ3:=hide hq3
 have HI6:=hide (show ∀x,x∈L_6→x∈(L_0++(L_1++(L_2++(L_3++(L_6++(L_7++L_8))))))from fun x h=>by simp[h])
 have hb_6:w.heap.size∉L_6:=fun h=>Nat.lt_irrefl _ (g6.lt _ h)
 have G6:=hide g6
 have HQ6:=hide hq6
 have HI7:=hide (show ∀x,x∈L_7→x∈(L_0++(L_1++(L_2++(L_3++(L_6++(L_7++L_8))))))from fun x h=>by simp[h])
 have hb_7:w.heap.size∉L_7:=fun h=>Nat.lt_irrefl _ (g7.lt _ h)
 have G7:=hide g7
 have HQ7:=hide hq7
 have HI8:=hide (show ∀x,x∈L_8→x∈(L_0++(L_1++(L_2++(L_3++(L_6++(L_7++L_8))))))from fun x h=>by simp[h])
 have hb_8:w.heap.size∉L_8:=fun h=>Nat.lt_irrefl _ (g8.lt _ h)
 have G8:=hide g8
 have HQ8:=hide hq8
 have HD0_1:=hide (show ∀x,x∈L_0→x∉L_1 from fun x h h2=>hdd0 x h x (by simp[h2]) rfl)
 have HD1_0:=hide (show ∀x,x∈L_1→x∉L_0 from fun x h h2=>HD0_1.out x h2 h)
 have HD0_2:=hide (show ∀x,x∈L_0→x∉L_2 from fun x h h2=>hdd0 x h x (by simp[h2]) rfl)
 have HD2_0:=hide (show ∀x,x∈L_2→x∉L_0 from fun x h h2=>HD0_2.out x h2 h)
 have HD0_3:=hide (show ∀x,x∈L_0→x∉L_3 from fun x h h2=>hdd0 x h x (by simp[h2]) rfl)
 have HD3_0:=hide (show ∀x,x∈L_3→x∉L_0 from fun x h h2=>HD0_3.out x h2 h)
 have HD0_6:=hide (show ∀x,x∈L_0→x∉L_6 from fun x h h2=>hdd0 x h x (by simp[h2]) rfl)
 have HD6_0:=hide (show ∀x,x∈L_6→x∉L_0 from fun x h h2=>HD0_6.out x h2 h)
 have HD0_7:=hide (show ∀x,x∈L_0→x∉L_7 from fun x h h2=>hdd0 x h x (by simp[h2]) rfl)
 have HD7_0:=hide (show ∀x,x∈L_7→x∉L_0 from fun x h h2=>HD0_7.out x h2 h)
 have HD0_8:=hide (show ∀x,x∈L_0→x∉L_8 from fun x h h2=>hdd0 x h x (by simp[h2]) rfl)
 have HD8_0:=hide (show ∀x,x∈L_8→x∉L_0 from fun x h h2=>HD0_8.out x h2 h)
 have HD1_2:=hide (show ∀x,x∈L_1→x∉L_2 from fun x h h2=>hdd1 x h x (by simp[h2]) rfl)
 have HD2_1:=hide (show ∀x,x∈L_2→x∉L_1 from fun x h h2=>HD1_2.out x h2 h)
 have HD1_3:=hide (show ∀x,x∈L_1→x∉L_3 from fun x h h2=>hdd1 x h x (by simp[h2]) rfl)
 have HD3_1:=hide (show ∀x,x∈L_3→x∉L_1 from fun x h h2=>HD1_3.out x h2 h)
 have HD1_6:=hide (show ∀x,x∈L_1→x∉L_6 from fun x h h2=>hdd1 x h x (by simp[h2]) rfl)
 have HD6_1:=hide (show ∀x,x∈L_6→x∉L_1 from fun x h h2=>HD1_6.out x h2 h)
 have HD1_7:=hide (show ∀x,x∈L_1→x∉L_7 from fun x h h2=>hdd1 x h x (by simp[h2]) rfl)
 have HD7_1:=hide (show ∀x,x∈L_7→x∉L_1 from fun x h h2=>HD1_7.out x h2 h)
 have HD1_8:=hide (show ∀x,x∈L_1→x∉L_8 from fun x h h2=>hdd1 x h x (by simp[h2]) rfl)
 have HD8_1:=hide (show ∀x,x∈L_8→x∉L_1 from fun x h h2=>HD1_8.out x h2 h)
 have HD2_3:=hide (show ∀x,x∈L_2→x∉L_3 from fun x h h2=>hdd2 x h x (by simp[h2]) rfl)
 have HD3_2:=hide (show ∀x,x∈L_3→x∉L_2 from fun x h h2=>HD2_3.out x h2 h)
 have HD2_6:=hide (show ∀x,x∈L_2→x∉L_6 from fun x h h2=>hdd2 x h x (by simp[h2]) rfl)
 have HD6_2:=hide (show ∀x,x∈L_6→x∉L_2 from fun x h h2=>HD2_6.out x h2 h)
 have HD2_7:=hide (show ∀x,x∈L_2→x∉L_7 from fun x h h2=>hdd2 x h x (by simp[h2]) rfl)
 have HD7_2:=hide (show ∀x,x∈L_7→x∉L_2 from fun x h h2=>HD2_7.out x h2 h)
 have HD2_8:=hide (show ∀x,x∈L_2→x∉L_8 from fun x h h2=>hdd2 x h x (by simp[h2]) rfl)
 have HD8_2:=hide (show ∀x,x∈L_8→x∉L_2 from fun x h h2=>HD2_8.out x h2 h)
 have HD3_6:=hide (show ∀x,x∈L_3→x∉L_6 from fun x h h2=>hdd3 x h x (by simp[h2]) rfl)
 have HD6_3:=hide (show ∀x,x∈L_6→x∉L_3 from fun x h h2=>HD3_6.out x h2 h)
 have HD3_7:=hide (show ∀x,x∈L_3→x∉L_7 from fun x h h2=>hdd3 x h x (by simp[h2]) rfl)
 have HD7_3:=hide (show ∀x,x∈L_7→x∉L_3 from fun x h h2=>HD3_7.out x h2 h)
 have HD3_8:=hide (show ∀x,x∈L_3→x∉L_8 from fun x h h2=>hdd3 x h x (by simp[h2]) rfl)
 have HD8_3:=hide (show ∀x,x∈L_8→x∉L_3 from fun x h h2=>HD3_8.out x h2 h)
 have HD6_7:=hide (show ∀x,x∈L_6→x∉L_7 from fun x h h2=>hdd6 x h x (by simp[h2]) rfl)
 have HD7_6:=hide (show ∀x,x∈L_7→x∉L_6 from fun x h h2=>HD6_7.out x h2 h)
 have HD6_8:=hide (show ∀x,x∈L_6→x∉L_8 from fun x h h2=>hdd6 x h x (by simp[h2]) rfl)
 have HD8_6:=hide (show ∀x,x∈L_8→x∉L_6 from fun x h h2=>HD6_8.out x h2 h)
 have HD7_8:=hide (show ∀x,x∈L_7→x∉L_8 from fun x h h2=>hdd7 x h x (by simp[h2]) rfl)
 have HD8_7:=hide (show ∀x,x∈L_8→x∉L_7 from fun x h h2=>HD7_8.out x h2 h)
 clear hdd0 hdd1 hdd2 hdd3 hdd6 hdd7 g0 g1 g2 g3 g6 g7 g8 hq0 hq1 hq2 hq3 hq6 hq7 hq8
 go_enter Tryz.func12,Tryz.ntmps12
 go_wp2_with (fail)
 refine (markStringS_any x0 L_0 _ A0 c0 _ (OwnRow.offS (S:=fun x=>x∈L_0) (w:=w) osl (fun x hx=>hx) G0.out) HNL0.out (by omega) (by rw[HQ0.out];omega)).mono ?_
 rintro e w1 ⟨rfl,hM1,ho1⟩
 rw[HQ0.out]
 have HM1:=hide hM1
 have hz1:=ho1.size
 (try simp only[World.size_alloc,World.size_setCell,World.size_drew,World.heap_drewN]at hz1)
 have hss1:=ho1.same w.heap.size hb_0 (by first | (simp;done) | (simp;omega) | omega)
 have hk1:=hss1.1
 have hf_1:=hss1.2
 have hl1:w.heap.size<w1.heap.size:=by omega
 have hoL1:=OffS.narrow (S':=fun x=>x∉(L_0++(L_1++(L_2++(L_3++(L_6++(L_7++L_8))))))) ho1 (fun x hx h=>hx (HI0.out x h))
 have ho1_1:=OffS.narrow (S':=fun x=>x∈L_1) ho1 (fun x hx=>HD1_0.out x hx)
 have ho1_2:=OffS.narrow (S':=fun x=>x∈L_2) ho1 (fun x hx=>HD2_0.out x hx)
 have ho1_3:=OffS.narrow (S':=fun x=>x∈L_3) ho1 (fun x hx=>HD3_0.out x hx)
 have ho1_6:=OffS.narrow (S':=fun x=>x∈L_6) ho1 (fun x hx=>HD6_0.out x hx)
 have ho1_7:=OffS.narrow (S':=fun x=>x∈L_7) ho1 (fun x hx=>HD7_0.out x hx)
 have ho1_8:=OffS.narrow (S':=fun x=>x∈L_8) ho1 (fun x hx=>HD8_0.out x hx)
 clear hss1 ho1 hM1
 go_wp2_with (fail)
 refine (markRecordTypeS_any x1 L_1 _ A1 c1 _ (OwnRow.offS (S:=fun x=>x∈L_1) (w:=w) osl (fun x hx=>hx) G1.out) HNL1.out (by omega) (by rw[HQ1.out];omega)).mono ?_
 rintro e w2 ⟨rfl,hM2,ho2⟩
 rw[HQ1.out]
 have HM2:=hide hM2
 have hz2:=ho2.size
 (try simp only[World.size_alloc,World.size_setCell,World.size_drew,World.heap_drewN]at hz2)
 have hss2:=ho2.same w.heap.size hb_1 (by first | (simp;done) | (simp;omega) | omega)
 have hk2:=hss2.1
 have hf_2:=hss2.2
 have hl2:w.heap.size<w2.heap.size:=by omega
 have hoL2:=OffS.narrow (S':=fun x=>x∉(L_0++(L_1++(L_2++(L_3++(L_6++(L_7++L_8))))))) ho2 (fun x hx h=>hx (HI1.out x h))
 have ho2_0:=OffS.narrow (S':=fun x=>x∈L_0) ho2 (fun x hx=>HD0_1.out x hx)
 have ho2_2:=OffS.narrow (S':=fun x=>x∈L_2) ho2 (fun x hx=>HD2_1.out x hx)
 have ho2_3:=OffS.narrow (S':=fun x=>x∈L_3) ho2 (fun x hx=>HD3_1.out x hx)
 have ho2_6:=OffS.narrow (S':=fun x=>x∈L_6) ho2 (fun x hx=>HD6_1.out x hx)
 have ho2_7:=OffS.narrow (S':=fun x=>x∈L_7) ho2 (fun x hx=>HD7_1.out x hx)
 have ho2_8:=OffS.narrow (S':=fun x=>x∈L_8) ho2 (fun x hx=>HD8_1.out x hx)
 clear hss2 ho2 hM2
 go_wp2_with (fail)
 refine (markObjectS_any x2 L_2 _ A2 c2 _ (OwnRow.offS (S:=fun x=>x∈L_2) (w:=w) osl (fun x hx=>hx) G2.out) HNL2.out (by omega) (by rw[HQ2.out];omega)).mono ?_
 rintro e w3 ⟨rfl,hM3,ho3⟩
 rw[HQ2.out]
 have HM3:=hide hM3
 have hz3:=ho3.size
 (try simp only[World.size_alloc,World.size_setCell,World.size_drew,World.heap_drewN]at hz3)
 have hss3:=ho3.same w.heap.size hb_2 (by first | (simp;done) | (simp;omega) | omega)
 have hk3:=hss3.1
 have hf_3:=hss3.2
 have hl3:w.heap.size<w3.heap.size:=by omega
 have hoL3:=OffS.narrow (S':=fun x=>x∉(L_0++(L_1++(L_2++(L_3++(L_6++(L_7++L_8))))))) ho3 (fun x hx h=>hx (HI2.out x h))
 have ho3_0:=OffS.narrow (S':=fun x=>x∈L_0) ho3 (fun x hx=>HD0_2.out x hx)
 have ho3_1:=OffS.narrow (S':=fun x=>x∈L_1) ho3 (fun x hx=>HD1_2.out x hx)
 have ho3_3:=OffS.narrow (S':=fun x=>x∈L_3) ho3 (fun x hx=>HD3_2.out x hx)
 have ho3_6:=OffS.narrow (S':=fun x=>x∈L_6) ho3 (fun x hx=>HD6_2.out x hx)
 have ho3_7:=OffS.narrow (S':=fun x=>x∈L_7) ho3 (fun x hx=>HD7_2.out x hx)
 have ho3_8:=OffS.narrow (S':=fun x=>x∈L_8) ho3 (fun x hx=>HD8_2.out x hx)
 clear hss3 ho3 hM3
 go_wp2_with (fail)
 refine (markValueS_any x3 L_3 _ A3 c3 _ (OwnRow.offS (S:=fun x=>x∈L_3) (w:=w) osl (fun x hx=>hx) G3.out) HNL3.out (by omega) (by rw[HQ3.out];omega)).mono ?_
 rintro e w4 ⟨rfl,hM4,ho4⟩
 rw[HQ3.out]
 have HM4:=hide hM4
 have hz4:=ho4.size
 (try simp only[World.size_alloc,World.size_setCell,World.size_drew,World.heap_drewN]at hz4)
 have hss4:=ho4.same w.heap.size hb_3 (by first | (simp;done) | (simp;omega) | omega)
 have hk4:=hss4.1
 have hf_4:=hss4.2
 have hl4:w.heap.size<w4.heap.size:=by omega
 have hoL4:=OffS.narrow (S':=fun x=>x∉(L_0++(L_1++(L_2++(L_3++(L_6++(L_7++L_8))))))) ho4 (fun x hx h=>hx (HI3.out x h))
 have ho4_0:=OffS.narrow (S':=fun x=>x∈L_0) ho4 (fun x hx=>HD0_3.out x hx)
 have ho4_1:=OffS.narrow (S':=fun x=>x∈L_1) ho4 (fun x hx=>HD1_3.out x hx)
 have ho4_2:=OffS.narrow (S':=fun x=>x∈L_2) ho4 (fun x hx=>HD2_3.out x hx)
 have ho4_6:=OffS.narrow (S':=fun x=>x∈L_6) ho4 (fun x hx=>HD6_3.out x hx)
 have ho4_7:=OffS.narrow (S':=fun x=>x∈L_7) ho4 (fun x hx=>HD7_3.out x hx)
 have ho4_8:=OffS.narrow (S':=fun x=>x∈L_8) ho4 (fun x hx=>HD8_3.out x hx)
 clear hss4 ho4 hM4
 go_wp2_with (fail)
 refine (markStringS_any x6 L_6 _ A6 c6 _ (OwnRow.offS (S:=fun x=>x∈L_6) (w:=w) osl (fun x hx=>hx) G6.out) HNL6.out (by omega) (by rw[HQ6.out];omega)).mono ?_
 rintro e w5 ⟨rfl,hM5,ho5⟩
 rw[HQ6.out]
 have HM5:=hide hM5
 have hz5:=ho5.size
 (try simp only[World.size_alloc,World.size_setCell,World.size_drew,World.heap_drewN]at hz5)
 have hss5:=ho5.same w.heap.size hb_6 (by first | (simp;done) | (simp;omega) | omega)
 have hk5:=hss5.1
 have hf_5:=hss5.2
 have hl5:w.heap.size<w5.heap.size:=by omega
 have hoL5:=OffS.narrow (S':=fun x=>x∉(L_0++(L_1++(L_2++(L_3++(L_6++(L_7++L_8))))))) ho5 (fun x hx h=>hx (HI6.out x h))
 have ho5_0:=OffS.narrow (S':=fun x=>x∈L_0) ho5 (fun x hx=>HD0_6.out x hx)
 have ho5_1:=OffS.narrow (S':=fun x=>x∈L_1) ho5 (fun x hx=>HD1_6.out x hx)
 have ho5_2:=OffS.narrow (S':=fun x=>x∈L_2) ho5 (fun x hx=>HD2_6.out x hx)
 have ho5_3:=OffS.narrow (S':=fun x=>x∈L_3) ho5 (fun x hx=>HD3_6.out x hx)
 have ho5_7:=OffS.narrow (S':=fun x=>x∈L_7) ho5 (fun x hx=>HD7_6.out x hx)
 have ho5_8:=OffS.narrow (S':=fun x=>x∈L_8) ho5 (fun x hx=>HD8_6.out x hx)
 clear hss5 ho5 hM5
 go_wp2_with (fail)
 refine (markStringS_any x7 L_7 _ A7 c7 _ (OwnRow.offS (S:=fun x=>x∈L_7) (w:=w) osl (fun x hx=>hx) G7.out) HNL7.out (by omega) (by rw[HQ7.out];omega)).mono ?_
 rintro e w6 ⟨rfl,hM6,ho6⟩
 rw[HQ7.out]
 have HM6:=hide hM6
 have hz6:=ho6.size
 (try simp only[World.size_alloc,World.size_setCell,World.size_drew,World.heap_drewN]at hz6)
 have hss6:=ho6.same w.heap.size hb_7 (by first | (simp;done) | (simp;omega) | omega)
 have hk6:=hss6.1
 have hf_6:=hss6.2
 have hl6:w.heap.size<w6.heap.size:=by omega
 have hoL6:=OffS.narrow (S':=fun x=>x∉(L_0++(L_1++(L_2++(L_3++(L_6++(L_7++L_8))))))) ho6 (fun x hx h=>hx (HI7.out x h))
 have ho6_0:=OffS.narrow (S':=fun x=>x∈L_0) ho6 (fun x hx=>HD0_7.out x hx)
 have ho6_1:=OffS.narrow (S':=fun x=>x∈L_1) ho6 (fun x hx=>HD1_7.out x hx)
 have ho6_2:=OffS.narrow (S':=fun x=>x∈L_2) ho6 (fun x hx=>HD2_7.out x hx)
 have ho6_3:=OffS.narrow (S':=fun x=>x∈L_3) ho6 (fun x hx=>HD3_7.out x hx)
 have ho6_6:=OffS.narrow (S':=fun x=>x∈L_6) ho6 (fun x hx=>HD6_7.out x hx)
 have ho6_8:=OffS.narrow (S':=fun x=>x∈L_8) ho6 (fun x hx=>HD8_7.out x hx)
 clear hss6 ho6 hM6
 go_wp2_with (fail)
 refine (markActiveS_any x8 L_8 _ A8 c8 _ (OwnRow.offS (S:=fun x=>x∈L_8) (w:=w) osl (fun x hx=>hx) G8.out) HNL8.out (by omega) (by rw[HQ8.out];omega)).mono ?_
 rintro e w7 ⟨rfl,hM7,ho7⟩
 rw[HQ8.out]
 have HM7:=hide hM7
 have hz7:=ho7.size
 (try simp only[World.size_alloc,World.size_setCell,World.size_drew,World.heap_drewN]at hz7)
 have hss7:=ho7.same w.heap.size hb_8 (by first | (simp;done) | (simp;omega) | omega)
 have hk7:=hss7.1
 have hf_7:=hss7.2
 have hl7:w.heap.size<w7.heap.size:=by omega
 have hoL7:=OffS.narrow (S':=fun x=>x∉(L_0++(L_1++(L_2++(L_3++(L_6++(L_7++L_8))))))) ho7 (fun x hx h=>hx (HI8.out x h))
 have ho7_0:=OffS.narrow (S':=fun x=>x∈L_0) ho7 (fun x hx=>HD0_8.out x hx)
 have ho7_1:=OffS.narrow (S':=fun x=>x∈L_1) ho7 (fun x hx=>HD1_8.out x hx)
 have ho7_2:=OffS.narrow (S':=fun x=>x∈L_2) ho7 (fun x hx=>HD2_8.out x hx)
 have ho7_3:=OffS.narrow (S':=fun x=>x∈L_3) ho7 (fun x hx=>HD3_8.out x hx)
 have ho7_6:=OffS.narrow (S':=fun x=>x∈L_6) ho7 (fun x hx=>HD6_8.out x hx)
 have ho7_7:=OffS.narrow (S':=fun x=>x∈L_7) ho7 (fun x hx=>HD7_8.out x hx)
 clear hss7 ho7 hM7
 go_wp2_with (fail)
 go_returns
 refine⟨?_,⟨_,_,_,_,_,_,_,_,_,_,_,_,_,_,_,_,_,_,_,_,_,rfl,rfl,?_,?_,?_,?_,?_,?_,?_⟩,osl⟩
 ·
  (try simp only[Int.natCast_add,Int.add_assoc]);first | done | rfl | (congr 3;omega)
 ·
  exact OwnRow.offS (S:=fun x=>x∈L_0) (w:=w1) osl (fun x hx=>hx) HM1.out
 ·
  rw[HQ0.out];exact OwnRow.offS (S:=fun x=>x∈L_1) (w:=w2) osl (fun x hx=>hx) HM2.out
 ·
  rw[HQ0.out,HQ1.out];exact OwnRow.offS (S:=fun x=>x∈L_2) (w:=w3) osl (fun x hx=>hx) HM3.out
 ·
  rw[HQ0.out,HQ1.out,HQ2.out];exact OwnRow.offS (S:=fun x=>x∈L_3) (w:=w4) osl (fun x hx=>hx) HM4.out
 ·
  rw[HQ0.out,HQ1.out,HQ2.out,HQ3.out];exact OwnRow.offS (S:=fun x=>x∈L_6) (w:=w5) osl (fun x hx=>hx) HM5.out
 ·
  rw[HQ0.out,HQ1.out,HQ2.out,HQ3.out,HQ6.out];exact OwnRow.offS (S:=fun x=>x∈L_7) (w:=w6) osl (fun x hx=>hx) HM6.out
 ·
  rw[HQ0.out,HQ1.out,HQ2.out,HQ3.out,HQ6.out,HQ7.out];exact OwnRow.offS (S:=fun x=>x∈L_8) (w:=w7) osl (fun x hx=>hx) HM7.out
set_option maxHeartbeats 4000000 in
theorem heldStoreW_any (t:TStore) (L:List Nat) (w:World) (vs:List Value) (k:Int) (hv:TStore.OwnM w L k vs t) (h0:0≤k) (hb:k+(t.rcnt:Nat)≤4611686018427387904) :
  Calls Tryz.prog 13 #[.agg vs.toArray,.int .i64 k] w fun e w'=>e=.returned (.int .i64 (k+(t.rcnt:Nat)))∧Bel w w':=by
 obtain⟨x0,x1,x2,x3,x4,x5,x6,x7,x8,x9,x10,x11,x12⟩:=t
 simp only[TStore.rcnt]at hb ⊢
 obtain⟨A0,c0,L0,A1,c1,L1,A2,c2,L2,A3,c3,L3,A6,c6,L6,A7,c7,L7,A8,c8,L8,-,rfl,g0,g1,g2,g3,g6,g7,g8⟩:=hv
 obtain⟨q0,hq0⟩:∃q,Dat.cntR (x0.map (fun x=>[Dat.str x]))=q:=⟨_,rfl⟩
 obtain⟨q1,hq1⟩:∃q,Dat.cntR (x1.map TRecordType.D)=q:=⟨_,rfl⟩
 obtain⟨q2,hq2⟩:∃q,Dat.cntR (x2.map TObject.D)=q:=⟨_,rfl⟩
 obtain⟨q3,hq3⟩:∃q,Dat.cntR (x3.map TValue.D)=q:=⟨_,rfl⟩
 obtain⟨q6,hq6⟩:∃q,Dat.cntR (x6.map (fun x=>[Dat.str x]))=q:=⟨_,rfl⟩
 obtain⟨q7,hq7⟩:∃q,Dat.cntR (x7.map (fun x=>[Dat.str x]))=q:=⟨_,rfl⟩
 obtain⟨q8,hq8⟩:∃q,Dat.cntR (x8.map TActive.D)=q:=⟨_,rfl⟩
 simp only[hq0,hq1,hq2,hq3,hq6,hq7,hq8]at hb g0 g1 g2 g3 g6 g7 g8 ⊢
 have G0:=hide g0
 have HQ0:=hide hq0
 have G1:=hide g1
 have HQ1:=hide hq1
 have G2:=hide g2
 have HQ2:=hide hq2
 have G3:=hide g3
 have HQ3:=hide hq3
 have G6:=hide g6
 have HQ6:=hide hq6
 have G7:=hide g7
 have HQ7:=hide hq7
 have G8:=hide g8
 have HQ8:=hide hq8
 clear g0 g1 g2 g3 g6 g7 g8 hq0 hq1 hq2 hq3 hq6 hq7 hq8
 go_enter Tryz.func13,Tryz.ntmps13
 go_wp2_with (fail)
 refine (heldStringS_any x0 (fun _=>True) _ _ _ _ (OwnRow.row (fun _ _=>trivial) (OwnRow.bel bl G0.out)) (by omega) (by rw[HQ0.out];omega)).mono ?_
 rintro e w1 ⟨rfl,hb1⟩;rw[HQ0.out];(have hz1:=hb1.sz;obtain⟨hk1_0,hf1_0,hl1_0,hn1_0⟩:=hb1.lay (w.heap.size))
 have dk1:decide (k+(q0:Int)<0)=false:=by simp;omega
 go_wp2_with (fail)
 refine (heldRecordTypeS_any x1 (fun _=>True) _ _ _ _ (OwnRow.row (fun _ _=>trivial) (OwnRow.bel bl G1.out)) (by omega) (by rw[HQ1.out];omega)).mono ?_
 rintro e w2 ⟨rfl,hb2⟩;rw[HQ1.out];(have hz2:=hb2.sz;obtain⟨hk2_0,hf2_0,hl2_0,hn2_0⟩:=hb2.lay (w.heap.size))
 have dk2:decide (k+(q0:Int)+(q1:Int)<0)=false:=by simp;omega
 go_wp2_with (fail)
 refine (heldObjectS_any x2 (fun _=>True) _ _ _ _ (OwnRow.row (fun _ _=>trivial) (OwnRow.bel bl G2.out)) (by omega) (by rw[HQ2.out];omega)).mono ?_
 rintro e w3 ⟨rfl,hb3⟩;rw[HQ2.out];(have hz3:=hb3.sz;obtain⟨hk3_0,hf3_0,hl3_0,hn3_0⟩:=hb3.lay (w.heap.size))
 have dk3:decide (k+(q0:Int)+(q1:Int)+(q2:Int)<0)=false:=by simp;omega
 go_wp2_with (fail)
 refine (heldValueS_any x3 (fun _=>True) _ _ _ _ (OwnRow.row (fun _ _=>trivial) (OwnRow.bel bl G3.out)) (by omega) (by rw[HQ3.out];omega)).mono ?_
 rintro e w4 ⟨rfl,hb4⟩;rw[HQ3.out];(have hz4:=hb4.sz;obtain⟨hk4_0,hf4_0,hl4_0,hn4_0⟩:=hb4.lay (w.heap.size))
 have dk4:decide (k+(q0:Int)+(q1:Int)+(q2:Int)+(q3:Int)<0)=false:=by simp;omega
 go_wp2_with (fail)
 refine (heldStringS_any x6 (fun _=>True) _ _ _ _ (OwnRow.row (fun _ _=>trivial) (OwnRow.bel bl G6.out)) (by omega) (by rw[HQ6.out];omega)).mono ?_
 rintro e w5 ⟨rfl,hb5⟩;rw[HQ6.out];(have hz5:=hb5.sz;obtain⟨hk5_0,hf5_0,hl5_0,hn5_0⟩:=hb5.lay (w.heap.size))
 have dk5:decide (k+(q0:Int)+(q1:Int)+(q2:Int)+(q3:Int)+(q6:Int)<0)=false:=by simp;omega
 go_wp2_with (fail)
 refine (heldStringS_any x7 (fun _=>True) _ _ _ _ (OwnRow.row (fun _ _=>trivial) (OwnRow.bel bl G7.out)) (by omega) (by rw[HQ7.out];omega)).mono ?_
 rintro e w6 ⟨rfl,hb6⟩;rw[HQ7.out];(have hz6:=hb6.sz;obtain⟨hk6_0,hf6_0,hl6_0,hn6_0⟩:=hb6.lay (w.heap.size))
 have dk6:decide (k+(q0:Int)+(q1:Int)+(q2:Int)+(q3:Int)+(q6:Int)+(q7:Int)<0)=false:=by simp;omega
 go_wp2_with (fail)
 refine (heldActiveS_any x8 (fun _=>True) _ _ _ _ (OwnRow.row (fun _ _=>trivial) (OwnRow.bel bl G8.out)) (by omega) (by rw[HQ8.out];omega)).mono ?_
 rintro e w7 ⟨rfl,hb7⟩;rw[HQ8.out];(have hz7:=hb7.sz;obtain⟨hk7_0,hf7_0,hl7_0,hn7_0⟩:=hb7.lay (w.heap.size))
 have dk7:decide (k+(q0:Int)+(q1:Int)+(q2:Int)+(q3:Int)+(q6:Int)+(q7:Int)+(q8:Int)<0)=false:=by simp;omega
 go_wp2_with (fail)
 all_goals
  go_returns
  exact⟨by (try simp only[Int.natCast_add,Int.add_assoc]);first | done | rfl | (congr 3;omega),bl⟩
end Go.Proofs.YtppmgodahloogaaGreatDoor
