/- A copy of a value: what it leaves. -/
import Derived.Test.YtoikhhnmbbbjjaaDoorPr
import Derived.Test.YtoikhhnmbbbjjaaDoorPK1
import Derived.Test.YtoikhhnmbbbjjaaDoorPS9
import Derived.Test.YtoikhhnmbbbjjaaDoorPBox
import Derived.Deep.MidRow
import Derived.Test.YtoikhhnmbbbjjaaDoorPK0
import Derived.Test.YtoikhhnmbbbjjaaDoorPS2z
namespace Go.Proofs.YtoikhhnmbbbjjaaDoor
set_option linter.unusedVariables false
set_option linter.unusedSimpArgs false
set_option maxRecDepth 100000
open Go.RowKit
def copM (x12 k:Int):Int:=if isCop k=true then nextM x12 else x12
def copO (x2:List TObject) (x12 k n:Int):List TObject:=if isCop k=true then x2++[newObj (x2.getD n.toNat nilObj) (nextM x12)] else x2
def copVV (x2:List TObject) (v:VVal):VVal:=if isCop v.k=true then⟨v.k,x2.length,0,ByteArray.empty,0,0⟩ else v
def tvOf (v:VVal):TValue:=.mk v.k v.n v.i v.t v.lo v.hi
theorem copS_eq {x0:List ByteArray} {x1:List TRecordType} {x2:List TObject} {x3:List TValue} {x4:ByteArray} {x5:Int} {x6 x7:List ByteArray} {x8:List TActive} {x9:Bool} {x10 x11 x12:Int} (k n i:Int) (t:ByteArray) (lo hi:Int):copS (TStore.mk x0 x1 x2 x3 x4 x5 x6 x7 x8 x9 x10 x11 x12) (tvOf ⟨k,n,i,t,lo,hi⟩)=.mk x0 x1 (copO x2 x12 k n) x3 x4 x5 x6 x7 x8 x9 x10 x11 (copM x12 k):=by
 unfold copO copM
 show copS (TStore.mk x0 x1 x2 x3 x4 x5 x6 x7 x8 x9 x10 x11 x12) (.mk k n i t lo hi)=_
 simp only[copS]
 by_cases hc:isCop k=true
 ·
  rw[if_pos hc,if_pos hc,if_pos hc]
 ·
  rw[if_neg hc,if_neg hc,if_neg hc]
theorem copV_eq {x0:List ByteArray} {x1:List TRecordType} {x2:List TObject} {x3:List TValue} {x4:ByteArray} {x5:Int} {x6 x7:List ByteArray} {x8:List TActive} {x9:Bool} {x10 x11 x12:Int} (k n i:Int) (t:ByteArray) (lo hi:Int):(copV (TStore.mk x0 x1 x2 x3 x4 x5 x6 x7 x8 x9 x10 x11 x12) (tvOf ⟨k,n,i,t,lo,hi⟩)).v=copVV x2 ⟨k,n,i,t,lo,hi⟩:=by
 unfold copVV
 show (copV (TStore.mk x0 x1 x2 x3 x4 x5 x6 x7 x8 x9 x10 x11 x12) (.mk k n i t lo hi)).v=_
 simp only[copV]
 by_cases hc:isCop k=true
 ·
  rw[if_pos hc,if_pos hc]
  rfl
 ·
  rw[if_neg hc,if_neg hc]
  rfl
theorem inI_len {n:Nat} (h:n≤1048576):InI (n:Int):=by unfold InI;omega
theorem copM_ok {x12 k:Int} (h:InI x12):InI (copM x12 k):=by
 unfold copM nextM
 split
 ·
  exact inI_wrap _
 ·
  exact h
theorem dataB_obj {s:TStore} {k n i:Int} {t:ByteArray} {lo hi:Int} (h:dataB s ⟨k,n,i,t,lo,hi⟩=true) (hc:isCop k=true):∃m:Nat,n=(m:Int)∧∃h:m<s.objects.length,s.objects[m].kind+2=k:=by
 unfold isCop at hc
 simp only[Bool.and_eq_true,decide_eq_true_eq]at hc
 unfold dataB inB at h
 simp only[Bool.and_eq_true]at h
 obtain⟨-,hw,ho⟩:=h
 have hk2:kindI k=k - 2:=by
  exact rk217
 have hn:0≤n:=by
  unfold wellB at hw
  simp only at hw
  rw[if_neg (by omega),if_neg (by omega),if_neg (by omega),if_neg (by omega),if_neg (by omega),if_neg (by omega),if_neg (by omega),if_pos (by omega)]at hw
  simp only[Bool.and_eq_true,decide_eq_true_eq]at hw
  exact hw.2
 rw[if_pos (by simp only[hk2];omega)]at ho
 unfold objInB at ho
 simp only[hk2]at ho
 cases hq:s.objects[n.toNat]? with
 | none=>rw[hq]at ho;cases ho
 | some o =>
  rw[hq]at ho
  simp only[Bool.and_eq_true,decide_eq_true_eq]at ho
  obtain⟨hlt,he⟩:=List.getElem?_eq_some_iff.1 hq
  exact⟨n.toNat,by omega,hlt,by rw[he];omega⟩
theorem CopP.out {N:Nat} {w w':World} {q:Nat} {v0 v1 v2 v3 v4 v5 v6 v7 v8 v9 v10 v11:Value} {mm:Int} {la lb:List Ent} {L:List Nat} {x2:List TObject} {k n i:Int} {t:ByteArray} {lo hi:Int} {e:Ending} (h:CopP N w q v0 v1 v2 v3 v4 v5 v6 v7 v8 v9 v10 v11 mm la lb L x2 k n i t lo hi e w') (h0:MkS N w q v0 v1 v2 v3 v4 v5 v6 v7 v8 v9 v10 v11 (.int .i64 mm) la lb L (x2.map TObject.D)) :
  ∃(y:Value) (L':List Nat),e=.returned (copVV x2 ⟨k,n,i,t,lo,hi⟩).val∧MkS N w' q v0 v1 y v3 v4 v5 v6 v7 v8 v9 v10 v11 (.int .i64 (copM mm k)) la lb L' ((copO x2 mm k n).map TObject.D)∧OffS (fun b=>b≠q∧v2.ownBlock≠some b) w w':=by
 unfold CopP at h
 unfold copVV copM copO
 split at h
 ·
  rename_i hc
  obtain⟨M,hn,hM,y,he,hk,hf,hy,hs⟩:=h
  refine⟨y,L++M,?_,?_,⟨hf.1,hf.2.1,hf.2.2.1,hf.2.2.2,fun b hb hl=>hs b hl hb.1 hb.2⟩⟩
  ·
   rw[if_pos hc];exact he
  ·
   rw[if_pos hc,if_pos hc,List.map_append];exact hk
 ·
  rename_i hc
  obtain⟨he,hb⟩:=h
  refine⟨v2,L,?_,?_,⟨hb.os,hb.tape,hb.output,hb.size,fun b _ hl=>Below.block hb b hl⟩⟩
  ·
   rw[if_neg hc];exact he
  ·
   rw[if_neg hc,if_neg hc];exact h0.on hb
def CpyP (w:World) (s:TStore) (v:VVal) (e:Ending) (w':World):Prop :=
 ∃(us:List Value) (L:List Nat),e=.returned (.tuple #[.agg us.toArray,(copW s (tvOf v)).v.val,.bool (copOk s (tvOf v))])∧Dat.OwnVals w' L (copT s (tvOf v)).D us∧L.Nodup∧(∀b,b∈L→w.heap.size≤b)∧Bel w w'
abbrev CpyC (f:FuncId):Prop:=∀(s:TStore) (v:VVal) (S:Nat→Prop) (w:World) (vs:List Value),Sp w→Dat.HoldVals w S s.D vs→v.Ok→Dat.lnL s.D≤1048576→Calls Tryd.prog f #[.agg vs.toArray,v.val] w (CpyP w s v)
theorem copOk_eq {s:TStore} {v:VVal}:copOk s (tvOf v)=(validB s&&dataB s v):=rfl
theorem nilSt_own (w:World):Dat.OwnVals w ([]++([]++([]++([]++([]++([]++[])))))) nilSt.D [.slice none 0 0,.slice none 0 0,.slice none 0 0,.slice none 0 0,.string ByteArray.empty,.int .i64 0,.slice none 0 0,.slice none 0 0,.slice none 0 0,.bool false,.int .i64 0,.int .i64 0,.int .i64 0]:=by
 have z:OwnRow w [] 1 none 0 []:=OwnRow.nil w 1 none 0 (Nat.zero_le _)
 have i0:InI 0:=by unfold InI;omega
 exact TStore.own_mk (x0:=[]) (x1:=[]) (x2:=[]) (x3:=[]) (x4:=ByteArray.empty) (x5:=0) (x6:=[]) (x7:=[]) (x8:=[]) (x9:=false) (x10:=0) (x11:=0) (x12:=0) z (OwnRow.nil w 3 none 0 (Nat.zero_le _)) (OwnRow.nil w 5 none 0 (Nat.zero_le _)) (OwnRow.nil w 6 none 0 (Nat.zero_le _)) (by show ByteArray.empty.size≤maxLen;exact Nat.zero_le _) i0 z z (OwnRow.nil w 2 none 0 (Nat.zero_le _)) i0 i0 i0
theorem cpy_fail {w w':World} {s:TStore} {v:VVal} (h:copOk s (tvOf v)=false) (hb:Bel w w'):CpyP w s v (.returned (.tuple #[.agg #[.slice none 0 0,.slice none 0 0,.slice none 0 0,.slice none 0 0,.string ByteArray.empty,.int .i64 0,.slice none 0 0,.slice none 0 0,.slice none 0 0,.bool false,.int .i64 0,.int .i64 0,.int .i64 0],.agg #[.int .i64 0,.int .i64 0,.int .i64 0,.string ByteArray.empty,.int .i64 0,.int .i64 0],.bool false])) w':=by
 refine⟨_,_,?_,by unfold copT;rw[if_neg (by rw[h];exact Bool.false_ne_true)];exact nilSt_own w',by simp,fun b hb=>by simp at hb,hb⟩
 rw[h]
 unfold copW
 rw[if_neg (by rw[h];exact Bool.false_ne_true)]
 rfl
theorem ex_named {Q:Exit→Act→World→Prop} {ex:Exit} {a:Act} {W:World} (h:∀wz,W=wz→Q ex a wz):Q ex a W:=h W rfl
theorem put19 {w6 w7:World} {c z:Nat} {v0 v1 v2 v3 v4 v5 v6 v7 v8 v9 v10 v11 v12 u0 u1 u2 u3 u4 u5 u6 u7 u8 u9 u10 u11 u12 x0 x1 x2 x3 x4 x5:Value} (h:SB w6 c v0 v1 v2 v3 v4 v5 v6 v7 v8 v9 v10 v11 v12) (hz:Z6 w6 z) (hn:z≠c) (hw:(((((((((((((((((((w6.setCell ⟨c,0,none⟩ u0).setCell ⟨c,1,none⟩ u1).setCell ⟨c,2,none⟩ u2).setCell ⟨c,3,none⟩ u3).setCell ⟨c,4,none⟩ u4).setCell ⟨c,5,none⟩ u5).setCell ⟨c,6,none⟩ u6).setCell ⟨c,7,none⟩ u7).setCell ⟨c,8,none⟩ u8).setCell ⟨c,9,none⟩ u9).setCell ⟨c,10,none⟩ u10).setCell ⟨c,11,none⟩ u11).setCell ⟨c,12,none⟩ u12).setCell ⟨z,0,none⟩ x0).setCell ⟨z,1,none⟩ x1).setCell ⟨z,2,none⟩ x2).setCell ⟨z,3,none⟩ x3).setCell ⟨z,4,none⟩ x4).setCell ⟨z,5,none⟩ x5).drew=w7) :
  SB w7 c u0 u1 u2 u3 u4 u5 u6 u7 u8 u9 u10 u11 u12∧(w7.cell? ⟨z,0,none⟩=some x0∧w7.cell? ⟨z,1,none⟩=some x1∧w7.cell? ⟨z,2,none⟩=some x2∧w7.cell? ⟨z,3,none⟩=some x3∧w7.cell? ⟨z,4,none⟩=some x4∧w7.cell? ⟨z,5,none⟩=some x5)∧OffS (fun b=>b≠c∧b≠z) w6 w7:=by
 subst hw
 have hbl:Bel (((((((((((((((((((w6.setCell ⟨c,0,none⟩ u0).setCell ⟨c,1,none⟩ u1).setCell ⟨c,2,none⟩ u2).setCell ⟨c,3,none⟩ u3).setCell ⟨c,4,none⟩ u4).setCell ⟨c,5,none⟩ u5).setCell ⟨c,6,none⟩ u6).setCell ⟨c,7,none⟩ u7).setCell ⟨c,8,none⟩ u8).setCell ⟨c,9,none⟩ u9).setCell ⟨c,10,none⟩ u10).setCell ⟨c,11,none⟩ u11).setCell ⟨c,12,none⟩ u12).setCell ⟨z,0,none⟩ x0).setCell ⟨z,1,none⟩ x1).setCell ⟨z,2,none⟩ x2).setCell ⟨z,3,none⟩ x3).setCell ⟨z,4,none⟩ x4).setCell ⟨z,5,none⟩ x5) (((((((((((((((((((w6.setCell ⟨c,0,none⟩ u0).setCell ⟨c,1,none⟩ u1).setCell ⟨c,2,none⟩ u2).setCell ⟨c,3,none⟩ u3).setCell ⟨c,4,none⟩ u4).setCell ⟨c,5,none⟩ u5).setCell ⟨c,6,none⟩ u6).setCell ⟨c,7,none⟩ u7).setCell ⟨c,8,none⟩ u8).setCell ⟨c,9,none⟩ u9).setCell ⟨c,10,none⟩ u10).setCell ⟨c,11,none⟩ u11).setCell ⟨c,12,none⟩ u12).setCell ⟨z,0,none⟩ x0).setCell ⟨z,1,none⟩ x1).setCell ⟨z,2,none⟩ x2).setCell ⟨z,3,none⟩ x3).setCell ⟨z,4,none⟩ x4).setCell ⟨z,5,none⟩ x5).drew:=bl
 have hZ:Z6 (((((((((((((w6.setCell ⟨c,0,none⟩ u0).setCell ⟨c,1,none⟩ u1).setCell ⟨c,2,none⟩ u2).setCell ⟨c,3,none⟩ u3).setCell ⟨c,4,none⟩ u4).setCell ⟨c,5,none⟩ u5).setCell ⟨c,6,none⟩ u6).setCell ⟨c,7,none⟩ u7).setCell ⟨c,8,none⟩ u8).setCell ⟨c,9,none⟩ u9).setCell ⟨c,10,none⟩ u10).setCell ⟨c,11,none⟩ u11).setCell ⟨c,12,none⟩ u12) z:=by
  have hB:ButB c w6 (((((((((((((w6.setCell ⟨c,0,none⟩ u0).setCell ⟨c,1,none⟩ u1).setCell ⟨c,2,none⟩ u2).setCell ⟨c,3,none⟩ u3).setCell ⟨c,4,none⟩ u4).setCell ⟨c,5,none⟩ u5).setCell ⟨c,6,none⟩ u6).setCell ⟨c,7,none⟩ u7).setCell ⟨c,8,none⟩ u8).setCell ⟨c,9,none⟩ u9).setCell ⟨c,10,none⟩ u10).setCell ⟨c,11,none⟩ u11).setCell ⟨c,12,none⟩ u12):=(((((((((((((ButB.set ⟨rfl,rfl,rfl,rfl,fun _ _=>rfl⟩ 0 u0).set 1 u1).set 2 u2).set 3 u3).set 4 u4).set 5 u5).set 6 u6).set 7 u7).set 8 u8).set 9 u9).set 10 u10).set 11 u11).set 12 u12)
  have hs:=hB.size
  exact hz.block (by omega) (hB.block z hn)
 obtain⟨d0,d1,d2,d3,d4,d5⟩:=hZ.put x0 x1 x2 x3 x4 x5
 unfold put6 at d0 d1 d2 d3 d4 d5
 have hlt:z<((((((((((((((((((((w6.setCell ⟨c,0,none⟩ u0).setCell ⟨c,1,none⟩ u1).setCell ⟨c,2,none⟩ u2).setCell ⟨c,3,none⟩ u3).setCell ⟨c,4,none⟩ u4).setCell ⟨c,5,none⟩ u5).setCell ⟨c,6,none⟩ u6).setCell ⟨c,7,none⟩ u7).setCell ⟨c,8,none⟩ u8).setCell ⟨c,9,none⟩ u9).setCell ⟨c,10,none⟩ u10).setCell ⟨c,11,none⟩ u11).setCell ⟨c,12,none⟩ u12).setCell ⟨z,0,none⟩ x0).setCell ⟨z,1,none⟩ x1).setCell ⟨z,2,none⟩ x2).setCell ⟨z,3,none⟩ x3).setCell ⟨z,4,none⟩ x4).setCell ⟨z,5,none⟩ x5)).heap.size:=by simpa using hz.2.2.2.2.2.2.2
 refine⟨SB.on (((((((((((((((((((h.put0 u0).put1 u1).put2 u2).put3 u3).put4 u4).put5 u5).put6 u6).put7 u7).put8 u8).put9 u9).put10 u10).put11 u11).put12 u12).far 0 x0 hn).far 1 x1 hn).far 2 x2 hn).far 3 x3 hn).far 4 x4 hn).far 5 x5 hn) hbl,⟨(hbl.box z hlt 0).trans d0,(hbl.box z hlt 1).trans d1,(hbl.box z hlt 2).trans d2,(hbl.box z hlt 3).trans d3,(hbl.box z hlt 4).trans d4,(hbl.box z hlt 5).trans d5⟩,OffS.bel (OffS.set (OffS.set (OffS.set (OffS.set (OffS.set (OffS.set (OffS.set (OffS.set (OffS.set (OffS.set (OffS.set (OffS.set (OffS.set (OffS.set (OffS.set (OffS.set (OffS.set (OffS.set (OffS.set (OffS.refl (fun b=>b≠c∧b≠z) w6) (fun q=>q.1 rfl) u0) (fun q=>q.1 rfl) u1) (fun q=>q.1 rfl) u2) (fun q=>q.1 rfl) u3) (fun q=>q.1 rfl) u4) (fun q=>q.1 rfl) u5) (fun q=>q.1 rfl) u6) (fun q=>q.1 rfl) u7) (fun q=>q.1 rfl) u8) (fun q=>q.1 rfl) u9) (fun q=>q.1 rfl) u10) (fun q=>q.1 rfl) u11) (fun q=>q.1 rfl) u12) (fun q=>q.2 rfl) x0) (fun q=>q.2 rfl) x1) (fun q=>q.2 rfl) x2) (fun q=>q.2 rfl) x3) (fun q=>q.2 rfl) x4) (fun q=>q.2 rfl) x5) hbl⟩
end Go.Proofs.YtoikhhnmbbbjjaaDoor
namespace Go.Proofs.YtoikhhnmbbbjjaaDoor
set_option linter.unusedVariables false
set_option linter.unusedSimpArgs false
set_option maxRecDepth 100000
open Go.RowKit
theorem copOk_in {s:TStore} {v:VVal}:copOk s (tvOf v)=(inV s v&&dataB s v):=by
 rw[copOk_eq]
 unfold inV dataB
 cases validB s <;> cases inB s v <;> simp
set_option maxHeartbeats 4000000 in
theorem specCpy_any:CpyC 7:=by
 intro s v S w vs htab hv hx hwt
 have HX:=hide hx
 have HT:=hide htab
 have HV:=hide hv
 have HWT:=hide hwt
 obtain⟨x0,x1,x2,x3,x4,x5,x6,x7,x8,x9,x10,x11,x12⟩:=s
 obtain⟨A0,c0,A1,c1,A2,c2,A3,c3,A6,c6,A7,c7,A8,c8,rfl,g0,g1,g2,g3,g4,g5,g6,g7,g8,-,g10,g11,g12⟩:=TStore.vals hv
 have HG:=hide (show x4.size≤maxLen∧InI x5∧InI x10∧InI x11∧InI x12 from⟨g4,g5,g10,g11,g12⟩)
 rw[TStore.D_mk]at hwt
 simp only[Dat.lnL,Dat.ln,List.length_map]at hwt
 have hlc0:=g0.1
 have hcm0:=g0.2.1
 simp only[List.length_map]at hlc0
 unfold maxLen at hcm0
 have hlc1:=g1.1
 have hcm1:=g1.2.1
 simp only[List.length_map]at hlc1
 unfold maxLen at hcm1
 have hlc2:=g2.1
 have hcm2:=g2.2.1
 simp only[List.length_map]at hlc2
 unfold maxLen at hcm2
 have hlc3:=g3.1
 have hcm3:=g3.2.1
 simp only[List.length_map]at hlc3
 unfold maxLen at hcm3
 have hlc6:=g6.1
 have hcm6:=g6.2.1
 simp only[List.length_map]at hlc6
 unfold maxLen at hcm6
 have hlc7:=g7.1
 have hcm7:=g7.2.1
 simp only[List.length_map]at hlc7
 unfold maxLen at hcm7
 have hlc8:=g8.1
 have hcm8:=g8.2.1
 simp only[List.length_map]at hlc8
 unfold maxLen at hcm8
 have HSZ:=hide (show ∀(j:Nat) (h:j<x2.length),x2[j].its.length≤1048576∧x2[j].kys.length≤1048576 from fun j h=>by have:=wt_objs x2 j h;omega)
 have hl2:x2.length≤1048576:=by omega
 obtain⟨k,n,i,t,lo,hi⟩:=v
 simp only[VVal.val]
 have HX6:=hide (HX.out.k)
 clear hv htab hx hwt g0 g1 g2 g3 g4 g5 g6 g7 g8 g10 g11 g12
 obtain⟨bi,hbi⟩:∃q,inV (TStore.mk x0 x1 x2 x3 x4 x5 x6 x7 x8 x9 x10 x11 x12) ⟨k,n,i,t,lo,hi⟩=q:=⟨_,rfl⟩
 obtain⟨bd,hbd⟩:∃q,dataB (TStore.mk x0 x1 x2 x3 x4 x5 x6 x7 x8 x9 x10 x11 x12) ⟨k,n,i,t,lo,hi⟩=q:=⟨_,rfl⟩
 have HI:=hide hbi
 have HD:=hide hbd
 clear hbi hbd
 obtain⟨ok,hok⟩:∃q,copOk (TStore.mk x0 x1 x2 x3 x4 x5 x6 x7 x8 x9 x10 x11 x12) (tvOf ⟨k,n,i,t,lo,hi⟩)=q:=⟨_,rfl⟩
 have HO:=hide hok
 have hob:ok=(bi&&bd):=by rw[←hok,←HI.out,←HD.out];exact copOk_in
 have HOB:=hide hob
 clear hok hob
 go_enter Tryd.func7,Tryd.ntmps7
 go_upto_region 1 with (fail)
 refine wp_named2 fun w1 hw1=>?_
 have hbw:Bel w w1:=by rw[←hw1];exact bl
 obtain⟨a1,ha1⟩:∃x,w.alloc (.cells #[.slice A0 x0.length c0,.slice A1 x1.length c1,.slice A2 x2.length c2,.slice A3 x3.length c3,.string x4,.int .i64 x5,.slice A6 x6.length c6,.slice A7 x7.length c7,.slice A8 x8.length c8,.bool x9,.int .i64 x10,.int .i64 x11,.int .i64 x12] 30)=x:=⟨_,rfl⟩
 obtain⟨a2,ha2⟩:∃x,a1.alloc (.cells #[.int .i64 k,.int .i64 n,.int .i64 i,.string t,.int .i64 lo,.int .i64 hi] 34)=x:=⟨_,rfl⟩
 obtain⟨a3,ha3⟩:∃x,a2.alloc (.cells #[.slice none 0 0,.slice none 0 0,.slice none 0 0,.slice none 0 0,.string ByteArray.empty,.int .i64 0,.slice none 0 0,.slice none 0 0,.slice none 0 0,.bool false,.int .i64 0,.int .i64 0,.int .i64 0] 30)=x:=⟨_,rfl⟩
 replace hw1:a3.alloc (.cells #[.int .i64 0,.int .i64 0,.int .i64 0,.string ByteArray.empty,.int .i64 0,.int .i64 0] 34)=w1:=by rw[←ha3,←ha2,←ha1];exact hw1
 have q1:a1.heap.size=w.heap.size+1:=by rw[←ha1];simp
 have q2:a2.heap.size=w.heap.size+1+1:=by rw[←ha2];simp[q1]
 have q3:a3.heap.size=w.heap.size+1+1+1:=by rw[←ha3];simp[q2]
 have e1:Bel a1 w1:=by rw[←hw1,←ha3,←ha2];exact bl
 have e2:Bel a2 w1:=by rw[←hw1,←ha3];exact bl
 have e3:Bel a3 w1:=by rw[←hw1];exact bl
 have HA:=hide (show SB w1 (w.heap.size) (.slice A0 x0.length c0) (.slice A1 x1.length c1) (.slice A2 x2.length c2) (.slice A3 x3.length c3) (.string x4) (.int .i64 x5) (.slice A6 x6.length c6) (.slice A7 x7.length c7) (.slice A8 x8.length c8) (.bool x9) (.int .i64 x10) (.int .i64 x11) (.int .i64 x12)from SB.on (by rw[←ha1];exact SB.new _ _) e1)
 have HSt:=hide (show StoreAt w1 S (w.heap.size) (TStore.mk x0 x1 x2 x3 x4 x5 x6 x7 x8 x9 x10 x11 x12)from StoreAt.bel e1 (by rw[←ha1];exact StoreAt.mk_of (HV.out) rfl))
 have HB:=hide (show VB w1 (w.heap.size+1) k n i t lo hi from VB.on (by rw[←ha2,←q1];exact⟨by simp,by simp[go_sem],by simp[go_sem],by simp[go_sem],by simp[go_sem],by simp[go_sem],by simp[go_sem]⟩) e2)
 have HC:=hide (show SB w1 (w.heap.size+1+1) (.slice none 0 0) (.slice none 0 0) (.slice none 0 0) (.slice none 0 0) (.string ByteArray.empty) (.int .i64 0) (.slice none 0 0) (.slice none 0 0) (.slice none 0 0) (.bool false) (.int .i64 0) (.int .i64 0) (.int .i64 0)from SB.on (by rw[←ha3,←q2];exact SB.new _ _) e3)
 have HZ:=hide (show Z6 w1 (w.heap.size+1+1+1)from by rw[←hw1,←q3];exact Z6.new)
 clear q1 q2 q3 e1 e2 e3 hw1 ha1 ha2 ha3 a1 a2 a3
 obtain⟨hla,hfa,ka_0,ka_1,ka_2,ka_3,ka_4,ka_5,ka_6,ka_7,ka_8,ka_9,ka_10,ka_11,ka_12⟩:=HA.out
 obtain⟨hlv,y0,y1,y2,y3,y4,y5⟩:=HB.out
 go_cut [17]from 9 (fun c wx=>c=.bool (!ok)∧Bel w1 wx)
 case first =>
  skip
  cases bi
  ·
   have hoq:=HOB.out
   simp only[Bool.false_and]at hoq
   subst hoq
   go_wp2_with (go_at_call 8;refine (specValueIn_any (TStore.mk x0 x1 x2 x3 x4 x5 x6 x7 x8 x9 x10 x11 x12) ⟨k,n,i,t,lo,hi⟩ S _ _ (Dat.HoldVals.bel hbw HV.out) HX.out).mono ?_;rintro e w2 ⟨rfl,hb2⟩;rw[HI.out];obtain⟨hlv2,z0,z1,z2,z3,z4,z5⟩:=HB.out.on hb2)
   all_goals go_meet
   all_goals exact⟨rfl,hb2⟩
  ·
   cases bd
   ·
    have hoq:=HOB.out
    simp only[Bool.and_false]at hoq
    exact rk145
   ·
    have hoq:=HOB.out
    simp only[Bool.and_true]at hoq
    exact rk145
 clear hla hfa ka_0 ka_1 ka_2 ka_3 ka_4 ka_5 ka_6 ka_7 ka_8 ka_9 ka_10 ka_11 ka_12
 case rest =>
  obtain⟨rfl,hb3⟩:=hcut
  obtain⟨w3,rfl⟩:∃w3,w3=wc:=⟨_,rfl⟩
  have hbw3:=hbw.trans hb3
  have HA3:=hide (HA.out.on hb3)
  have HB3:=hide (HB.out.on hb3)
  have HC3:=hide (HC.out.on hb3)
  have HZ3:=hide (HZ.out.on hb3)
  have hz3:=hb3.size
  have hw3z:w.heap.size+1+1+1<w3.heap.size:=HZ3.out.2.2.2.2.2.2.2
  clear HA HB HC HZ HSt hb3
  (try clear hla hfa ka_0 ka_1 ka_2 ka_3 ka_4 ka_5 ka_6 ka_7 ka_8 ka_9 ka_10 ka_11 ka_12 hlv y0 y1 y2 y3 y4 y5)
  cases ok
  ·
   skip
   obtain⟨hlc,hfc,kc_0,kc_1,kc_2,kc_3,kc_4,kc_5,kc_6,kc_7,kc_8,kc_9,kc_10,kc_11,kc_12⟩:=HC3.out
   obtain⟨cz0,cz1,cz2,cz3,cz4,cz5,cz6,cz7⟩:=HZ3.out
   (try simp only[Bool.not_false])
   go_wp2_with (fail)
   all_goals exact bodyPost_ret (v:=.tuple #[.agg #[.slice none 0 0,.slice none 0 0,.slice none 0 0,.slice none 0 0,.string ByteArray.empty,.int .i64 0,.slice none 0 0,.slice none 0 0,.slice none 0 0,.bool false,.int .i64 0,.int .i64 0,.int .i64 0],.agg #[.int .i64 0,.int .i64 0,.int .i64 0,.string ByteArray.empty,.int .i64 0,.int .i64 0],.bool false]) (by simp[results,Tryd.results7,go_sem, * ];try rfl) rfl (cpy_fail HO.out bl)
  ·
   skip
   (try simp only[Bool.not_true])
   have hbd:bd=true:=by have h:=HOB.out;revert h;cases bi <;> cases bd <;> decide
   subst hbd
   obtain⟨hla,hfa,ka_0,ka_1,ka_2,ka_3,ka_4,ka_5,ka_6,ka_7,ka_8,ka_9,ka_10,ka_11,ka_12⟩:=HA3.out
   obtain⟨hlv,y0,y1,y2,y3,y4,y5⟩:=HB3.out
   go_upto_region 4 with (go_at_call 16;refine (specClone_any x0 x1 x2 x3 x4 x5 x6 x7 x8 x9 x10 x11 x12 S _ _ (Dat.HoldVals.bel hbw3 HV.out) HWT.out).mono ?_;rintro e w4 ⟨v0,v1,v2,v3,v6,v7,v8,L0,L1,L2,L3,L6,L7,L8,rfl,hE,hb4⟩;obtain⟨B0,d0,-,e0,-⟩:=(hE.own ⟨9,1,v0,L0,x0.map (fun x=>[Dat.str x])⟩ (by simp)).ownRow;simp only[List.length_map]at e0;subst e0;obtain⟨B1,d1,-,e1,-⟩:=(hE.own ⟨71,3,v1,L1,x1.map TRecordType.D⟩ (by simp)).ownRow;simp only[List.length_map]at e1;subst e1;obtain⟨B2,d2,-,e2,-⟩:=(hE.own ⟨42,5,v2,L2,x2.map TObject.D⟩ (by simp)).ownRow;simp only[List.length_map]at e2;subst e2;obtain⟨B3,d3,-,e3,-⟩:=(hE.own ⟨34,6,v3,L3,x3.map TValue.D⟩ (by simp)).ownRow;simp only[List.length_map]at e3;subst e3;obtain⟨B6,d6,-,e6,-⟩:=(hE.own ⟨9,1,v6,L6,x6.map (fun x=>[Dat.str x])⟩ (by simp)).ownRow;simp only[List.length_map]at e6;subst e6;obtain⟨B7,d7,-,e7,-⟩:=(hE.own ⟨9,1,v7,L7,x7.map (fun x=>[Dat.str x])⟩ (by simp)).ownRow;simp only[List.length_map]at e7;subst e7;obtain⟨B8,d8,-,e8,-⟩:=(hE.own ⟨53,2,v8,L8,x8.map TActive.D⟩ (by simp)).ownRow;simp only[List.length_map]at e8;subst e8;have HE:=hide hE;clear hE)
   refine wp_named2 fun wr hwr=>?_
   have hb4r:Bel w4 wr:=by rw[←hwr];exact bl
   have hb3r:=hb4.trans hb4r
   have SR:=(show SB wr w4.heap.size (.slice B0 x0.length d0) (.slice B1 x1.length d1) (.slice B2 x2.length d2) (.slice B3 x3.length d3) (.string x4) (.int .i64 x5) (.slice B6 x6.length d6) (.slice B7 x7.length d7) (.slice B8 x8.length d8) (.bool x9) (.int .i64 x10) (.int .i64 x11) (.int .i64 x12)from by rw[←hwr];exact SB.new _ _)
   have hzr:w4.heap.size<wr.heap.size:=SR.1
   clear hwr
   clear hla hfa ka_0 ka_1 ka_2 ka_3 ka_4 ka_5 ka_6 ka_7 ka_8 ka_9 ka_10 ka_11 ka_12
   clear hlv y0 y1 y2 y3 y4 y5
   have HMK:=hide (show MkS w3.heap.size wr w4.heap.size (.slice B0 x0.length d0) (.slice B1 x1.length d1) (.slice B2 x2.length d2) (.slice B3 x3.length d3) (.string x4) (.int .i64 x5) (.slice B6 x6.length d6) (.slice B7 x7.length d7) (.slice B8 x8.length d8) (.bool x9) (.int .i64 x10) (.int .i64 x11) (.int .i64 x12) [⟨9,1,.slice B0 x0.length d0,L0,x0.map (fun x=>[Dat.str x])⟩,⟨71,3,.slice B1 x1.length d1,L1,x1.map TRecordType.D⟩] [⟨34,6,.slice B3 x3.length d3,L3,x3.map TValue.D⟩,⟨9,1,.slice B6 x6.length d6,L6,x6.map (fun x=>[Dat.str x])⟩,⟨9,1,.slice B7 x7.length d7,L7,x7.map (fun x=>[Dat.str x])⟩,⟨53,2,.slice B8 x8.length d8,L8,x8.map TActive.D⟩] L2 (x2.map TObject.D)from⟨SR,HE.out.bel hb4r,fun f hf hc=>Nat.lt_irrefl _ ((HE.out.own f hf).lt _ hc)⟩)
   have hv2:∀b,Value.ownBlock (.slice B2 x2.length d2)=some b→w3.heap.size≤b:=fun b hb=>HE.out.low ⟨42,5,.slice B2 x2.length d2,L2,x2.map TObject.D⟩ (by simp) b (Or.inl hb)
   have HV2:=hide hv2
   have hz4:=hb4.size
   clear SR HE hv2
   generalize w4.heap.size=q at HMK hzr hz4 ⊢
   have hw3w:w.heap.size≤w3.heap.size:=by omega
   have HB4:=hide (HB3.out.on hb3r)
   have HC4:=hide (HC3.out.on hb3r)
   have HZ4:=hide (HZ3.out.on hb3r)
   have hbwr:=hbw3.trans hb3r
   have hzrr:=hb3r.size
   clear HA3 HB3 HC3 HZ3 hb4 hb4r hb3r hbw3 w4
   obtain⟨hlv,y0,y1,y2,y3,y4,y5⟩:=HB4.out
   go_upto_region 5 with (go_at_call 17;refine (specCopy_any w3.heap.size wr q (.slice B0 x0.length d0) (.slice B1 x1.length d1) (.slice B2 x2.length d2) (.slice B3 x3.length d3) (.string x4) (.int .i64 x5) (.slice B6 x6.length d6) (.slice B7 x7.length d7) (.slice B8 x8.length d8) (.bool x9) (.int .i64 x10) (.int .i64 x11) x12 [⟨9,1,.slice B0 x0.length d0,L0,x0.map (fun x=>[Dat.str x])⟩,⟨71,3,.slice B1 x1.length d1,L1,x1.map TRecordType.D⟩] [⟨34,6,.slice B3 x3.length d3,L3,x3.map TValue.D⟩,⟨9,1,.slice B6 x6.length d6,L6,x6.map (fun x=>[Dat.str x])⟩,⟨9,1,.slice B7 x7.length d7,L7,x7.map (fun x=>[Dat.str x])⟩,⟨53,2,.slice B8 x8.length d8,L8,x8.map TActive.D⟩] L2 x2 k n i t lo hi HMK.out (fun hc=>dataB_obj HD.out hc) hl2 HSZ.out (by omega)).mono ?_;intro e w5 hP;obtain⟨yy,LL,rfl,hM5,ho5⟩:=hP.out HMK.out;simp only[VVal.val];have HM5:=hide hM5;have HO5:=hide ho5;clear hP hM5 ho5)
   refine wp_named2 fun w6 hw6=>?_
   have hb56:Bel w5 w6:=by rw[←hw6];exact bl
   clear hlv y0 y1 y2 y3 y4 y5
   obtain⟨By,dy,-,ey,-⟩:=(HM5.out.ents.own ⟨42,5,yy,LL,(copO x2 x12 k n).map TObject.D⟩ (by simp)).ownRow
   simp only[List.length_map]at ey
   subst ey
   obtain⟨vv,hvv⟩:∃x,copVV x2 ⟨k,n,i,t,lo,hi⟩=x:=⟨_,rfl⟩
   rw[hvv]at hw6 ⊢
   have HVV:=hide hvv
   clear hvv
   obtain⟨vk,vn,vi,vt,vlo,vhi⟩:=vv
   simp only at hw6 ⊢
   have HB8:=hide (show VB w6 w5.heap.size vk vn vi vt vlo vhi from by rw[←hw6];exact⟨by simp,by simp[go_sem],by simp[go_sem],by simp[go_sem],by simp[go_sem],by simp[go_sem],by simp[go_sem]⟩)
   clear hw6
   have h5z:=HO5.out.size
   have hq5:q<w5.heap.size:=HM5.out.box.1
   have HM6:=hide (HM5.out.on hb56)
   have hO6:=HO5.out.bel hb56
   have HO6:=hide hO6
   have HC6:=hide (HC4.out.block hO6.size (hO6.block (w.heap.size+1+1) ⟨by omega,fun e=>by have:=HV2.out _ e;omega⟩ (by omega)))
   have HZ6:=hide (HZ4.out.block hO6.size (hO6.block (w.heap.size+1+1+1) ⟨by omega,fun e=>by have:=HV2.out _ e;omega⟩ (by omega)))
   have hbw6:=hO6.toBel hbwr (fun x hx=>⟨by omega,fun e=>by have:=HV2.out _ e;omega⟩)
   clear HM5 HC4 HZ4 HB4 HMK HO5 hO6
   generalize w5.heap.size=b8 at HB8 hq5 ⊢
   obtain⟨hlq,hfq,kq_0,kq_1,kq_2,kq_3,kq_4,kq_5,kq_6,kq_7,kq_8,kq_9,kq_10,kq_11,kq_12⟩:=HM6.out.box
   obtain⟨hlv,y0,y1,y2,y3,y4,y5⟩:=HB8.out
   obtain⟨hlc,hfc,kc_0,kc_1,kc_2,kc_3,kc_4,kc_5,kc_6,kc_7,kc_8,kc_9,kc_10,kc_11,kc_12⟩:=HC6.out
   obtain⟨cz0,cz1,cz2,cz3,cz4,cz5,cz6,cz7⟩:=HZ6.out
   go_region
   refine ex_named (Q:=Exit.then _ _) fun w7 hw7=>?_
   obtain⟨S7,⟨m0,m1,m2,m3,m4,m5⟩,o7⟩:=put19 HC6.out HZ6.out (by omega) hw7
   clear hw7
   obtain⟨-,-,s0,s1,s2,s3,s4,s5,s6,s7,s8,s9,s10,s11,s12⟩:=S7
   have hE7:Ents w3.heap.size w7 [⟨9,1,.slice B0 x0.length d0,L0,x0.map (fun x=>[Dat.str x])⟩,⟨71,3,.slice B1 x1.length d1,L1,x1.map TRecordType.D⟩,⟨42,5,.slice By (copO x2 x12 k n).length dy,LL,(copO x2 x12 k n).map TObject.D⟩,⟨34,6,.slice B3 x3.length d3,L3,x3.map TValue.D⟩,⟨9,1,.slice B6 x6.length d6,L6,x6.map (fun x=>[Dat.str x])⟩,⟨9,1,.slice B7 x7.length d7,L7,x7.map (fun x=>[Dat.str x])⟩,⟨53,2,.slice B8 x8.length d8,L8,x8.map TActive.D⟩]:=HM6.out.ents.keep o7.size fun e he x hx=>by have h1:=HM6.out.ents.low e he x hx;exact o7.block x ⟨by omega,by omega⟩ ((HM6.out.ents.own e he).lt x hx)
   obtain⟨LF,hOF,hNF,hLF⟩:=ents_own hE7 HG.out.1 HG.out.2.1 HG.out.2.2.1 HG.out.2.2.2.1 (copM_ok (k:=k) HG.out.2.2.2.2)
   have hbw7:=o7.toBel hbw6 (fun x hx=>⟨by omega,by omega⟩)
   have HOF:=hide hOF
   have HLF:=hide (show ∀b,b∈LF→w.heap.size≤b from fun b hb=>by have:=hLF b hb;omega)
   have HNF:=hide hNF
   (try clear hOF)
   (try clear hLF)
   (try clear hNF)
   (try clear hlq)
   (try clear hfq)
   (try clear kq_0)
   (try clear kq_1)
   (try clear kq_2)
   (try clear kq_3)
   (try clear kq_4)
   (try clear kq_5)
   (try clear kq_6)
   (try clear kq_7)
   (try clear kq_8)
   (try clear kq_9)
   (try clear kq_10)
   (try clear kq_11)
   (try clear kq_12)
   (try clear hlv)
   (try clear y0)
   (try clear y1)
   (try clear y2)
   (try clear y3)
   (try clear y4)
   (try clear y5)
   (try clear hlc)
   (try clear hfc)
   (try clear kc_0)
   (try clear kc_1)
   (try clear kc_2)
   (try clear kc_3)
   (try clear kc_4)
   (try clear kc_5)
   (try clear kc_6)
   (try clear kc_7)
   (try clear kc_8)
   (try clear kc_9)
   (try clear kc_10)
   (try clear kc_11)
   (try clear kc_12)
   (try clear cz0)
   (try clear cz1)
   (try clear cz2)
   (try clear cz3)
   (try clear cz4)
   (try clear cz5)
   (try clear cz6)
   (try clear cz7)
   go_wp2_with (fail)
   exact bodyPost_ret (v:=.tuple #[.agg #[.slice B0 x0.length d0,.slice B1 x1.length d1,.slice By (copO x2 x12 k n).length dy,.slice B3 x3.length d3,.string x4,.int .i64 x5,.slice B6 x6.length d6,.slice B7 x7.length d7,.slice B8 x8.length d8,.bool x9,.int .i64 x10,.int .i64 x11,.int .i64 (copM x12 k)],.agg #[.int .i64 vk,.int .i64 vn,.int .i64 vi,.string vt,.int .i64 vlo,.int .i64 vhi],.bool true]) (by simp[results,Tryd.results7,go_sem,s0,s1,s2,s3,s4,s5,s6,s7,s8,s9,s10,s11,s12,m0,m1,m2,m3,m4,m5];try rfl) rfl ⟨_,LF,by rw[HO.out];unfold copW;rw[if_pos HO.out,copV_eq,HVV.out];rfl,by unfold copT;rw[if_pos HO.out,copS_eq];exact HOF.out,HNF.out,HLF.out,hbw7⟩
end Go.Proofs.YtoikhhnmbbbjjaaDoor
