/- The data of further types of the program (RecordType, Value, Object, Active, Store, Generator). -/
import Derived.Test.YtoikhhnmbbbjjaaDoorPB
namespace Go.Proofs.YtoikhhnmbbbjjaaDoor
set_option linter.unusedVariables false
set_option linter.unusedSimpArgs false
set_option maxRecDepth 100000
open Go.ChangeShapes Go.WideShapes Go.RowKit Go.Deep
inductive TRecordType where
 | mk (Name:ByteArray) (Fields:List ByteArray) (Line:Int)
def TRecordType.D:TRecordType→List Dat
 | .mk x0 x1 x2=>[.str x0,.row 1 (x1.map fun x=>[.str x]),.int x2]
theorem TRecordType.D_mk {x0:ByteArray} {x1:List ByteArray} {x2:Int}:(TRecordType.mk x0 x1 x2).D=[.str x0,.row 1 (x1.map fun x=>[.str x]),.int x2]:=by
 simp only[TRecordType.D]
theorem TRecordType.D_len:∀t:TRecordType,t.D.length=3
 | .mk x0 x1 x2=>by rw[TRecordType.D_mk];rfl
theorem TRecordType.vals {w:World} {S:Nat→Prop} {x0:ByteArray} {x1:List ByteArray} {x2:Int} {vs:List Value} (h:Dat.HoldVals w S (TRecordType.mk x0 x1 x2).D vs):∃Ax1 cx1,vs=[.string x0,.slice Ax1 x1.length cx1,.int .i64 x2]∧x0.size≤maxLen∧Row w S 1 Ax1 cx1 (x1.map fun x=>[.str x])∧InI x2:=by
 rw[TRecordType.D_mk]at h
 match vs,h with
 | [u0,u1,u2],h =>
  obtain⟨h0,h1,h2,-⟩:=h
  obtain⟨rfl,g0⟩:=Dat.holds_str.1 h0
  obtain⟨Ax1,cx1,rfl,g1⟩:=Dat.holds_row.1 h1
  obtain⟨rfl,g2⟩:=Dat.holds_int.1 h2
  exact⟨Ax1,cx1,by simp only[List.length_map],g0,g1,g2⟩
theorem TRecordType.vals_mk {w:World} {S:Nat→Prop} {x0:ByteArray} {x1:List ByteArray} {x2:Int} {Ax1:Option Addr} {cx1:Nat} (h0:x0.size≤maxLen) (h1:Row w S 1 Ax1 cx1 (x1.map fun x=>[.str x])) (h2:InI x2):Dat.HoldVals w S (TRecordType.mk x0 x1 x2).D [.string x0,.slice Ax1 x1.length cx1,.int .i64 x2]:=by
 rw[TRecordType.D_mk]
 exact⟨Dat.holds_str.2 ⟨rfl,h0⟩,Dat.holds_row.2 ⟨_,_,by simp only[List.length_map],h1⟩,Dat.holds_int.2 ⟨rfl,h2⟩,trivial⟩
theorem TRecordType.at {w:World} {S:Nat→Prop} {A:Option Addr} {c:Nat} {l:List TRecordType} (h:Row w S 3 A c (l.map TRecordType.D)) (i:Nat) (hi:i<l.length) :
  ∃b o x0 x1 x2 Ax1 cx1,A=some ⟨b,o,none⟩∧S b∧b<w.heap.size∧l[i]=.mk x0 x1 x2∧Dat.HoldVals w S l[i].D [.string x0,.slice Ax1 x1.length cx1,.int .i64 x2]∧x0.size≤maxLen∧Row w S 1 Ax1 cx1 (x1.map fun x=>[.str x])∧InI x2∧w.cell? ⟨b,o+i*3,none⟩=some (.string x0)∧w.cell? ⟨b,o+i*3+1,none⟩=some (.slice Ax1 x1.length cx1)∧w.cell? ⟨b,o+i*3+2,none⟩=some (.int .i64 x2):=by
 obtain⟨b,o,vs,hA,hS,hb,hv,hl,hc⟩:=Row.at h i (by simpa using hi)
 rw[List.getElem_map]at hv
 obtain⟨x0,x1,x2,hx⟩:∃x0 x1 x2,l[i]=.mk x0 x1 x2:=by cases l[i];exact⟨_,_,_,rfl⟩
 have hv2:=hv
 rw[hx]at hv2
 obtain⟨Ax1,cx1,rfl,g0,g1,g2⟩:=TRecordType.vals hv2
 exact⟨b,o,_,_,_,_,_,hA,hS,hb,hx,hv,g0,g1,g2,by simpa using hc 0 (by decide),by simpa using hc 1 (by decide),by simpa using hc 2 (by decide)⟩
inductive TValue where
 | mk (Kind:Int) (Number:Int) (Index:Int) (Text:ByteArray) (SetLow:Int) (SetHigh:Int)
def TValue.D:TValue→List Dat
 | .mk x0 x1 x2 x3 x4 x5=>[.int x0,.int x1,.int x2,.str x3,.int x4,.int x5]
theorem TValue.D_mk {x0:Int} {x1:Int} {x2:Int} {x3:ByteArray} {x4:Int} {x5:Int}:(TValue.mk x0 x1 x2 x3 x4 x5).D=[.int x0,.int x1,.int x2,.str x3,.int x4,.int x5]:=by
 simp only[TValue.D]
theorem TValue.D_len:∀t:TValue,t.D.length=6
 | .mk x0 x1 x2 x3 x4 x5=>by rw[TValue.D_mk];rfl
theorem TValue.vals {w:World} {S:Nat→Prop} {x0:Int} {x1:Int} {x2:Int} {x3:ByteArray} {x4:Int} {x5:Int} {vs:List Value} (h:Dat.HoldVals w S (TValue.mk x0 x1 x2 x3 x4 x5).D vs):vs=[.int .i64 x0,.int .i64 x1,.int .i64 x2,.string x3,.int .i64 x4,.int .i64 x5]∧InI x0∧InI x1∧InI x2∧x3.size≤maxLen∧InI x4∧InI x5:=by
 rw[TValue.D_mk]at h
 match vs,h with
 | [u0,u1,u2,u3,u4,u5],h =>
  obtain⟨h0,h1,h2,h3,h4,h5,-⟩:=h
  obtain⟨rfl,g0⟩:=Dat.holds_int.1 h0
  obtain⟨rfl,g1⟩:=Dat.holds_int.1 h1
  obtain⟨rfl,g2⟩:=Dat.holds_int.1 h2
  obtain⟨rfl,g3⟩:=Dat.holds_str.1 h3
  obtain⟨rfl,g4⟩:=Dat.holds_int.1 h4
  obtain⟨rfl,g5⟩:=Dat.holds_int.1 h5
  exact⟨rfl,g0,g1,g2,g3,g4,g5⟩
theorem TValue.vals_mk {w:World} {S:Nat→Prop} {x0:Int} {x1:Int} {x2:Int} {x3:ByteArray} {x4:Int} {x5:Int} (h0:InI x0) (h1:InI x1) (h2:InI x2) (h3:x3.size≤maxLen) (h4:InI x4) (h5:InI x5):Dat.HoldVals w S (TValue.mk x0 x1 x2 x3 x4 x5).D [.int .i64 x0,.int .i64 x1,.int .i64 x2,.string x3,.int .i64 x4,.int .i64 x5]:=by
 rw[TValue.D_mk]
 exact⟨Dat.holds_int.2 ⟨rfl,h0⟩,Dat.holds_int.2 ⟨rfl,h1⟩,Dat.holds_int.2 ⟨rfl,h2⟩,Dat.holds_str.2 ⟨rfl,h3⟩,Dat.holds_int.2 ⟨rfl,h4⟩,Dat.holds_int.2 ⟨rfl,h5⟩,trivial⟩
theorem TValue.at {w:World} {S:Nat→Prop} {A:Option Addr} {c:Nat} {l:List TValue} (h:Row w S 6 A c (l.map TValue.D)) (i:Nat) (hi:i<l.length) :
  ∃b o x0 x1 x2 x3 x4 x5,A=some ⟨b,o,none⟩∧S b∧b<w.heap.size∧l[i]=.mk x0 x1 x2 x3 x4 x5∧Dat.HoldVals w S l[i].D [.int .i64 x0,.int .i64 x1,.int .i64 x2,.string x3,.int .i64 x4,.int .i64 x5]∧InI x0∧InI x1∧InI x2∧x3.size≤maxLen∧InI x4∧InI x5∧w.cell? ⟨b,o+i*6,none⟩=some (.int .i64 x0)∧w.cell? ⟨b,o+i*6+1,none⟩=some (.int .i64 x1)∧w.cell? ⟨b,o+i*6+2,none⟩=some (.int .i64 x2)∧w.cell? ⟨b,o+i*6+3,none⟩=some (.string x3)∧w.cell? ⟨b,o+i*6+4,none⟩=some (.int .i64 x4)∧w.cell? ⟨b,o+i*6+5,none⟩=some (.int .i64 x5):=by
 obtain⟨b,o,vs,hA,hS,hb,hv,hl,hc⟩:=Row.at h i (by simpa using hi)
 rw[List.getElem_map]at hv
 obtain⟨x0,x1,x2,x3,x4,x5,hx⟩:∃x0 x1 x2 x3 x4 x5,l[i]=.mk x0 x1 x2 x3 x4 x5:=by cases l[i];exact⟨_,_,_,_,_,_,rfl⟩
 have hv2:=hv
 rw[hx]at hv2
 obtain⟨rfl,g0,g1,g2,g3,g4,g5⟩:=TValue.vals hv2
 exact⟨b,o,_,_,_,_,_,_,hA,hS,hb,hx,hv,g0,g1,g2,g3,g4,g5,by simpa using hc 0 (by decide),by simpa using hc 1 (by decide),by simpa using hc 2 (by decide),by simpa using hc 3 (by decide),by simpa using hc 4 (by decide),by simpa using hc 5 (by decide)⟩
inductive TObject where
 | mk (Kind:Int) (Tag:Int) (Serial:Int) (Items:List TValue) (Keys:List TValue)
def TObject.D:TObject→List Dat
 | .mk x0 x1 x2 x3 x4=>[.int x0,.int x1,.int x2,.row 6 (x3.map TValue.D),.row 6 (x4.map TValue.D)]
theorem TObject.D_mk {x0:Int} {x1:Int} {x2:Int} {x3:List TValue} {x4:List TValue}:(TObject.mk x0 x1 x2 x3 x4).D=[.int x0,.int x1,.int x2,.row 6 (x3.map TValue.D),.row 6 (x4.map TValue.D)]:=by
 simp only[TObject.D]
theorem TObject.D_len:∀t:TObject,t.D.length=5
 | .mk x0 x1 x2 x3 x4=>by rw[TObject.D_mk];rfl
theorem TObject.vals {w:World} {S:Nat→Prop} {x0:Int} {x1:Int} {x2:Int} {x3:List TValue} {x4:List TValue} {vs:List Value} (h:Dat.HoldVals w S (TObject.mk x0 x1 x2 x3 x4).D vs):∃Ax3 cx3 Ax4 cx4,vs=[.int .i64 x0,.int .i64 x1,.int .i64 x2,.slice Ax3 x3.length cx3,.slice Ax4 x4.length cx4]∧InI x0∧InI x1∧InI x2∧Row w S 6 Ax3 cx3 (x3.map TValue.D)∧Row w S 6 Ax4 cx4 (x4.map TValue.D):=by
 rw[TObject.D_mk]at h
 match vs,h with
 | [u0,u1,u2,u3,u4],h =>
  obtain⟨h0,h1,h2,h3,h4,-⟩:=h
  obtain⟨rfl,g0⟩:=Dat.holds_int.1 h0
  obtain⟨rfl,g1⟩:=Dat.holds_int.1 h1
  obtain⟨rfl,g2⟩:=Dat.holds_int.1 h2
  obtain⟨Ax3,cx3,rfl,g3⟩:=Dat.holds_row.1 h3
  obtain⟨Ax4,cx4,rfl,g4⟩:=Dat.holds_row.1 h4
  exact⟨Ax3,cx3,Ax4,cx4,by simp only[List.length_map],g0,g1,g2,g3,g4⟩
theorem TObject.vals_mk {w:World} {S:Nat→Prop} {x0:Int} {x1:Int} {x2:Int} {x3:List TValue} {x4:List TValue} {Ax3:Option Addr} {cx3:Nat} {Ax4:Option Addr} {cx4:Nat} (h0:InI x0) (h1:InI x1) (h2:InI x2) (h3:Row w S 6 Ax3 cx3 (x3.map TValue.D)) (h4:Row w S 6 Ax4 cx4 (x4.map TValue.D)):Dat.HoldVals w S (TObject.mk x0 x1 x2 x3 x4).D [.int .i64 x0,.int .i64 x1,.int .i64 x2,.slice Ax3 x3.length cx3,.slice Ax4 x4.length cx4]:=by
 rw[TObject.D_mk]
 exact⟨Dat.holds_int.2 ⟨rfl,h0⟩,Dat.holds_int.2 ⟨rfl,h1⟩,Dat.holds_int.2 ⟨rfl,h2⟩,Dat.holds_row.2 ⟨_,_,by simp only[List.length_map],h3⟩,Dat.holds_row.2 ⟨_,_,by simp only[List.length_map],h4⟩,trivial⟩
theorem TObject.at {w:World} {S:Nat→Prop} {A:Option Addr} {c:Nat} {l:List TObject} (h:Row w S 5 A c (l.map TObject.D)) (i:Nat) (hi:i<l.length) :
  ∃b o x0 x1 x2 x3 x4 Ax3 cx3 Ax4 cx4,A=some ⟨b,o,none⟩∧S b∧b<w.heap.size∧l[i]=.mk x0 x1 x2 x3 x4∧Dat.HoldVals w S l[i].D [.int .i64 x0,.int .i64 x1,.int .i64 x2,.slice Ax3 x3.length cx3,.slice Ax4 x4.length cx4]∧InI x0∧InI x1∧InI x2∧Row w S 6 Ax3 cx3 (x3.map TValue.D)∧Row w S 6 Ax4 cx4 (x4.map TValue.D)∧w.cell? ⟨b,o+i*5,none⟩=some (.int .i64 x0)∧w.cell? ⟨b,o+i*5+1,none⟩=some (.int .i64 x1)∧w.cell? ⟨b,o+i*5+2,none⟩=some (.int .i64 x2)∧w.cell? ⟨b,o+i*5+3,none⟩=some (.slice Ax3 x3.length cx3)∧w.cell? ⟨b,o+i*5+4,none⟩=some (.slice Ax4 x4.length cx4):=by
 obtain⟨b,o,vs,hA,hS,hb,hv,hl,hc⟩:=Row.at h i (by simpa using hi)
 rw[List.getElem_map]at hv
 obtain⟨x0,x1,x2,x3,x4,hx⟩:∃x0 x1 x2 x3 x4,l[i]=.mk x0 x1 x2 x3 x4:=by cases l[i];exact⟨_,_,_,_,_,rfl⟩
 have hv2:=hv
 rw[hx]at hv2
 obtain⟨Ax3,cx3,Ax4,cx4,rfl,g0,g1,g2,g3,g4⟩:=TObject.vals hv2
 exact⟨b,o,_,_,_,_,_,_,_,_,_,hA,hS,hb,hx,hv,g0,g1,g2,g3,g4,by simpa using hc 0 (by decide),by simpa using hc 1 (by decide),by simpa using hc 2 (by decide),by simpa using hc 3 (by decide),by simpa using hc 4 (by decide)⟩
inductive TActive where
 | mk (Routine:Int) (Frame:Int)
def TActive.D:TActive→List Dat
 | .mk x0 x1=>[.int x0,.int x1]
theorem TActive.D_mk {x0:Int} {x1:Int}:(TActive.mk x0 x1).D=[.int x0,.int x1]:=by
 simp only[TActive.D]
theorem TActive.D_len:∀t:TActive,t.D.length=2
 | .mk x0 x1=>by rw[TActive.D_mk];rfl
theorem TActive.vals {w:World} {S:Nat→Prop} {x0:Int} {x1:Int} {vs:List Value} (h:Dat.HoldVals w S (TActive.mk x0 x1).D vs):vs=[.int .i64 x0,.int .i64 x1]∧InI x0∧InI x1:=by
 rw[TActive.D_mk]at h
 match vs,h with
 | [u0,u1],h =>
  obtain⟨h0,h1,-⟩:=h
  obtain⟨rfl,g0⟩:=Dat.holds_int.1 h0
  obtain⟨rfl,g1⟩:=Dat.holds_int.1 h1
  exact⟨rfl,g0,g1⟩
theorem TActive.vals_mk {w:World} {S:Nat→Prop} {x0:Int} {x1:Int} (h0:InI x0) (h1:InI x1):Dat.HoldVals w S (TActive.mk x0 x1).D [.int .i64 x0,.int .i64 x1]:=by
 rw[TActive.D_mk]
 exact⟨Dat.holds_int.2 ⟨rfl,h0⟩,Dat.holds_int.2 ⟨rfl,h1⟩,trivial⟩
theorem TActive.at {w:World} {S:Nat→Prop} {A:Option Addr} {c:Nat} {l:List TActive} (h:Row w S 2 A c (l.map TActive.D)) (i:Nat) (hi:i<l.length) :
  ∃b o x0 x1,A=some ⟨b,o,none⟩∧S b∧b<w.heap.size∧l[i]=.mk x0 x1∧Dat.HoldVals w S l[i].D [.int .i64 x0,.int .i64 x1]∧InI x0∧InI x1∧w.cell? ⟨b,o+i*2,none⟩=some (.int .i64 x0)∧w.cell? ⟨b,o+i*2+1,none⟩=some (.int .i64 x1):=by
 obtain⟨b,o,vs,hA,hS,hb,hv,hl,hc⟩:=Row.at h i (by simpa using hi)
 rw[List.getElem_map]at hv
 obtain⟨x0,x1,hx⟩:∃x0 x1,l[i]=.mk x0 x1:=by cases l[i];exact⟨_,_,rfl⟩
 have hv2:=hv
 rw[hx]at hv2
 obtain⟨rfl,g0,g1⟩:=TActive.vals hv2
 exact⟨b,o,_,_,hA,hS,hb,hx,hv,g0,g1,by simpa using hc 0 (by decide),by simpa using hc 1 (by decide)⟩
inductive TStore where
 | mk (Names:List ByteArray) (Records:List TRecordType) (Objects:List TObject) (Globals:List TValue) (Subject:ByteArray) (Position:Int) (Output:List ByteArray) (Trace:List ByteArray) (Actives:List TActive) (Tracing:Bool) (Ticks:Int) (Budget:Int) (Made:Int)
def TStore.D:TStore→List Dat
 | .mk x0 x1 x2 x3 x4 x5 x6 x7 x8 x9 x10 x11 x12=>[.row 1 (x0.map fun x=>[.str x]),.row 3 (x1.map TRecordType.D),.row 5 (x2.map TObject.D),.row 6 (x3.map TValue.D),.str x4,.int x5,.row 1 (x6.map fun x=>[.str x]),.row 1 (x7.map fun x=>[.str x]),.row 2 (x8.map TActive.D),.bool x9,.int x10,.int x11,.int x12]
theorem TStore.D_mk {x0:List ByteArray} {x1:List TRecordType} {x2:List TObject} {x3:List TValue} {x4:ByteArray} {x5:Int} {x6:List ByteArray} {x7:List ByteArray} {x8:List TActive} {x9:Bool} {x10:Int} {x11:Int} {x12:Int}:(TStore.mk x0 x1 x2 x3 x4 x5 x6 x7 x8 x9 x10 x11 x12).D=[.row 1 (x0.map fun x=>[.str x]),.row 3 (x1.map TRecordType.D),.row 5 (x2.map TObject.D),.row 6 (x3.map TValue.D),.str x4,.int x5,.row 1 (x6.map fun x=>[.str x]),.row 1 (x7.map fun x=>[.str x]),.row 2 (x8.map TActive.D),.bool x9,.int x10,.int x11,.int x12]:=by
 simp only[TStore.D]
theorem TStore.D_len:∀t:TStore,t.D.length=13
 | .mk x0 x1 x2 x3 x4 x5 x6 x7 x8 x9 x10 x11 x12=>by rw[TStore.D_mk];rfl
set_option maxHeartbeats 4000000 in
theorem TStore.vals {w:World} {S:Nat→Prop} {x0:List ByteArray} {x1:List TRecordType} {x2:List TObject} {x3:List TValue} {x4:ByteArray} {x5:Int} {x6:List ByteArray} {x7:List ByteArray} {x8:List TActive} {x9:Bool} {x10:Int} {x11:Int} {x12:Int} {vs:List Value} (h:Dat.HoldVals w S (TStore.mk x0 x1 x2 x3 x4 x5 x6 x7 x8 x9 x10 x11 x12).D vs):∃Ax0 cx0 Ax1 cx1 Ax2 cx2 Ax3 cx3 Ax6 cx6 Ax7 cx7 Ax8 cx8,vs=[.slice Ax0 x0.length cx0,.slice Ax1 x1.length cx1,.slice Ax2 x2.length cx2,.slice Ax3 x3.length cx3,.string x4,.int .i64 x5,.slice Ax6 x6.length cx6,.slice Ax7 x7.length cx7,.slice Ax8 x8.length cx8,.bool x9,.int .i64 x10,.int .i64 x11,.int .i64 x12]∧Row w S 1 Ax0 cx0 (x0.map fun x=>[.str x])∧Row w S 3 Ax1 cx1 (x1.map TRecordType.D)∧Row w S 5 Ax2 cx2 (x2.map TObject.D)∧Row w S 6 Ax3 cx3 (x3.map TValue.D)∧x4.size≤maxLen∧InI x5∧Row w S 1 Ax6 cx6 (x6.map fun x=>[.str x])∧Row w S 1 Ax7 cx7 (x7.map fun x=>[.str x])∧Row w S 2 Ax8 cx8 (x8.map TActive.D)∧True∧InI x10∧InI x11∧InI x12:=by
 rw[TStore.D_mk]at h
 have hl:=h.length
 obtain⟨u0,u1,u2,u3,u4,u5,u6,u7,u8,u9,u10,u11,u12,rfl⟩:=lst13 (hl.trans rfl)
 clear hl
 simp only[Dat.HoldVals]at h
 ·
  obtain⟨h0,h1,h2,h3,h4,h5,h6,h7,h8,h9,h10,h11,h12,-⟩:=h
  obtain⟨Ax0,cx0,rfl,g0⟩:=Dat.holds_row.1 h0
  obtain⟨Ax1,cx1,rfl,g1⟩:=Dat.holds_row.1 h1
  obtain⟨Ax2,cx2,rfl,g2⟩:=Dat.holds_row.1 h2
  obtain⟨Ax3,cx3,rfl,g3⟩:=Dat.holds_row.1 h3
  obtain⟨rfl,g4⟩:=Dat.holds_str.1 h4
  obtain⟨rfl,g5⟩:=Dat.holds_int.1 h5
  obtain⟨Ax6,cx6,rfl,g6⟩:=Dat.holds_row.1 h6
  obtain⟨Ax7,cx7,rfl,g7⟩:=Dat.holds_row.1 h7
  obtain⟨Ax8,cx8,rfl,g8⟩:=Dat.holds_row.1 h8
  obtain rfl:=Dat.holds_bool.1 h9
  obtain⟨rfl,g10⟩:=Dat.holds_int.1 h10
  obtain⟨rfl,g11⟩:=Dat.holds_int.1 h11
  obtain⟨rfl,g12⟩:=Dat.holds_int.1 h12
  exact⟨Ax0,cx0,Ax1,cx1,Ax2,cx2,Ax3,cx3,Ax6,cx6,Ax7,cx7,Ax8,cx8,by simp only[List.length_map],g0,g1,g2,g3,g4,g5,g6,g7,g8,trivial,g10,g11,g12⟩
theorem TStore.vals_mk {w:World} {S:Nat→Prop} {x0:List ByteArray} {x1:List TRecordType} {x2:List TObject} {x3:List TValue} {x4:ByteArray} {x5:Int} {x6:List ByteArray} {x7:List ByteArray} {x8:List TActive} {x9:Bool} {x10:Int} {x11:Int} {x12:Int} {Ax0:Option Addr} {cx0:Nat} {Ax1:Option Addr} {cx1:Nat} {Ax2:Option Addr} {cx2:Nat} {Ax3:Option Addr} {cx3:Nat} {Ax6:Option Addr} {cx6:Nat} {Ax7:Option Addr} {cx7:Nat} {Ax8:Option Addr} {cx8:Nat} (h0:Row w S 1 Ax0 cx0 (x0.map fun x=>[.str x])) (h1:Row w S 3 Ax1 cx1 (x1.map TRecordType.D)) (h2:Row w S 5 Ax2 cx2 (x2.map TObject.D)) (h3:Row w S 6 Ax3 cx3 (x3.map TValue.D)) (h4:x4.size≤maxLen) (h5:InI x5) (h6:Row w S 1 Ax6 cx6 (x6.map fun x=>[.str x])) (h7:Row w S 1 Ax7 cx7 (x7.map fun x=>[.str x])) (h8:Row w S 2 Ax8 cx8 (x8.map TActive.D)) (h10:InI x10) (h11:InI x11) (h12:InI x12):Dat.HoldVals w S (TStore.mk x0 x1 x2 x3 x4 x5 x6 x7 x8 x9 x10 x11 x12).D [.slice Ax0 x0.length cx0,.slice Ax1 x1.length cx1,.slice Ax2 x2.length cx2,.slice Ax3 x3.length cx3,.string x4,.int .i64 x5,.slice Ax6 x6.length cx6,.slice Ax7 x7.length cx7,.slice Ax8 x8.length cx8,.bool x9,.int .i64 x10,.int .i64 x11,.int .i64 x12]:=by
 rw[TStore.D_mk]
 exact⟨Dat.holds_row.2 ⟨_,_,by simp only[List.length_map],h0⟩,Dat.holds_row.2 ⟨_,_,by simp only[List.length_map],h1⟩,Dat.holds_row.2 ⟨_,_,by simp only[List.length_map],h2⟩,Dat.holds_row.2 ⟨_,_,by simp only[List.length_map],h3⟩,Dat.holds_str.2 ⟨rfl,h4⟩,Dat.holds_int.2 ⟨rfl,h5⟩,Dat.holds_row.2 ⟨_,_,by simp only[List.length_map],h6⟩,Dat.holds_row.2 ⟨_,_,by simp only[List.length_map],h7⟩,Dat.holds_row.2 ⟨_,_,by simp only[List.length_map],h8⟩,Dat.holds_bool.2 rfl,Dat.holds_int.2 ⟨rfl,h10⟩,Dat.holds_int.2 ⟨rfl,h11⟩,Dat.holds_int.2 ⟨rfl,h12⟩,trivial⟩
set_option maxHeartbeats 4000000 in
theorem TStore.at {w:World} {S:Nat→Prop} {A:Option Addr} {c:Nat} {l:List TStore} (h:Row w S 13 A c (l.map TStore.D)) (i:Nat) (hi:i<l.length) :
  ∃b o x0 x1 x2 x3 x4 x5 x6 x7 x8 x9 x10 x11 x12 Ax0 cx0 Ax1 cx1 Ax2 cx2 Ax3 cx3 Ax6 cx6 Ax7 cx7 Ax8 cx8,A=some ⟨b,o,none⟩∧S b∧b<w.heap.size∧l[i]=.mk x0 x1 x2 x3 x4 x5 x6 x7 x8 x9 x10 x11 x12∧Dat.HoldVals w S l[i].D [.slice Ax0 x0.length cx0,.slice Ax1 x1.length cx1,.slice Ax2 x2.length cx2,.slice Ax3 x3.length cx3,.string x4,.int .i64 x5,.slice Ax6 x6.length cx6,.slice Ax7 x7.length cx7,.slice Ax8 x8.length cx8,.bool x9,.int .i64 x10,.int .i64 x11,.int .i64 x12]∧Row w S 1 Ax0 cx0 (x0.map fun x=>[.str x])∧Row w S 3 Ax1 cx1 (x1.map TRecordType.D)∧Row w S 5 Ax2 cx2 (x2.map TObject.D)∧Row w S 6 Ax3 cx3 (x3.map TValue.D)∧x4.size≤maxLen∧InI x5∧Row w S 1 Ax6 cx6 (x6.map fun x=>[.str x])∧Row w S 1 Ax7 cx7 (x7.map fun x=>[.str x])∧Row w S 2 Ax8 cx8 (x8.map TActive.D)∧True∧InI x10∧InI x11∧InI x12∧w.cell? ⟨b,o+i*13,none⟩=some (.slice Ax0 x0.length cx0)∧w.cell? ⟨b,o+i*13+1,none⟩=some (.slice Ax1 x1.length cx1)∧w.cell? ⟨b,o+i*13+2,none⟩=some (.slice Ax2 x2.length cx2)∧w.cell? ⟨b,o+i*13+3,none⟩=some (.slice Ax3 x3.length cx3)∧w.cell? ⟨b,o+i*13+4,none⟩=some (.string x4)∧w.cell? ⟨b,o+i*13+5,none⟩=some (.int .i64 x5)∧w.cell? ⟨b,o+i*13+6,none⟩=some (.slice Ax6 x6.length cx6)∧w.cell? ⟨b,o+i*13+7,none⟩=some (.slice Ax7 x7.length cx7)∧w.cell? ⟨b,o+i*13+8,none⟩=some (.slice Ax8 x8.length cx8)∧w.cell? ⟨b,o+i*13+9,none⟩=some (.bool x9)∧w.cell? ⟨b,o+i*13+10,none⟩=some (.int .i64 x10)∧w.cell? ⟨b,o+i*13+11,none⟩=some (.int .i64 x11)∧w.cell? ⟨b,o+i*13+12,none⟩=some (.int .i64 x12):=by
 obtain⟨b,o,vs,hA,hS,hb,hv,hl,hc⟩:=Row.at h i (by simpa using hi)
 rw[List.getElem_map]at hv
 obtain⟨x0,x1,x2,x3,x4,x5,x6,x7,x8,x9,x10,x11,x12,hx⟩:∃x0 x1 x2 x3 x4 x5 x6 x7 x8 x9 x10 x11 x12,l[i]=.mk x0 x1 x2 x3 x4 x5 x6 x7 x8 x9 x10 x11 x12:=by cases l[i];exact⟨_,_,_,_,_,_,_,_,_,_,_,_,_,rfl⟩
 have hv2:=hv
 rw[hx]at hv2
 obtain⟨Ax0,cx0,Ax1,cx1,Ax2,cx2,Ax3,cx3,Ax6,cx6,Ax7,cx7,Ax8,cx8,rfl,g0,g1,g2,g3,g4,g5,g6,g7,g8,g9,g10,g11,g12⟩:=TStore.vals hv2
 exact⟨b,o,_,_,_,_,_,_,_,_,_,_,_,_,_,_,_,_,_,_,_,_,_,_,_,_,_,_,_,hA,hS,hb,hx,hv,g0,g1,g2,g3,g4,g5,g6,g7,g8,g9,g10,g11,g12,by simpa using hc 0 (by decide),by simpa using hc 1 (by decide),by simpa using hc 2 (by decide),by simpa using hc 3 (by decide),by simpa using hc 4 (by decide),by simpa using hc 5 (by decide),by simpa using hc 6 (by decide),by simpa using hc 7 (by decide),by simpa using hc 8 (by decide),by simpa using hc 9 (by decide),by simpa using hc 10 (by decide),by simpa using hc 11 (by decide),by simpa using hc 12 (by decide)⟩
inductive TGenerator where
 | mk (Kind:Int) (Op:Int) (Count:Int) (Args:List TValue)
def TGenerator.D:TGenerator→List Dat
 | .mk x0 x1 x2 x3=>[.int x0,.int x1,.int x2,.row 6 (x3.map TValue.D)]
theorem TGenerator.D_mk {x0:Int} {x1:Int} {x2:Int} {x3:List TValue}:(TGenerator.mk x0 x1 x2 x3).D=[.int x0,.int x1,.int x2,.row 6 (x3.map TValue.D)]:=by
 simp only[TGenerator.D]
theorem TGenerator.D_len:∀t:TGenerator,t.D.length=4
 | .mk x0 x1 x2 x3=>by rw[TGenerator.D_mk];rfl
theorem TGenerator.vals {w:World} {S:Nat→Prop} {x0:Int} {x1:Int} {x2:Int} {x3:List TValue} {vs:List Value} (h:Dat.HoldVals w S (TGenerator.mk x0 x1 x2 x3).D vs):∃Ax3 cx3,vs=[.int .i64 x0,.int .i64 x1,.int .i64 x2,.slice Ax3 x3.length cx3]∧InI x0∧InI x1∧InI x2∧Row w S 6 Ax3 cx3 (x3.map TValue.D):=by
 rw[TGenerator.D_mk]at h
 match vs,h with
 | [u0,u1,u2,u3],h =>
  obtain⟨h0,h1,h2,h3,-⟩:=h
  obtain⟨rfl,g0⟩:=Dat.holds_int.1 h0
  obtain⟨rfl,g1⟩:=Dat.holds_int.1 h1
  obtain⟨rfl,g2⟩:=Dat.holds_int.1 h2
  obtain⟨Ax3,cx3,rfl,g3⟩:=Dat.holds_row.1 h3
  exact⟨Ax3,cx3,by simp only[List.length_map],g0,g1,g2,g3⟩
theorem TGenerator.vals_mk {w:World} {S:Nat→Prop} {x0:Int} {x1:Int} {x2:Int} {x3:List TValue} {Ax3:Option Addr} {cx3:Nat} (h0:InI x0) (h1:InI x1) (h2:InI x2) (h3:Row w S 6 Ax3 cx3 (x3.map TValue.D)):Dat.HoldVals w S (TGenerator.mk x0 x1 x2 x3).D [.int .i64 x0,.int .i64 x1,.int .i64 x2,.slice Ax3 x3.length cx3]:=by
 rw[TGenerator.D_mk]
 exact⟨Dat.holds_int.2 ⟨rfl,h0⟩,Dat.holds_int.2 ⟨rfl,h1⟩,Dat.holds_int.2 ⟨rfl,h2⟩,Dat.holds_row.2 ⟨_,_,by simp only[List.length_map],h3⟩,trivial⟩
theorem TGenerator.at {w:World} {S:Nat→Prop} {A:Option Addr} {c:Nat} {l:List TGenerator} (h:Row w S 4 A c (l.map TGenerator.D)) (i:Nat) (hi:i<l.length) :
  ∃b o x0 x1 x2 x3 Ax3 cx3,A=some ⟨b,o,none⟩∧S b∧b<w.heap.size∧l[i]=.mk x0 x1 x2 x3∧Dat.HoldVals w S l[i].D [.int .i64 x0,.int .i64 x1,.int .i64 x2,.slice Ax3 x3.length cx3]∧InI x0∧InI x1∧InI x2∧Row w S 6 Ax3 cx3 (x3.map TValue.D)∧w.cell? ⟨b,o+i*4,none⟩=some (.int .i64 x0)∧w.cell? ⟨b,o+i*4+1,none⟩=some (.int .i64 x1)∧w.cell? ⟨b,o+i*4+2,none⟩=some (.int .i64 x2)∧w.cell? ⟨b,o+i*4+3,none⟩=some (.slice Ax3 x3.length cx3):=by
 obtain⟨b,o,vs,hA,hS,hb,hv,hl,hc⟩:=Row.at h i (by simpa using hi)
 rw[List.getElem_map]at hv
 obtain⟨x0,x1,x2,x3,hx⟩:∃x0 x1 x2 x3,l[i]=.mk x0 x1 x2 x3:=by cases l[i];exact⟨_,_,_,_,rfl⟩
 have hv2:=hv
 rw[hx]at hv2
 obtain⟨Ax3,cx3,rfl,g0,g1,g2,g3⟩:=TGenerator.vals hv2
 exact⟨b,o,_,_,_,_,_,_,hA,hS,hb,hx,hv,g0,g1,g2,g3,by simpa using hc 0 (by decide),by simpa using hc 1 (by decide),by simpa using hc 2 (by decide),by simpa using hc 3 (by decide)⟩
end Go.Proofs.YtoikhhnmbbbjjaaDoor
namespace Go.Proofs.YtoikhhnmbbbjjaaDoor
set_option linter.unusedVariables false
set_option linter.unusedSimpArgs false
set_option maxRecDepth 100000
open Go.RowKit
theorem strAt {w:World} {S:Nat→Prop} {A:Option Addr} {c:Nat} {l:List ByteArray} (h:Row w S 1 A c (l.map fun x=>[Dat.str x])) (i:Nat) (hi:i<l.length) :
  ∃b o,A=some ⟨b,o,none⟩∧S b∧b<w.heap.size∧l[i].size≤maxLen∧w.cell? ⟨b,o+i,none⟩=some (.string l[i]):=by
 obtain⟨b,o,vs,hA,hS,hb,hv,hl,hc⟩:=Row.at h i (by simpa using hi)
 rw[List.getElem_map]at hv
 match vs,hv with
 | [v],hv =>
  obtain⟨rfl,hs⟩:=Dat.holds_str.1 hv.1
  exact⟨b,o,hA,hS,hb,hs,by simpa using hc 0 (by decide)⟩
end Go.Proofs.YtoikhhnmbbbjjaaDoor
