/- The data of further types of the program (RecordType, Value, Object, Active, Store, Generator). -/
import Derived.Test.YtehcjlkgfgpjnaaGreatDoorPB
namespace Go.Proofs.YtehcjlkgfgpjnaaGreatDoor
set_option linter.unusedVariables false
set_option linter.unusedSimpArgs false
set_option maxRecDepth 100000
open Go.ChangeShapes Go.WideShapes Go.RowKit Go.Deep
inductive TRecordType where
 | mk (Name:ByteArray) (Fields:List ByteArray) (Line:Int)
def TRecordType.D:TRecordType→List Dat
 | .mk x0 x1 x2=>[.str x0,.row 1 (x1.map fun x=>[.str x]),.int x2]
theorem TRecordType.D_mk {x0:ByteArray} {x1:List ByteArray} {x2:Int}:(TRecordType.mk x0 x1 x2).D=[.str x0,.row 1 (x1.map fun x=>[.str x]),.int x2]:=by
 simp only[TRecordType.D]
theorem TRecordType.D_len:∀t:TRecordType,t.D.length=3
 | .mk x0 x1 x2=>by rw[TRecordType.D_mk];rfl
theorem TRecordType.vals {w:World} {S:Nat→Prop} {x0:ByteArray} {x1:List ByteArray} {x2:Int} {vs:List Value} (h:Dat.HoldVals w S (TRecordType.mk x0 x1 x2).D vs):∃Ax1 cx1,vs=[.string x0,.slice Ax1 x1.length cx1,.int .i64 x2]∧x0.size≤maxLen∧Row w S 1 Ax1 cx1 (x1.map fun x=>[.str x])∧InI x2:=by
 rw[TRecordType.D_mk]at h
 match vs,h with
 | [u0,u1,u2],h =>
  obtain⟨h0,h1,h2,-⟩:=h
  obtain⟨rfl,g0⟩:=Dat.holds_str.1 h0
  obtain⟨Ax1,cx1,rfl,g1⟩:=Dat.holds_row.1 h1
  obtain⟨rfl,g2⟩:=Dat.holds_int.1 h2
  exact⟨Ax1,cx1,by simp only[List.length_map],g0,g1,g2⟩
theorem TRecordType.vals_mk {w:World} {S:Nat→Prop} {x0:ByteArray} {x1:List ByteArray} {x2:Int} {Ax1:Option Addr} {cx1:Nat} (h0:x0.size≤maxLen) (h1:Row w S 1 Ax1 cx1 (x1.map fun x=>[.str x])) (h2:InI x2):Dat.HoldVals w S (TRecordType.mk x0 x1 x2).D [.string x0,.slice Ax1 x1.length cx1,.int .i64 x2]:=by
 rw[TRecordType.D_mk]
 exact⟨Dat.holds_str.2 ⟨rfl,h0⟩,Dat.holds_row.2 ⟨_,_,by simp only[List.length_map],h1⟩,Dat.holds_int.2 ⟨rfl,h2⟩,trivial⟩
theorem TRecordType.at {w:World} {S:Nat→Prop} {A:Option Addr} {c:Nat} {l:List TRecordType} (h:Row w S 3 A c (l.map TRecordType.D)) (i:Nat) (hi:i<l.length) :
  ∃b o x0 x1 x2 Ax1 cx1,A=some ⟨b,o,none⟩∧S b∧b<w.heap.size∧l[i]=.mk x0 x1 x2∧Dat.HoldVals w S l[i].D [.string x0,.slice Ax1 x1.length cx1,.int .i64 x2]∧x0.size≤maxLen∧Row w S 1 Ax1 cx1 (x1.map fun x=>[.str x])∧InI x2∧w.cell? ⟨b,o+i*3,none⟩=some (.string x0)∧w.cell? ⟨b,o+i*3+1,none⟩=some (.slice Ax1 x1.length cx1)∧w.cell? ⟨b,o+i*3+2,none⟩=some (.int .i64 x2):=by
 obtain⟨b,o,vs,hA,hS,hb,hv,hl,hc⟩:=Row.at h i (by simpa using hi)
 rw[List.getElem_map]at hv
 obtain⟨x0,x1,x2,hx⟩:∃x0 x1 x2,l[i]=.mk x0 x1 x2:=by cases l[i];exact⟨_,_,_,rfl⟩
 have hv2:=hv
 rw[hx]at hv2
 obtain⟨Ax1,cx1,rfl,g0,g1,g2⟩:=TRecordType.vals hv2
 exact⟨b,o,_,_,_,_,_,hA,hS,hb,hx,hv,g0,g1,g2,by simpa using hc 0 (by decide),by simpa using hc 1 (by decide),by simpa using hc 2 (by decide)⟩
inductive TValue where
 | mk (Kind:Int) (Number:Int) (Index:Int) (Text:ByteArray) (SetLow:Int) (SetHigh:Int)
def TValue.D:TValue→List Dat
 | .mk x0 x1 x2 x3 x4 x5=>[.int x0,.int x1,.int x2,.str x3,.int x4,.int x5]
theorem TValue.D_mk {x0:Int} {x1:Int} {x2:Int} {x3:ByteArray} {x4:Int} {x5:Int}:(TValue.mk x0 x1 x2 x3 x4 x5).D=[.int x0,.int x1,.int x2,.str x3,.int x4,.int x5]:=by
 simp only[TValue.D]
theorem TValue.D_len:∀t:TValue,t.D.length=6
 | .mk x0 x1 x2 x3 x4 x5=>by rw[TValue.D_mk];rfl
theorem TValue.vals {w:World} {S:Nat→Prop} {x0:Int} {x1:Int} {x2:Int} {x3:ByteArray} {x4:Int} {x5:Int} {vs:List Value} (h:Dat.HoldVals w S (TValue.mk x0 x1 x2 x3 x4 x5).D vs):vs=[.int .i64 x0,.int .i64 x1,.int .i64 x2,.string x3,.int .i64 x4,.int .i64 x5]∧InI x0∧InI x1∧InI x2∧x3.size≤maxLen∧InI x4∧InI x5:=by
 rw[TValue.D_mk]at h
 match vs,h with
 | [u0,u1,u2,u3,u4,u5],h =>
  obtain⟨h0,h1,h2,h3,h4,h5,-⟩:=h
  obtain⟨rfl,g0⟩:=Dat.holds_int.1 h0
  obtain⟨rfl,g1⟩:=Dat.holds_int.1 h1
  obtain⟨rfl,g2⟩:=Dat.holds_int.1 h2
  obtain⟨rfl,g3⟩:=Dat.holds_str.1 h3
  obtain⟨rfl,g4⟩:=Dat.holds_int.1 h4
  obtain⟨rfl,g5⟩:=Dat.holds_int.1 h5
  exact⟨rfl,g0,g1,g2,g3,g4,g5⟩
theorem TValue.vals_mk {w:World} {S:Nat→Prop} {x0:Int} {x1:Int} {x2:Int} {x3:ByteArray} {x4:Int} {x5:Int} (h0:InI x0) (h1:InI x1) (h2:InI x2) (h3:x3.size≤maxLen) (h4:InI x4) (h5:InI x5):Dat.HoldVals w S (TValue.mk x0 x1 x2 x3 x4 x5).D [.int .i64 x0,.int .i64 x1,.int .i64 x2,.string x3,.int .i64 x4,.int .i64 x5]:=by
 rw[TValue.D_mk]
 exact⟨Dat.holds_int.2 ⟨rfl,h0⟩,Dat.holds_int.2 ⟨rfl,h1⟩,Dat.holds_int.2 ⟨rfl,h2⟩,Dat.holds_str.2 ⟨rfl,h3⟩,Dat.holds_int.2 ⟨rfl,h4⟩,Dat.holds_int.2 ⟨rfl,h5⟩,trivial⟩
theorem TValue.at {w:World} {S:Nat→Prop} {A:Option Addr} {c:Nat} {l:List TValue} (h:Row w S 6 A c (l.map TValue.D)) (i:Nat) (hi:i<l.length) :
  ∃b o x0 x1 x2 x3 x4 x5,A=some ⟨b,o,none⟩∧S b∧b<w.heap.size∧l[i]=.mk x0 x1 x2 x3 x4 x5∧Dat.HoldVals w S l[i].D [.int .i64 x0,.int .i64 x1,.int .i64 x2,.string x3,.int .i64 x4,.int .i64 x5]∧InI x0∧InI x1∧InI x2∧x3.size≤maxLen∧InI x4∧InI x5∧w.cell? ⟨b,o+i*6,none⟩=some (.int .i64 x0)∧w.cell? ⟨b,o+i*6+1,none⟩=some (.int .i64 x1)∧w.cell? ⟨b,o+i*6+2,none⟩=some (.int .i64 x2)∧w.cell? ⟨b,o+i*6+3,none⟩=some (.string x3)∧w.cell? ⟨b,o+i*6+4,none⟩=some (.int .i64 x4)∧w.cell? ⟨b,o+i*6+5,none⟩=some (.int .i64 x5):=by
 obtain⟨b,o,vs,hA,hS,hb,hv,hl,hc⟩:=Row.at h i (by simpa using hi)
 rw[List.getElem_map]at hv
 obtain⟨x0,x1,x2,x3,x4,x5,hx⟩:∃x0 x1 x2 x3 x4 x5,l[i]=.mk x0 x1 x2 x3 x4 x5:=by cases l[i];exact⟨_,_,_,_,_,_,rfl⟩
 have hv2:=hv
 rw[hx]at hv2
 obtain⟨rfl,g0,g1,g2,g3,g4,g5⟩:=TValue.vals hv2
 exact⟨b,o,_,_,_,_,_,_,hA,hS,hb,hx,hv,g0,g1,g2,g3,g4,g5,by simpa using hc 0 (by decide),by simpa using hc 1 (by decide),by simpa using hc 2 (by decide),by simpa using hc 3 (by decide),by simpa using hc 4 (by decide),by simpa using hc 5 (by decide)⟩
inductive TObject where
 | mk (Kind:Int) (Tag:Int) (Serial:Int) (Items:List TValue) (Keys:List TValue)
def TObject.D:TObject→List Dat
 | .mk x0 x1 x2 x3 x4=>[.int x0,.int x1,.int x2,.row 6 (x3.map TValue.D),.row 6 (x4.map TValue.D)]
theorem TObject.D_mk {x0:Int} {x1:Int} {x2:Int} {x3:List TValue} {x4:List TValue}:(TObject.mk x0 x1 x2 x3 x4).D=[.int x0,.int x1,.int x2,.row 6 (x3.map TValue.D),.row 6 (x4.map TValue.D)]:=by
 simp only[TObject.D]
theorem TObject.D_len:∀t:TObject,t.D.length=5
 | .mk x0 x1 x2 x3 x4=>by rw[TObject.D_mk];rfl
theorem TObject.vals {w:World} {S:Nat→Prop} {x0:Int} {x1:Int} {x2:Int} {x3:List TValue} {x4:List TValue} {vs:List Value} (h:Dat.HoldVals w S (TObject.mk x0 x1 x2 x3 x4).D vs):∃Ax3 cx3 Ax4 cx4,vs=[.int .i64 x0,.int .i64 x1,.int .i64 x2,.slice Ax3 x3.length cx3,.slice Ax4 x4.length cx4]∧InI x0∧InI x1∧InI x2∧Row w S 6 Ax3 cx3 (x3.map TValue.D)∧Row w S 6 Ax4 cx4 (x4.map TValue.D):=by
 rw[TObject.D_mk]at h
 match vs,h with
 | [u0,u1,u2,u3,u4],h =>
  obtain⟨h0,h1,h2,h3,h4,-⟩:=h
  obtain⟨rfl,g0⟩:=Dat.holds_int.1 h0
  obtain⟨rfl,g1⟩:=Dat.holds_int.1 h1
  obtain⟨rfl,g2⟩:=Dat.holds_int.1 h2
  obtain⟨Ax3,cx3,rfl,g3⟩:=Dat.holds_row.1 h3
  obtain⟨Ax4,cx4,rfl,g4⟩:=Dat.holds_row.1 h4
  exact⟨Ax3,cx3,Ax4,cx4,by simp only[List.length_map],g0,g1,g2,g3,g4⟩
theorem TObject.vals_mk {w:World} {S:Nat→Prop} {x0:Int} {x1:Int} {x2:Int} {x3:List TValue} {x4:List TValue} {Ax3:Option Addr} {cx3:Nat} {Ax4:Option Addr} {cx4:Nat} (h0:InI x0) (h1:InI x1) (h2:InI x2) (h3:Row w S 6 Ax3 cx3 (x3.map TValue.D)) (h4:Row w S 6 Ax4 cx4 (x4.map TValue.D)):Dat.HoldVals w S (TObject.mk x0 x1 x2 x3 x4).D [.int .i64 x0,.int .i64 x1,.int .i64 x2,.slice Ax3 x3.length cx3,.slice Ax4 x4.length cx4]:=by
 rw[TObject.D_mk]
 exact⟨Dat.holds_int.2 ⟨rfl,h0⟩,Dat.holds_int.2 ⟨rfl,h1⟩,Dat.holds_int.2 ⟨rfl,h2⟩,Dat.holds_row.2 ⟨_,_,by simp only[List.length_map],h3⟩,Dat.holds_row.2 ⟨_,_,by simp only[List.length_map],h4⟩,trivial⟩
theorem TObject.at {w:World} {S:Nat→Prop} {A:Option Addr} {c:Nat} {l:List TObject} (h:Row w S 5 A c (l.map TObject.D)) (i:Nat) (hi:i<l.length) :
  ∃b o x0 x1 x2 x3 x4 Ax3 cx3 Ax4 cx4,A=some ⟨b,o,none⟩∧S b∧b<w.heap.size∧l[i]=.mk x0 x1 x2 x3 x4∧Dat.HoldVals w S l[i].D [.int .i64 x0,.int .i64 x1,.int .i64 x2,.slice Ax3 x3.length cx3,.slice Ax4 x4.length cx4]∧InI x0∧InI x1∧InI x2∧Row w S 6 Ax3 cx3 (x3.map TValue.D)∧Row w S 6 Ax4 cx4 (x4.map TValue.D)∧w.cell? ⟨b,o+i*5,none⟩=some (.int .i64 x0)∧w.cell? ⟨b,o+i*5+1,none⟩=some (.int .i64 x1)∧w.cell? ⟨b,o+i*5+2,none⟩=some (.int .i64 x2)∧w.cell? ⟨b,o+i*5+3,none⟩=some (.slice Ax3 x3.length cx3)∧w.cell? ⟨b,o+i*5+4,none⟩=some (.slice Ax4 x4.length cx4):=by
 obtain⟨b,o,vs,hA,hS,hb,hv,hl,hc⟩:=Row.at h i (by simpa using hi)
 rw[List.getElem_map]at hv
 obtain⟨x0,x1,x2,x3,x4,hx⟩:∃x0 x1 x2 x3 x4,l[i]=.mk x0 x1 x2 x3 x4:=by cases l[i];exact⟨_,_,_,_,_,rfl⟩
 have hv2:=hv
 rw[hx]at hv2
 obtain⟨Ax3,cx3,Ax4,cx4,rfl,g0,g1,g2,g3,g4⟩:=TObject.vals hv2
 exact⟨b,o,_,_,_,_,_,_,_,_,_,hA,hS,hb,hx,hv,g0,g1,g2,g3,g4,by simpa using hc 0 (by decide),by simpa using hc 1 (by decide),by simpa using hc 2 (by decide),by simpa using hc 3 (by decide),by simpa using hc 4 (by decide)⟩
inductive TActive where
 | mk (Routine:Int) (Frame:Int)
def TActive.D:TActive→List Dat
 | .mk x0 x1=>[.int x0,.int x1]
theorem TActive.D_mk {x0:Int} {x1:Int}:(TActive.mk x0 x1).D=[.int x0,.int x1]:=by
 simp only[TActive.D]
theorem TActive.D_len:∀t:TActive,t.D.length=2
 | .mk x0 x1=>by rw[TActive.D_mk];rfl
theorem TActive.vals {w:World} {S:Nat→Prop} {x0:Int} {x1:Int} {vs:List Value} (h:Dat.HoldVals w S (TActive.mk x0 x1).D vs):vs=[.int .i64 x0,.int .i64 x1]∧InI x0∧InI x1:=by
 rw[TActive.D_mk]at h
 match vs,h with
 | [u0,u1],h =>
  obtain⟨h0,h1,-⟩:=h
  obtain⟨rfl,g0⟩:=Dat.holds_int.1 h0
  obtain⟨rfl,g1⟩:=Dat.holds_int.1 h1
  exact⟨rfl,g0,g1⟩
theorem TActive.vals_mk {w:World} {S:Nat→Prop} {x0:Int} {x1:Int} (h0:InI x0) (h1:InI x1):Dat.HoldVals w S (TActive.mk x0 x1).D [.int .i64 x0,.int .i64 x1]:=by
 rw[TActive.D_mk]
 exact⟨Dat.holds_int.2 ⟨rfl,h0⟩,Dat.holds_int.2 ⟨rfl,h1⟩,trivial⟩
theorem TActive.at {w:World} {S:Nat→Prop} {A:Option Addr} {c:Nat} {l:List TActive} (h:Row w S 2 A c (l.map TActive.D)) (i:Nat) (hi:i<l.length) :
  ∃b o x0 x1,A=some ⟨b,o,none⟩∧S b∧b<w.heap.size∧l[i]=.mk x0 x1∧Dat.HoldVals w S l[i].D [.int .i64 x0,.int .i64 x1]∧InI x0∧InI x1∧w.cell? ⟨b,o+i*2,none⟩=some (.int .i64 x0)∧w.cell? ⟨b,o+i*2+1,none⟩=some (.int .i64 x1):=by
 obtain⟨b,o,vs,hA,hS,hb,hv,hl,hc⟩:=Row.at h i (by simpa using hi)
 rw[List.getElem_map]at hv
 obtain⟨x0,x1,hx⟩:∃x0 x1,l[i]=.mk x0 x1:=by cases l[i];exact⟨_,_,rfl⟩
 have hv2:=hv
 rw[hx]at hv2
 obtain⟨rfl,g0,g1⟩:=TActive.vals hv2
 exact⟨b,o,_,_,hA,hS,hb,hx,hv,g0,g1,by simpa using hc 0 (by decide),by simpa using hc 1 (by decide)⟩
inductive TStore where
 | mk (Names:List ByteArray) (Records:List TRecordType) (Objects:List TObject) (Globals:List TValue) (Subject:ByteArray) (Position:Int) (Output:List ByteArray) (Trace:List ByteArray) (Actives:List TActive) (Tracing:Bool) (Ticks:Int) (Budget:Int) (Made:Int)
def TStore.D:TStore→List Dat
 | .mk x0 x1 x2 x3 x4 x5 x6 x7 x8 x9 x10 x11 x12=>[.row 1 (x0.map fun x=>[.str x]),.row 3 (x1.map TRecordType.D),.row 5 (x2.map TObject.D),.row 6 (x3.map TValue.D),.str x4,.int x5,.row 1 (x6.map fun x=>[.str x]),.row 1 (x7.map fun x=>[.str x]),.row 2 (x8.map TActive.D),.bool x9,.int x10,.int x11,.int x12]
theorem TStore.D_mk {x0:List ByteArray} {x1:List TRecordType} {x2:List TObject} {x3:List TValue} {x4:ByteArray} {x5:Int} {x6:List ByteArray} {x7:List ByteArray} {x8:List TActive} {x9:Bool} {x10:Int} {x11:Int} {x12:Int}:(TStore.mk x0 x1 x2 x3 x4 x5 x6 x7 x8 x9 x10 x11 x12).D=[.row 1 (x0.map fun x=>[.str x]),.row 3 (x1.map TRecordType.D),.row 5 (x2.map TObject.D),.row 6 (x3.map TValue.D),.str x4,.int x5,.row 1 (x6.map fun x=>[.str x]),.row 1 (x7.map fun x=>[.str x]),.row 2 (x8.map TActive.D),.bool x9,.int x10,.int x11,.int x12]:=by
 simp only[TStore.D]
theorem TStore.D_len:∀t:TStore,t.D.length=13
 | .mk x0 x1 x2 x3 x4 x5 x6 x7 x8 x9 x10 x11 x12=>by rw[TStore.D_mk];rfl
set_option maxHeartbeats 4000000 in
theorem TStore.vals {w:World} {S:Nat→Prop} {x0:List ByteArray} {x1:List TRecordType} {x2:List TObject} {x3:List TValue} {x4:ByteArray} {x5:Int} {x6:List ByteArray} {x7:List ByteArray} {x8:List TActive} {x9:Bool} {x10:Int} {x11:Int} {x12:Int} {vs:List Value} (h:Dat.HoldVals w S (TStore.mk x0 x1 x2 x3 x4 x5 x6 x7 x8 x9 x10 x11 x12).D vs):∃Ax0 cx0 Ax1 cx1 Ax2 cx2 Ax3 cx3 Ax6 cx6 Ax7 cx7 Ax8 cx8,vs=[.slice Ax0 x0.length cx0,.slice Ax1 x1.length cx1,.slice Ax2 x2.length cx2,.slice Ax3 x3.length cx3,.string x4,.int .i64 x5,.slice Ax6 x6.length cx6,.slice Ax7 x7.length cx7,.slice Ax8 x8.length cx8,.bool x9,.int .i64 x10,.int .i64 x11,.int .i64 x12]∧Row w S 1 Ax0 cx0 (x0.map fun x=>[.str x])∧Row w S 3 Ax1 cx1 (x1.map TRecordType.D)∧Row w S 5 Ax2 cx2 (x2.map TObject.D)∧Row w S 6 Ax3 cx3 (x3.map TValue.D)∧x4.size≤maxLen∧InI x5∧Row w S 1 Ax6 cx6 (x6.map fun x=>[.str x])∧Row w S 1 Ax7 cx7 (x7.map fun x=>[.str x])∧Row w S 2 Ax8 cx8 (x8.map TActive.D)∧True∧InI x10∧InI x11∧InI x12:=by
 rw[TStore.D_mk]at h
 have hl:=h.length
 obtain⟨u0,u1,u2,u3,u4,u5,u6,u7,u8,u9,u10,u11,u12,rfl⟩:=lst13 (hl.trans rfl)
 clear hl
 simp only[Dat.HoldVals]at h
 ·
  obtain⟨h0,h1,h2,h3,h4,h5,h6,h7,h8,h9,h10,h11,h12,-⟩:=h
  obtain⟨Ax0,cx0,rfl,g0⟩:=Dat.holds_row.1 h0
  obtain⟨Ax1,cx1,rfl,g1⟩:=Dat.holds_row.1 h1
  obtain⟨Ax2,cx2,rfl,g2⟩:=Dat.holds_row.1 h2
  obtain⟨Ax3,cx3,rfl,g3⟩:=Dat.holds_row.1 h3
  obtain⟨rfl,g4⟩:=Dat.holds_str.1 h4
  obtain⟨rfl,g5⟩:=Dat.holds_int.1 h5
  obtain⟨Ax6,cx6,rfl,g6⟩:=Dat.holds_row.1 h6
  obtain⟨Ax7,cx7,rfl,g7⟩:=Dat.holds_row.1 h7
  obtain⟨Ax8,cx8,rfl,g8⟩:=Dat.holds_row.1 h8
  obtain rfl:=Dat.holds_bool.1 h9
  obtain⟨rfl,g10⟩:=Dat.holds_int.1 h10
  obtain⟨rfl,g11⟩:=Dat.holds_int.1 h11
  obtain⟨rfl,g12⟩:=Dat.holds_int.1 h12
  exact⟨Ax0,cx0,Ax1,cx1,Ax2,cx2,Ax3,cx3,Ax6,cx6,Ax7,cx7,Ax8,cx8,by simp only[List.length_map],g0,g1,g2,g3,g4,g5,g6,g7,g8,trivial,g10,g11,g12⟩
theorem TStore.vals_mk {w:World} {S:Nat→Prop} {x0:List ByteArray} {x1:List TRecordType} {x2:List TObject} {x3:List TValue} {x4:ByteArray} {x5:Int} {x6:List ByteArray} {x7:List ByteArray} {x8:List TActive} {x9:Bool} {x10:Int} {x11:Int} {x12:Int} {Ax0:Option Addr} {cx0:Nat} {Ax1:Option Addr} {cx1:Nat} {Ax2:Option Addr} {cx2:Nat} {Ax3:Option Addr} {cx3:Nat} {Ax6:Option Addr} {cx6:Nat} {Ax7:Option Addr} {cx7:Nat} {Ax8:Option Addr} {cx8:Nat} (h0:Row w S 1 Ax0 cx0 (x0.map fun x=>[.str x])) (h1:Row w S 3 Ax1 cx1 (x1.map TRecordType.D)) (h2:Row w S 5 Ax2 cx2 (x2.map TObject.D)) (h3:Row w S 6 Ax3 cx3 (x3.map TValue.D)) (h4:x4.size≤maxLen) (h5:InI x5) (h6:Row w S 1 Ax6 cx6 (x6.map fun x=>[.str x])) (h7:Row w S 1 Ax7 cx7 (x7.map fun x=>[.str x])) (h8:Row w S 2 Ax8 cx8 (x8.map TActive.D)) (h10:InI x10) (h11:InI x11) (h12:InI x12):Dat.HoldVals w S (TStore.mk x0 x1 x2 x3 x4 x5 x6 x7 x8 x9 x10 x11 x12).D [.slice Ax0 x0.length cx0,.slice Ax1 x1.length cx1,.slice Ax2 x2.length cx2,.slice Ax3 x3.length cx3,.string x4,.int .i64 x5,.slice Ax6 x6.length cx6,.slice Ax7 x7.length cx7,.slice Ax8 x8.length cx8,.bool x9,.int .i64 x10,.int .i64 x11,.int .i64 x12]:=by
 rw[TStore.D_mk]
 exact⟨Dat.holds_row.2 ⟨_,_,by simp only[List.length_map],h0⟩,Dat.holds_row.2 ⟨_,_,by simp only[List.length_map],h1⟩,Dat.holds_row.2 ⟨_,_,by simp only[List.length_map],h2⟩,Dat.holds_row.2 ⟨_,_,by simp only[List.length_map],h3⟩,Dat.holds_str.2 ⟨rfl,h4⟩,Dat.holds_int.2 ⟨rfl,h5⟩,Dat.holds_row.2 ⟨_,_,by simp only[List.length_map],h6⟩,Dat.holds_row.2 ⟨_,_,by simp only[List.length_map],h7⟩,Dat.holds_row.2 ⟨_,_,by simp only[List.length_map],h8⟩,Dat.holds_bool.2 rfl,Dat.holds_int.2 ⟨rfl,h10⟩,Dat.holds_int.2 ⟨rfl,h11⟩,Dat.holds_int.2 ⟨rfl,h12⟩,trivial⟩
set_option maxHeartbeats 4000000 in
theorem TStore.at {w:World} {S:Nat→Prop} {A:Option Addr} {c:Nat} {l:List TStore} (h:Row w S 13 A c (l.map TStore.D)) (i:Nat) (hi:i<l.length) :
  ∃b o x0 x1 x2 x3 x4 x5 x6 x7 x8 x9 x10 x11 x12 Ax0 cx0 Ax1 cx1 Ax2 cx2 Ax3 cx3 Ax6 cx6 Ax7 cx7 Ax8 cx8,A=some ⟨b,o,none⟩∧S b∧b<w.heap.size∧l[i]=.mk x0 x1 x2 x3 x4 x5 x6 x7 x8 x9 x10 x11 x12∧Dat.HoldVals w S l[i].D [.slice Ax0 x0.length cx0,.slice Ax1 x1.length cx1,.slice Ax2 x2.length cx2,.slice Ax3 x3.length cx3,.string x4,.int .i64 x5,.slice Ax6 x6.length cx6,.slice Ax7 x7.length cx7,.slice Ax8 x8.length cx8,.bool x9,.int .i64 x10,.int .i64 x11,.int .i64 x12]∧Row w S 1 Ax0 cx0 (x0.map fun x=>[.str x])∧Row w S 3 Ax1 cx1 (x1.map TRecordType.D)∧Row w S 5 Ax2 cx2 (x2.map TObject.D)∧Row w S 6 Ax3 cx3 (x3.map TValue.D)∧x4.size≤maxLen∧InI x5∧Row w S 1 Ax6 cx6 (x6.map fun x=>[.str x])∧Row w S 1 Ax7 cx7 (x7.map fun x=>[.str x])∧Row w S 2 Ax8 cx8 (x8.map TActive.D)∧True∧InI x10∧InI x11∧InI x12∧w.cell? ⟨b,o+i*13,none⟩=some (.slice Ax0 x0.length cx0)∧w.cell? ⟨b,o+i*13+1,none⟩=some (.slice Ax1 x1.length cx1)∧w.cell? ⟨b,o+i*13+2,none⟩=some (.slice Ax2 x2.length cx2)∧w.cell? ⟨b,o+i*13+3,none⟩=some (.slice Ax3 x3.length cx3)∧w.cell? ⟨b,o+i*13+4,none⟩=some (.string x4)∧w.cell? ⟨b,o+i*13+5,none⟩=some (.int .i64 x5)∧w.cell? ⟨b,o+i*13+6,none⟩=some (.slice Ax6 x6.length cx6)∧w.cell? ⟨b,o+i*13+7,none⟩=some (.slice Ax7 x7.length cx7)∧w.cell? ⟨b,o+i*13+8,none⟩=some (.slice Ax8 x8.length cx8)∧w.cell? ⟨b,o+i*13+9,none⟩=some (.bool x9)∧w.cell? ⟨b,o+i*13+10,none⟩=some (.int .i64 x10)∧w.cell? ⟨b,o+i*13+11,none⟩=some (.int .i64 x11)∧w.cell? ⟨b,o+i*13+12,none⟩=some (.int .i64 x12):=by
 obtain⟨b,o,vs,hA,hS,hb,hv,hl,hc⟩:=Row.at h i (by simpa using hi)
 rw[List.getElem_map]at hv
 obtain⟨x0,x1,x2,x3,x4,x5,x6,x7,x8,x9,x10,x11,x12,hx⟩:∃x0 x1 x2 x3 x4 x5 x6 x7 x8 x9 x10 x11 x12,l[i]=.mk x0 x1 x2 x3 x4 x5 x6 x7 x8 x9 x10 x11 x12:=by cases l[i];exact⟨_,_,_,_,_,_,_,_,_,_,_,_,_,rfl⟩
 have hv2:=hv
 rw[hx]at hv2
 obtain⟨Ax0,cx0,Ax1,cx1,Ax2,cx2,Ax3,cx3,Ax6,cx6,Ax7,cx7,Ax8,cx8,rfl,g0,g1,g2,g3,g4,g5,g6,g7,g8,g9,g10,g11,g12⟩:=TStore.vals hv2
 exact⟨b,o,_,_,_,_,_,_,_,_,_,_,_,_,_,_,_,_,_,_,_,_,_,_,_,_,_,_,_,hA,hS,hb,hx,hv,g0,g1,g2,g3,g4,g5,g6,g7,g8,g9,g10,g11,g12,by simpa using hc 0 (by decide),by simpa using hc 1 (by decide),by simpa using hc 2 (by decide),by simpa using hc 3 (by decide),by simpa using hc 4 (by decide),by simpa using hc 5 (by decide),by simpa using hc 6 (by decide),by simpa using hc 7 (by decide),by simpa using hc 8 (by decide),by simpa using hc 9 (by decide),by simpa using hc 10 (by decide),by simpa using hc 11 (by decide),by simpa using hc 12 (by decide)⟩
inductive TGenerator where
 | mk (Kind:Int) (Op:Int) (Count:Int) (Args:List TValue)
def TGenerator.D:TGenerator→List Dat
 | .mk x0 x1 x2 x3=>[.int x0,.int x1,.int x2,.row 6 (x3.map TValue.D)]
theorem TGenerator.D_mk {x0:Int} {x1:Int} {x2:Int} {x3:List TValue}:(TGenerator.mk x0 x1 x2 x3).D=[.int x0,.int x1,.int x2,.row 6 (x3.map TValue.D)]:=by
 simp only[TGenerator.D]
theorem TGenerator.D_len:∀t:TGenerator,t.D.length=4
 | .mk x0 x1 x2 x3=>by rw[TGenerator.D_mk];rfl
theorem TGenerator.vals {w:World} {S:Nat→Prop} {x0:Int} {x1:Int} {x2:Int} {x3:List TValue} {vs:List Value} (h:Dat.HoldVals w S (TGenerator.mk x0 x1 x2 x3).D vs):∃Ax3 cx3,vs=[.int .i64 x0,.int .i64 x1,.int .i64 x2,.slice Ax3 x3.length cx3]∧InI x0∧InI x1∧InI x2∧Row w S 6 Ax3 cx3 (x3.map TValue.D):=by
 rw[TGenerator.D_mk]at h
 match vs,h with
 | [u0,u1,u2,u3],h =>
  obtain⟨h0,h1,h2,h3,-⟩:=h
  obtain⟨rfl,g0⟩:=Dat.holds_int.1 h0
  obtain⟨rfl,g1⟩:=Dat.holds_int.1 h1
  obtain⟨rfl,g2⟩:=Dat.holds_int.1 h2
  obtain⟨Ax3,cx3,rfl,g3⟩:=Dat.holds_row.1 h3
  exact⟨Ax3,cx3,by simp only[List.length_map],g0,g1,g2,g3⟩
theorem TGenerator.vals_mk {w:World} {S:Nat→Prop} {x0:Int} {x1:Int} {x2:Int} {x3:List TValue} {Ax3:Option Addr} {cx3:Nat} (h0:InI x0) (h1:InI x1) (h2:InI x2) (h3:Row w S 6 Ax3 cx3 (x3.map TValue.D)):Dat.HoldVals w S (TGenerator.mk x0 x1 x2 x3).D [.int .i64 x0,.int .i64 x1,.int .i64 x2,.slice Ax3 x3.length cx3]:=by
 rw[TGenerator.D_mk]
 exact⟨Dat.holds_int.2 ⟨rfl,h0⟩,Dat.holds_int.2 ⟨rfl,h1⟩,Dat.holds_int.2 ⟨rfl,h2⟩,Dat.holds_row.2 ⟨_,_,by simp only[List.length_map],h3⟩,trivial⟩
theorem TGenerator.at {w:World} {S:Nat→Prop} {A:Option Addr} {c:Nat} {l:List TGenerator} (h:Row w S 4 A c (l.map TGenerator.D)) (i:Nat) (hi:i<l.length) :
  ∃b o x0 x1 x2 x3 Ax3 cx3,A=some ⟨b,o,none⟩∧S b∧b<w.heap.size∧l[i]=.mk x0 x1 x2 x3∧Dat.HoldVals w S l[i].D [.int .i64 x0,.int .i64 x1,.int .i64 x2,.slice Ax3 x3.length cx3]∧InI x0∧InI x1∧InI x2∧Row w S 6 Ax3 cx3 (x3.map TValue.D)∧w.cell? ⟨b,o+i*4,none⟩=some (.int .i64 x0)∧w.cell? ⟨b,o+i*4+1,none⟩=some (.int .i64 x1)∧w.cell? ⟨b,o+i*4+2,none⟩=some (.int .i64 x2)∧w.cell? ⟨b,o+i*4+3,none⟩=some (.slice Ax3 x3.length cx3):=by
 obtain⟨b,o,vs,hA,hS,hb,hv,hl,hc⟩:=Row.at h i (by simpa using hi)
 rw[List.getElem_map]at hv
 obtain⟨x0,x1,x2,x3,hx⟩:∃x0 x1 x2 x3,l[i]=.mk x0 x1 x2 x3:=by cases l[i];exact⟨_,_,_,_,rfl⟩
 have hv2:=hv
 rw[hx]at hv2
 obtain⟨Ax3,cx3,rfl,g0,g1,g2,g3⟩:=TGenerator.vals hv2
 exact⟨b,o,_,_,_,_,_,_,hA,hS,hb,hx,hv,g0,g1,g2,g3,by simpa using hc 0 (by decide),by simpa using hc 1 (by decide),by simpa using hc 2 (by decide),by simpa using hc 3 (by decide)⟩
theorem trodTRecordType {H:Type} {enc:TypeId × Value→H} {w:World} {spare:Nat→Bool} {held:Bool}:∀(fuel:Nat) (cs:List Value) (x:DataW H × List MemPlace),DataW.trod enc Tryz.prog w 0 spare held fuel 82 cs=some x→∃t:TRecordType,Dat.HoldVals w (fun _=>True) t.D cs:=by
 intro fuel
 induction fuel using Nat.strongRecOn with
 | ind fuel ih =>
 intro cs x h
 obtain⟨xs,n,rfl,hx,hl,hlen,hg⟩:=DataW.trod_struct Tryz.underlying82 h
 obtain⟨c0,c1,c2,rfl⟩:=lst3 (hl.trans (by kernel_rfl))
 obtain⟨y0,y1,y2,rfl⟩:=lst3 (hlen.trans (by kernel_rfl))
 have g0:=hg 0 _ rfl
 have g1:=hg 1 _ rfl
 have g2:=hg 2 _ rfl
 obtain⟨a0,e0,_,w0⟩:=DataW.trod_string (cs:=[c0]) Tryz.underlying9 g0
 simp only[List.cons.injEq,and_true]at e0
 subst e0
 obtain⟨a1,A1,q1,e1,hR1⟩:=open_row (fun x=>[Dat.str x]) (cs:=[c1]) (k:=1) Tryz.underlying22 (by kernel_rfl) (by decide) (fun _=>rfl) (fun m hm cs x h=>by obtain⟨a,e,_,w⟩:=DataW.trod_string Tryz.underlying9 h;exact⟨a,by rw[e];exact⟨Dat.holds_str.2 ⟨rfl,w⟩,trivial⟩⟩) g1
 simp only[List.cons.injEq,and_true]at e1
 subst e1
 obtain⟨a2,e2,_,w2⟩:=DataW.trod_int (cs:=[c2]) Tryz.underlying3 g2
 simp only[List.cons.injEq,and_true]at e2
 subst e2
 exact⟨.mk a0 a1 a2,TRecordType.vals_mk w0 hR1 (inI_of_wf w2)⟩
theorem trodTValue {H:Type} {enc:TypeId × Value→H} {w:World} {spare:Nat→Bool} {held:Bool}:∀(fuel:Nat) (cs:List Value) (x:DataW H × List MemPlace),DataW.trod enc Tryz.prog w 0 spare held fuel 89 cs=some x→∃t:TValue,Dat.HoldVals w (fun _=>True) t.D cs:=by
 intro fuel
 induction fuel using Nat.strongRecOn with
 | ind fuel ih =>
 intro cs x h
 obtain⟨xs,n,rfl,hx,hl,hlen,hg⟩:=DataW.trod_struct Tryz.underlying89 h
 obtain⟨c0,c1,c2,c3,c4,c5,rfl⟩:=lst6 (hl.trans (by kernel_rfl))
 obtain⟨y0,y1,y2,y3,y4,rfl⟩:=lst5 (hlen.trans (by kernel_rfl))
 have g0:=hg 0 _ rfl
 have g1:=hg 1 _ rfl
 have g2:=hg 2 _ rfl
 have g3:=hg 3 _ rfl
 have g4:=hg 4 _ rfl
 obtain⟨a0,e0,_,w0⟩:=DataW.trod_int (cs:=[c0]) Tryz.underlying3 g0
 simp only[List.cons.injEq,and_true]at e0
 subst e0
 obtain⟨a1,e1,_,w1⟩:=DataW.trod_int (cs:=[c1]) Tryz.underlying3 g1
 simp only[List.cons.injEq,and_true]at e1
 subst e1
 obtain⟨a2,e2,_,w2⟩:=DataW.trod_int (cs:=[c2]) Tryz.underlying3 g2
 simp only[List.cons.injEq,and_true]at e2
 subst e2
 obtain⟨a3,e3,_,w3⟩:=DataW.trod_string (cs:=[c3]) Tryz.underlying9 g3
 simp only[List.cons.injEq,and_true]at e3
 subst e3
 obtain⟨t4,h4⟩:=trodTCset n [c4,c5] _ g4
 obtain⟨a4_0,a4_1⟩:=t4
 obtain⟨e4,b4_0,b4_1⟩:=TCset.vals h4
 simp only[List.cons.injEq,and_true]at e4
 obtain⟨rfl,rfl⟩:=e4
 exact⟨.mk a0 a1 a2 a3 a4_0 a4_1,TValue.vals_mk (inI_of_wf w0) (inI_of_wf w1) (inI_of_wf w2) w3 b4_0 b4_1⟩
theorem trodTObject {H:Type} {enc:TypeId × Value→H} {w:World} {spare:Nat→Bool} {held:Bool}:∀(fuel:Nat) (cs:List Value) (x:DataW H × List MemPlace),DataW.trod enc Tryz.prog w 0 spare held fuel 85 cs=some x→∃t:TObject,Dat.HoldVals w (fun _=>True) t.D cs:=by
 intro fuel
 induction fuel using Nat.strongRecOn with
 | ind fuel ih =>
 intro cs x h
 obtain⟨xs,n,rfl,hx,hl,hlen,hg⟩:=DataW.trod_struct Tryz.underlying85 h
 obtain⟨c0,c1,c2,c3,c4,rfl⟩:=lst5 (hl.trans (by kernel_rfl))
 obtain⟨y0,y1,y2,y3,y4,rfl⟩:=lst5 (hlen.trans (by kernel_rfl))
 have g0:=hg 0 _ rfl
 have g1:=hg 1 _ rfl
 have g2:=hg 2 _ rfl
 have g3:=hg 3 _ rfl
 have g4:=hg 4 _ rfl
 obtain⟨a0,e0,_,w0⟩:=DataW.trod_int (cs:=[c0]) Tryz.underlying3 g0
 simp only[List.cons.injEq,and_true]at e0
 subst e0
 obtain⟨a1,e1,_,w1⟩:=DataW.trod_int (cs:=[c1]) Tryz.underlying3 g1
 simp only[List.cons.injEq,and_true]at e1
 subst e1
 obtain⟨a2,e2,_,w2⟩:=DataW.trod_int (cs:=[c2]) Tryz.underlying3 g2
 simp only[List.cons.injEq,and_true]at e2
 subst e2
 obtain⟨a3,A3,q3,e3,hR3⟩:=open_row TValue.D (cs:=[c3]) (k:=6) Tryz.underlying25 (by kernel_rfl) (by decide) TValue.D_len (fun m _ cs x h=>trodTValue m cs x h) g3
 simp only[List.cons.injEq,and_true]at e3
 subst e3
 obtain⟨a4,A4,q4,e4,hR4⟩:=open_row TValue.D (cs:=[c4]) (k:=6) Tryz.underlying25 (by kernel_rfl) (by decide) TValue.D_len (fun m _ cs x h=>trodTValue m cs x h) g4
 simp only[List.cons.injEq,and_true]at e4
 subst e4
 exact⟨.mk a0 a1 a2 a3 a4,TObject.vals_mk (inI_of_wf w0) (inI_of_wf w1) (inI_of_wf w2) hR3 hR4⟩
theorem trodTActive {H:Type} {enc:TypeId × Value→H} {w:World} {spare:Nat→Bool} {held:Bool}:∀(fuel:Nat) (cs:List Value) (x:DataW H × List MemPlace),DataW.trod enc Tryz.prog w 0 spare held fuel 106 cs=some x→∃t:TActive,Dat.HoldVals w (fun _=>True) t.D cs:=by
 intro fuel
 induction fuel using Nat.strongRecOn with
 | ind fuel ih =>
 intro cs x h
 obtain⟨xs,n,rfl,hx,hl,hlen,hg⟩:=DataW.trod_struct Tryz.underlying106 h
 obtain⟨c0,c1,rfl⟩:=lst2 (hl.trans (by kernel_rfl))
 obtain⟨y0,y1,rfl⟩:=lst2 (hlen.trans (by kernel_rfl))
 have g0:=hg 0 _ rfl
 have g1:=hg 1 _ rfl
 obtain⟨a0,e0,_,w0⟩:=DataW.trod_int (cs:=[c0]) Tryz.underlying3 g0
 simp only[List.cons.injEq,and_true]at e0
 subst e0
 obtain⟨a1,e1,_,w1⟩:=DataW.trod_int (cs:=[c1]) Tryz.underlying3 g1
 simp only[List.cons.injEq,and_true]at e1
 subst e1
 exact⟨.mk a0 a1,TActive.vals_mk (inI_of_wf w0) (inI_of_wf w1)⟩
set_option maxHeartbeats 4000000 in
theorem trodTStore {H:Type} {enc:TypeId × Value→H} {w:World} {spare:Nat→Bool} {held:Bool}:∀(fuel:Nat) (cs:List Value) (x:DataW H × List MemPlace),DataW.trod enc Tryz.prog w 0 spare held fuel 28 cs=some x→∃t:TStore,Dat.HoldVals w (fun _=>True) t.D cs:=by
 intro fuel
 induction fuel using Nat.strongRecOn with
 | ind fuel ih =>
 intro cs x h
 obtain⟨xs,n,rfl,hx,hl,hlen,hg⟩:=DataW.trod_struct Tryz.underlying28 h
 obtain⟨c0,c1,c2,c3,c4,c5,c6,c7,c8,c9,c10,c11,c12,rfl⟩:=lst13 (hl.trans (by kernel_rfl))
 obtain⟨y0,y1,y2,y3,y4,y5,y6,y7,y8,y9,y10,y11,y12,rfl⟩:=lst13 (hlen.trans (by kernel_rfl))
 have g0:=hg 0 _ rfl
 have g1:=hg 1 _ rfl
 have g2:=hg 2 _ rfl
 have g3:=hg 3 _ rfl
 have g4:=hg 4 _ rfl
 have g5:=hg 5 _ rfl
 have g6:=hg 6 _ rfl
 have g7:=hg 7 _ rfl
 have g8:=hg 8 _ rfl
 have g9:=hg 9 _ rfl
 have g10:=hg 10 _ rfl
 have g11:=hg 11 _ rfl
 have g12:=hg 12 _ rfl
 obtain⟨a0,A0,q0,e0,hR0⟩:=open_row (fun x=>[Dat.str x]) (cs:=[c0]) (k:=1) Tryz.underlying22 (by kernel_rfl) (by decide) (fun _=>rfl) (fun m hm cs x h=>by obtain⟨a,e,_,w⟩:=DataW.trod_string Tryz.underlying9 h;exact⟨a,by rw[e];exact⟨Dat.holds_str.2 ⟨rfl,w⟩,trivial⟩⟩) g0
 simp only[List.cons.injEq,and_true]at e0
 subst e0
 obtain⟨a1,A1,q1,e1,hR1⟩:=open_row TRecordType.D (cs:=[c1]) (k:=3) Tryz.underlying23 (by kernel_rfl) (by decide) TRecordType.D_len (fun m _ cs x h=>trodTRecordType m cs x h) g1
 simp only[List.cons.injEq,and_true]at e1
 subst e1
 obtain⟨a2,A2,q2,e2,hR2⟩:=open_row TObject.D (cs:=[c2]) (k:=5) Tryz.underlying24 (by kernel_rfl) (by decide) TObject.D_len (fun m _ cs x h=>trodTObject m cs x h) g2
 simp only[List.cons.injEq,and_true]at e2
 subst e2
 obtain⟨a3,A3,q3,e3,hR3⟩:=open_row TValue.D (cs:=[c3]) (k:=6) Tryz.underlying25 (by kernel_rfl) (by decide) TValue.D_len (fun m _ cs x h=>trodTValue m cs x h) g3
 simp only[List.cons.injEq,and_true]at e3
 subst e3
 obtain⟨a4,e4,_,w4⟩:=DataW.trod_string (cs:=[c4]) Tryz.underlying9 g4
 simp only[List.cons.injEq,and_true]at e4
 subst e4
 obtain⟨a5,e5,_,w5⟩:=DataW.trod_int (cs:=[c5]) Tryz.underlying3 g5
 simp only[List.cons.injEq,and_true]at e5
 subst e5
 obtain⟨a6,A6,q6,e6,hR6⟩:=open_row (fun x=>[Dat.str x]) (cs:=[c6]) (k:=1) Tryz.underlying22 (by kernel_rfl) (by decide) (fun _=>rfl) (fun m hm cs x h=>by obtain⟨a,e,_,w⟩:=DataW.trod_string Tryz.underlying9 h;exact⟨a,by rw[e];exact⟨Dat.holds_str.2 ⟨rfl,w⟩,trivial⟩⟩) g6
 simp only[List.cons.injEq,and_true]at e6
 subst e6
 obtain⟨a7,A7,q7,e7,hR7⟩:=open_row (fun x=>[Dat.str x]) (cs:=[c7]) (k:=1) Tryz.underlying22 (by kernel_rfl) (by decide) (fun _=>rfl) (fun m hm cs x h=>by obtain⟨a,e,_,w⟩:=DataW.trod_string Tryz.underlying9 h;exact⟨a,by rw[e];exact⟨Dat.holds_str.2 ⟨rfl,w⟩,trivial⟩⟩) g7
 simp only[List.cons.injEq,and_true]at e7
 subst e7
 obtain⟨a8,A8,q8,e8,hR8⟩:=open_row TActive.D (cs:=[c8]) (k:=2) Tryz.underlying26 (by kernel_rfl) (by decide) TActive.D_len (fun m _ cs x h=>trodTActive m cs x h) g8
 simp only[List.cons.injEq,and_true]at e8
 subst e8
 obtain⟨a9,e9,_⟩:=DataW.trod_bool (cs:=[c9]) Tryz.underlying4 g9
 simp only[List.cons.injEq,and_true]at e9
 subst e9
 obtain⟨a10,e10,_,w10⟩:=DataW.trod_int (cs:=[c10]) Tryz.underlying3 g10
 simp only[List.cons.injEq,and_true]at e10
 subst e10
 obtain⟨a11,e11,_,w11⟩:=DataW.trod_int (cs:=[c11]) Tryz.underlying3 g11
 simp only[List.cons.injEq,and_true]at e11
 subst e11
 obtain⟨a12,e12,_,w12⟩:=DataW.trod_int (cs:=[c12]) Tryz.underlying3 g12
 simp only[List.cons.injEq,and_true]at e12
 subst e12
 exact⟨.mk a0 a1 a2 a3 a4 a5 a6 a7 a8 a9 a10 a11 a12,TStore.vals_mk hR0 hR1 hR2 hR3 w4 (inI_of_wf w5) hR6 hR7 hR8 (inI_of_wf w10) (inI_of_wf w11) (inI_of_wf w12)⟩
theorem openTStore {H:Type} {enc:TypeId × Value→H} {w:World} {spare:Nat→Bool} {held:Bool} {r:Reach} {b0:Nat} {v:Value} {d:DataW H} {p:List MemPlace} (hv:Value.okWide Tryz.prog w r b0 28 v) (h:DataW.Trod enc Tryz.prog w 0 spare held 28 v d p) :
  ∃(t:TStore) (vs:List Value),v=.agg vs.toArray∧Dat.HoldVals w (fun _=>True) t.D vs:=by
 obtain⟨cs,rfl,hsz⟩:=okWide_struct Tryz.underlying28 hv
 obtain⟨fuel,hf⟩:=h
 obtain⟨t,h1⟩:=trodTStore fuel _ _ hf
 exact⟨t,cs.toList,rfl,h1⟩
end Go.Proofs.YtehcjlkgfgpjnaaGreatDoor
namespace Go.Proofs.YtehcjlkgfgpjnaaGreatDoor
set_option linter.unusedVariables false
set_option linter.unusedSimpArgs false
set_option maxRecDepth 100000
open Go.RowKit
theorem strAt {w:World} {S:Nat→Prop} {A:Option Addr} {c:Nat} {l:List ByteArray} (h:Row w S 1 A c (l.map fun x=>[Dat.str x])) (i:Nat) (hi:i<l.length) :
  ∃b o,A=some ⟨b,o,none⟩∧S b∧b<w.heap.size∧l[i].size≤maxLen∧w.cell? ⟨b,o+i,none⟩=some (.string l[i]):=by
 obtain⟨b,o,vs,hA,hS,hb,hv,hl,hc⟩:=Row.at h i (by simpa using hi)
 rw[List.getElem_map]at hv
 match vs,hv with
 | [v],hv =>
  obtain⟨rfl,hs⟩:=Dat.holds_str.1 hv.1
  exact⟨b,o,hA,hS,hb,hs,by simpa using hc 0 (by decide)⟩
set_option maxHeartbeats 400000 in
theorem szStringS_any (ks:List ByteArray) (S:Nat→Prop) (w:World) (A:Option Addr) (c:Nat) (left:Int) (hR:Row w S 1 A c (ks.map fun x=>[Dat.str x])) (h0:0≤left) (h1:left≤1048576) :
  Calls Tryz.prog 19 #[.slice A ks.length c,.int .i64 left] w fun e w'=>e=.returned (.int .i64 (szL (ks.length+Dat.wtR (ks.map fun x=>[Dat.str x])) left))∧Bel w w':=by
 have HR:=hide hR
 have hlen:=hR.1
 have hcm:=hR.2.1
 simp only[List.length_map]at hlen
 unfold maxLen at hcm
 clear hR
 rcases Int.lt_or_le left ks.length with hn | hn
 ·
  go_enter Tryz.func19,Tryz.ntmps19
  go_wp2_with (fail)
  all_goals
   go_returns
   exact⟨ret_i64 (by rw[szL_no (by omega)]),bl⟩
 go_enter Tryz.func19,Tryz.ntmps19
 go_wp2_with (fail)
 go_loopw [1,5] (fun lv iv wr=>∃k:Nat,k≤ks.length∧iv=.int .i64 k∧lv=.int .i64 (left - ks.length - (Dat.wtR ((ks.map fun x=>[Dat.str x]).take k):Nat))∧0≤left - ks.length - (Dat.wtR ((ks.map fun x=>[Dat.str x]).take k):Nat)∧Bel w wr) (fun _ iv _=>ks.length - (intOf iv).toNat)
 case atStart=>exact⟨0,Nat.zero_le _,rfl,by simp[Dat.wtR],by simp[Dat.wtR];omega,Bel.refl _⟩
 case round =>
  obtain⟨k,hk,rfl,rfl,hl0,hbw⟩:=hrel
  rcases Nat.lt_or_ge k ks.length with hlt | hge
  ·
   have hd:decide ((k:Int)<(ks.length:Int))=true:=by simp;omega
   obtain⟨b1,o1,hA1,hS1,hl1,hz1,c1⟩:=strAt HR.out k hlt
   subst hA1
   replace c1:=(hbw.box b1 hl1 _).trans c1
   unfold maxLen at hz1
   have e1:=hide (Dat.wtR_take (ks.map fun x=>[Dat.str x]) k (by simpa using hlt))
   have e2:=hide (Dat.wtR_le (ks.map fun x=>[Dat.str x]) (k+1))
   have e3:Hid (Dat.wtR ((ks.map fun x=>[Dat.str x]).take (k+1))=Dat.wtR ((ks.map fun x=>[Dat.str x]).take k)+ks[k].size):=by
    show _=_
    have:=e1.out
    rw[List.getElem_map]at this
    simpa[Dat.wtL,Dat.wt]using this
   rcases Int.lt_or_le (left - ks.length - (Dat.wtR ((ks.map fun x=>[Dat.str x]).take k):Nat)) (ks[k].size:Int)with hq | hq
   ·
    go_wp2_with (fail)
    all_goals
     go_returns
     have e2:=e2.out
     have e3:=e3.out
     exact⟨ret_i64 (by rw[szL_no (by omega)]),bl⟩
   ·
    go_wp2_with (fail)
    all_goals
     go_roundw
     case rel=>exact⟨k+1,by omega,by go_num,by rw[e3.out];go_num,by rw[e3.out];omega,bl⟩
     case measure=>simp[intOf];omega
  ·
   have hd:decide ((k:Int)<(ks.length:Int))=false:=by simp;omega
   go_wp2_with (fail)
   go_returns
   rw[List.take_of_length_le (by simp;omega)]at hl0 ⊢
   exact⟨ret_i64 (by rw[szL_yes (by omega)];omega),hbw⟩
set_option maxHeartbeats 400000 in
theorem toStringS_any (ks:List ByteArray) (S:Nat→Prop) (w:World) (A:Option Addr) (c:Nat) (hR:Row w S 1 A c (ks.map fun x=>[Dat.str x])) (hwt:ks.length+Dat.wtR (ks.map fun x=>[Dat.str x])≤1048576) :
  Calls Tryz.prog 26 #[.slice A ks.length c] w (MadeR w 1 (ks.map fun x=>[Dat.str x])):=by
 have HR:=hide hR
 have hlen:=hR.1
 have hcm:=hR.2.1
 simp only[List.length_map]at hlen
 unfold maxLen at hcm
 clear hR
 obtain⟨cur,hcur,hmk⟩:=make_rows (P:=Tryz.prog) (t:=22) (e:=9) (k:=1) ks.length (by omega) Tryz.underlying22 (by kernel_rfl)
 have HC:=hide hcur
 clear hcur
 go_enter Tryz.func26,Tryz.ntmps26
 go_wp2_with (fail)
 have HF:=hide (Fill.start w 9 1 ks.length (fun b=>w.heap.size<b) HC.out)
 clear hmk
 go_loopw [4] (fun iv wr=>∃k:Nat,k≤ks.length∧iv=.int .i64 k∧Fill wr w.heap.size 9 1 ks.length (fun b=>w.heap.size<b) ((ks.map fun x=>[Dat.str x]).take k)∧Bel w wr) (fun iv _=>ks.length - (intOf iv).toNat)
 case atStart=>exact⟨0,Nat.zero_le _,rfl,HF.out,bl⟩
 case round =>
  obtain⟨k,hk,rfl,hF,hbw⟩:=hrel
  have HF1:=hide hF
  have hgl:=hF.lt
  clear hF HF
  rcases Nat.lt_or_ge k ks.length with hlt | hge
  ·
   have hd:decide ((k:Int)<(ks.length:Int))=true:=by simp;omega
   have hi0:0≤(k:Int):=by omega
   have hi1:(k:Int)<(ks.length:Int):=by omega
   obtain⟨b1,o1,hA1,hS1,hl1,hz1,c1⟩:=strAt HR.out k hlt
   subst hA1
   replace c1:=(hbw.box b1 hl1 _).trans c1
   have HZ:=hide hz1
   clear hz1
   obtain⟨y0,e0⟩:=HF1.out.cell (i:=k) (by omega)
   have f0:=HF1.out.free k
   go_wp2_with (fail)
   go_roundw
   case rel=>exact⟨k+1,by omega,by go_num,Fill.snoc1 (S1:=fun _=>False) HF1.out hlt rfl (fun b hb=>by omega) ⟨Dat.holds_str.2 ⟨rfl,HZ.out⟩,trivial⟩ (fun b hb=>hb.elim),bl⟩
   case measure=>simp[intOf];omega
  ·
   have hd:decide ((k:Int)<(ks.length:Int))=false:=by simp;omega
   go_wp2_with (fail)
   go_returns
   exact⟨some ⟨w.heap.size,0,none⟩,ks.length,by rw[List.length_map];rfl,Fill.done HF1.out hge rfl (by unfold maxLen;omega) (fun b hb=>by omega) (by omega),hbw⟩
set_option maxHeartbeats 400000 in
theorem eqStringS_any (ks:List ByteArray) (S S':Nat→Prop) (w:World) (A A':Option Addr) (c c':Nat) (hR:Row w S 1 A c (ks.map fun x=>[Dat.str x])) (hR':Row w S' 1 A' c' (ks.map fun x=>[Dat.str x])) :
  Calls Tryz.prog 9 #[.slice A ks.length c,.slice A' ks.length c'] w fun e w'=>e=.returned (.bool true)∧Bel w w':=by
 have HR:=hide hR
 have HR':=hide hR'
 have hlen:=hR.1
 have hcm:=hR.2.1
 have hlen':=hR'.1
 have hcm':=hR'.2.1
 simp only[List.length_map]at hlen hlen'
 unfold maxLen at hcm hcm'
 clear hR hR'
 go_enter Tryz.func9,Tryz.ntmps9
 go_wp2_with (fail)
 go_loopw [5] (fun iv wr=>∃k:Nat,k≤ks.length∧iv=.int .i64 k∧Bel w wr) (fun iv _=>ks.length - (intOf iv).toNat)
 case atStart=>exact⟨0,Nat.zero_le _,rfl,Bel.refl _⟩
 case round =>
  obtain⟨k,hk,rfl,hbw⟩:=hrel
  rcases Nat.lt_or_ge k ks.length with hlt | hge
  ·
   have hd:decide ((k:Int)<(ks.length:Int))=true:=by simp;omega
   have hi0:0≤(k:Int):=by omega
   have hi1:(k:Int)<(ks.length:Int):=by omega
   obtain⟨b1,o1,hA1,hS1,hl1,hz1,c1⟩:=strAt HR.out k hlt
   obtain⟨b2,o2,hA2,hS2,hl2,hz2,c2⟩:=strAt HR'.out k hlt
   subst hA1 hA2
   replace c1:=(hbw.box b1 hl1 _).trans c1
   replace c2:=(hbw.box b2 hl2 _).trans c2
   go_wp2_with (fail)
   go_quiet (fail)
   go_wp2_with (fail)
   all_goals
    go_roundw
    case rel=>exact⟨k+1,by omega,by go_num,bl⟩
    case measure=>simp[intOf];omega
  ·
   have hd:decide ((k:Int)<(ks.length:Int))=false:=by simp;omega
   go_wp2_with (fail)
   go_returns
   exact⟨rfl,hbw⟩
end Go.Proofs.YtehcjlkgfgpjnaaGreatDoor
namespace Go.Proofs.YtehcjlkgfgpjnaaGreatDoor
set_option linter.unusedVariables false
set_option linter.unusedSimpArgs false
set_option maxRecDepth 100000
open Go.RowKit
def SzRecordType (t:TRecordType):Prop:=∀(S:Nat→Prop) (w:World) (vs:List Value) (left:Int),Dat.HoldVals w S t.D vs→0≤left→left≤1048576 →
 Calls Tryz.prog 47 #[.agg vs.toArray,.int .i64 left] w fun e w'=>e=.returned (.int .i64 (szL (Dat.wtL t.D) left))∧Bel w w'
set_option maxHeartbeats 400000 in
theorem szRecordTypeS_of (ks:List TRecordType) (IH:∀(i:Nat) (hi:i<ks.length),SzRecordType ks[i]) (S:Nat→Prop) (w:World) (A:Option Addr) (c:Nat) (left:Int) (hR:Row w S 3 A c (ks.map TRecordType.D)) (h0:0≤left) (h1:left≤1048576) :
  Calls Tryz.prog 20 #[.slice A ks.length c,.int .i64 left] w fun e w'=>e=.returned (.int .i64 (szL (ks.length+Dat.wtR (ks.map TRecordType.D)) left))∧Bel w w':=by
 have IH':=hide IH
 have HR:=hide hR
 have hlen:=hR.1
 have hcm:=hR.2.1
 simp only[List.length_map]at hlen
 unfold maxLen at hcm
 clear IH hR
 rcases Int.lt_or_le left ks.length with hn | hn
 ·
  go_enter Tryz.func20,Tryz.ntmps20
  go_wp2_with (fail)
  all_goals
   go_returns
   exact⟨ret_i64 (by rw[szL_no (by omega)]),bl⟩
 go_enter Tryz.func20,Tryz.ntmps20
 go_wp2_with (fail)
 go_loopw [1,5] (fun lv iv wr=>∃k:Nat,k≤ks.length∧iv=.int .i64 k∧lv=.int .i64 (left - ks.length - (Dat.wtR ((ks.map TRecordType.D).take k):Nat))∧0≤left - ks.length - (Dat.wtR ((ks.map TRecordType.D).take k):Nat)∧Bel w wr) (fun _ iv _=>ks.length - (intOf iv).toNat)
 case atStart=>exact⟨0,Nat.zero_le _,rfl,by simp[Dat.wtR],by simp[Dat.wtR];omega,Bel.refl _⟩
 case round =>
  obtain⟨k,hk,rfl,rfl,hl0,hbw⟩:=hrel
  rcases Nat.lt_or_ge k ks.length with hlt | hge
  ·
   have hd:decide ((k:Int)<(ks.length:Int))=true:=by simp;omega
   (obtain⟨b1,o1,x1_0,x1_1,x1_2,A1_1,C1_1,hA1,hS1,hl1,hx1,hv1,g1_0,g1_1,g1_2,c1_0,c1_1,c1_2⟩:=TRecordType.at HR.out k hlt;subst hA1;have HV1:=hide (Dat.HoldVals.bel hbw hv1);have hh1:=hbw.box b1 hl1;have hw1:=Nat.lt_of_lt_of_le hl1 (Bel.size hbw);replace c1_0:=(hh1 _).trans c1_0;replace c1_1:=(hh1 _).trans c1_1;replace c1_2:=(hh1 _).trans c1_2;have HX1:=hide hx1;have GR1_1:=hide g1_1;clear hh1 hv1 hx1 hS1 g1_1)
   have e1:=hide (Dat.wtR_take (ks.map TRecordType.D) k (by simpa using hlt))
   have e2:=hide (Dat.wtR_le (ks.map TRecordType.D) (k+1))
   have hl1:left - ks.length - (Dat.wtR ((ks.map TRecordType.D).take k):Nat)≤1048576:=by omega
   rcases Int.lt_or_le (left - ks.length - (Dat.wtR ((ks.map TRecordType.D).take k):Nat)) (Dat.wtL ks[k].D)with hq | hq
   ·
    have HZ:=hide (szL_no hq)
    have HQ:=hide hq
    clear hq
    go_wp2_with (fail)
    refine (IH'.out k hlt S _ _ _ (Dat.HoldVals.bel bl HV1.out) hl0 hl1).mono ?_
    rintro e w1 ⟨rfl,hb1⟩
    rw[HZ.out]
    go_wp2_with (fail)
    all_goals
     go_returns
     have e1:=e1.out
     have e2:=e2.out
     have hq:=HQ.out
     rw[List.getElem_map]at e1
     exact⟨ret_i64 (by rw[szL_no (by omega)]),bl⟩
   ·
    have HZ:=hide (szL_yes (show ¬left - ks.length - (Dat.wtR ((ks.map TRecordType.D).take k):Nat)<(Dat.wtL ks[k].D:Nat) by omega))
    go_wp2_with (fail)
    refine (IH'.out k hlt S _ _ _ (Dat.HoldVals.bel bl HV1.out) hl0 hl1).mono ?_
    rintro e w1 ⟨rfl,hb1⟩
    rw[HZ.out]
    go_wp2_with (fail)
    all_goals
     go_roundw
     case rel=>exact⟨k+1,by omega,by go_num,by have e1:=e1.out;rw[List.getElem_map]at e1;rw[e1];go_num,by have e1:=e1.out;rw[List.getElem_map]at e1;rw[e1];omega,bl⟩
     case measure=>simp[intOf];omega
  ·
   have hd:decide ((k:Int)<(ks.length:Int))=false:=by simp;omega
   go_wp2_with (fail)
   go_returns
   rw[List.take_of_length_le (by simp;omega)]at hl0 ⊢
   exact⟨ret_i64 (by rw[szL_yes (by omega)];omega),hbw⟩
def ToRecordType (t:TRecordType):Prop:=∀(S:Nat→Prop) (w:World) (vs:List Value),Dat.HoldVals w S t.D vs→Dat.wtL t.D≤1048576 →
 Calls Tryz.prog 57 #[.agg vs.toArray] w (MadeV w t.D)
set_option maxHeartbeats 400000 in
theorem toRecordTypeS_of (ks:List TRecordType) (IH:∀(i:Nat) (hi:i<ks.length),ToRecordType ks[i]) (S:Nat→Prop) (w:World) (A:Option Addr) (c:Nat) (hR:Row w S 3 A c (ks.map TRecordType.D)) (hwt:ks.length+Dat.wtR (ks.map TRecordType.D)≤1048576) :
    Calls Tryz.prog 27 #[.slice A ks.length c] w (MadeR w 3 (ks.map TRecordType.D)):=by
  have IH':=hide IH
  have HR:=hide hR
  have hlen:=hR.1
  have hcm:=hR.2.1
  simp only[List.length_map]at hlen
  unfold maxLen at hcm
  clear IH hR
  obtain⟨cur,hcur,hmk⟩:=make_rows (P:=Tryz.prog) (t:=31) (e:=92) (k:=3) ks.length (by omega) Tryz.underlying31 (by kernel_rfl)
  have HC:=hide hcur
  clear hcur
  have HW:=hide hwt
  clear hwt
  go_enter Tryz.func27,Tryz.ntmps27
  go_wp2_with (fail)
  have HM:=hide (Bel.refl (w.alloc (.cells cur 92)))
  have HF:=hide (Fill.start w 92 3 ks.length (fun b=>w.heap.size<b) HC.out)
  clear hmk
  go_loopw [4] (fun iv wr=>∃k:Nat,k≤ks.length∧iv=.int .i64 k∧Fill wr w.heap.size 92 3 ks.length (fun b=>w.heap.size<b) ((ks.map TRecordType.D).take k)∧Bel w wr) (fun iv _=>ks.length - (intOf iv).toNat)
  case atStart=>exact⟨0,Nat.zero_le _,rfl,HF.out,bl⟩
  case round =>
    obtain⟨k,hk,rfl,hF,hbw⟩:=hrel
    have HF1:=hide hF
    have hgl:=hF.lt
    clear hF HF
    rcases Nat.lt_or_ge k ks.length with hlt | hge
    · have hd:decide ((k:Int)<(ks.length:Int))=true:=by simp;omega
      have hi0:0≤(k:Int):=by omega
      have hi1:(k:Int)<(ks.length:Int):=by omega
      (obtain⟨b1,o1,x1_0,x1_1,x1_2,A1_1,C1_1,hA1,hS1,hl1,hx1,hv1,g1_0,g1_1,g1_2,c1_0,c1_1,c1_2⟩:=TRecordType.at HR.out k hlt;subst hA1;have HV1:=hide (Dat.HoldVals.bel hbw hv1);have hh1:=hbw.box b1 hl1;have hw1:=Nat.lt_of_lt_of_le hl1 (Bel.size hbw);replace c1_0:=(hh1 _).trans c1_0;replace c1_1:=(hh1 _).trans c1_1;replace c1_2:=(hh1 _).trans c1_2;have HX1:=hide hx1;have GR1_1:=hide g1_1;clear hh1 hv1 hx1 hS1 g1_1)
      have hw:=hide (Dat.wtR_take (ks.map TRecordType.D) k (by simpa using hlt))
      have hw':=hide (Dat.wtR_le (ks.map TRecordType.D) (k+1))
      have hwk:Dat.wtL ks[k].D≤1048576:=by have a:=hw.out;have b:=hw'.out;have c:=HW.out;rw[List.getElem_map]at a;omega
      go_wp2_with (fail)
      refine (IH'.out k hlt S _ _ (Dat.HoldVals.bel bl HV1.out) hwk).mono ?_
      rintro e w1 ⟨vs',rfl,hv',hb1⟩
      have HV':=hide hv'
      rw[HX1.out]at hv'
      obtain⟨A1,c1,rfl,-⟩:=TRecordType.vals hv'
      clear hv'
      have HF2:=hide (Fill.bel HF1.out hb1)
      obtain⟨y0,e0⟩:=HF2.out.cell (i:=k*3) (by omega)
      obtain⟨y1,e1⟩:=HF2.out.cell (i:=k*3+1) (by omega)
      obtain⟨y2,e2⟩:=HF2.out.cell (i:=k*3+2) (by omega)
      have f0:=HF2.out.free (k*3)
      have f1:=HF2.out.free (k*3+1)
      have f2:=HF2.out.free (k*3+2)
      go_wp2_with (fail)
      go_roundw
      case rel =>
       exact⟨k+1,by omega,by go_num,Fill.snoc3 HF2.out hlt rfl (fun b hb=>by omega) HV'.out (fun b hb=>by omega),bl⟩
      case measure=>simp[intOf];omega
    · have hd:decide ((k:Int)<(ks.length:Int))=false:=by simp;omega
      go_wp2_with (fail)
      go_returns
      exact⟨some ⟨w.heap.size,0,none⟩,ks.length,by rw[List.length_map];rfl,Fill.done HF1.out hge rfl (by unfold maxLen;omega) (fun b hb=>by omega) (by omega),hbw⟩
def EqRecordType (t:TRecordType):Prop:=∀(S S':Nat→Prop) (w:World) (vs vs':List Value),Dat.HoldVals w S t.D vs→Dat.HoldVals w S' t.D vs' →
 Calls Tryz.prog 67 #[.agg vs.toArray,.agg vs'.toArray] w fun e w'=>e=.returned (.bool true)∧Bel w w'
set_option maxHeartbeats 400000 in
theorem eqRecordTypeS_of (ks:List TRecordType) (IH:∀(i:Nat) (hi:i<ks.length),EqRecordType ks[i]) (S S':Nat→Prop) (w:World) (A A':Option Addr) (c c':Nat) (hR:Row w S 3 A c (ks.map TRecordType.D)) (hR':Row w S' 3 A' c' (ks.map TRecordType.D)) :
  Calls Tryz.prog 33 #[.slice A ks.length c,.slice A' ks.length c'] w fun e w'=>e=.returned (.bool true)∧Bel w w':=by
 have IH':=hide IH
 have HR:=hide hR
 have HR':=hide hR'
 have hlen:=hR.1
 have hcm:=hR.2.1
 have hlen':=hR'.1
 have hcm':=hR'.2.1
 simp only[List.length_map]at hlen hlen'
 unfold maxLen at hcm hcm'
 clear IH hR hR'
 go_enter Tryz.func33,Tryz.ntmps33
 go_wp2_with (fail)
 go_loopw [5] (fun iv wr=>∃k:Nat,k≤ks.length∧iv=.int .i64 k∧Bel w wr) (fun iv _=>ks.length - (intOf iv).toNat)
 case atStart=>exact⟨0,Nat.zero_le _,rfl,Bel.refl _⟩
 case round =>
  obtain⟨k,hk,rfl,hbw⟩:=hrel
  rcases Nat.lt_or_ge k ks.length with hlt | hge
  ·
   have hd:decide ((k:Int)<(ks.length:Int))=true:=by simp;omega
   have hi0:0≤(k:Int):=by omega
   have hi1:(k:Int)<(ks.length:Int):=by omega
   (obtain⟨b1,o1,x1_0,x1_1,x1_2,A1_1,C1_1,hA1,hS1,hl1,hx1,hv1,g1_0,g1_1,g1_2,c1_0,c1_1,c1_2⟩:=TRecordType.at HR.out k hlt;subst hA1;have HV1:=hide (Dat.HoldVals.bel hbw hv1);have hh1:=hbw.box b1 hl1;have hw1:=Nat.lt_of_lt_of_le hl1 (Bel.size hbw);replace c1_0:=(hh1 _).trans c1_0;replace c1_1:=(hh1 _).trans c1_1;replace c1_2:=(hh1 _).trans c1_2;have HX1:=hide hx1;have GR1_1:=hide g1_1;clear hh1 hv1 hx1 hS1 g1_1)
   (obtain⟨b2,o2,x2_0,x2_1,x2_2,A2_1,C2_1,hA2,hS2,hl2,hx2,hv2,g2_0,g2_1,g2_2,c2_0,c2_1,c2_2⟩:=TRecordType.at HR'.out k hlt;subst hA2;have HV2:=hide (Dat.HoldVals.bel hbw hv2);have hh2:=hbw.box b2 hl2;have hw2:=Nat.lt_of_lt_of_le hl2 (Bel.size hbw);replace c2_0:=(hh2 _).trans c2_0;replace c2_1:=(hh2 _).trans c2_1;replace c2_2:=(hh2 _).trans c2_2;have HX2:=hide hx2;have GR2_1:=hide g2_1;clear hh2 hv2 hx2 hS2 g2_1)
   have HY:=hide (HX1.out.symm.trans HX2.out)
   go_wp2_with (fail)
   go_region_held3 (fun w'=>w'.cell? ⟨b1,o1+k*3,none⟩=some (.string x1_0)∧w'.cell? ⟨b1,o1+k*3+1,none⟩=some (.slice A1_1 x1_1.length C1_1)∧w'.cell? ⟨b1,o1+k*3+2,none⟩=some (.int .i64 x1_2)∧w'.cell? ⟨b2,o2+k*3,none⟩=some (.string x2_0)∧w'.cell? ⟨b2,o2+k*3+1,none⟩=some (.slice A2_1 x2_1.length C2_1)∧w'.cell? ⟨b2,o2+k*3+2,none⟩=some (.int .i64 x2_2)) (go_keep) (first | (go_at_call 67;refine (IH'.out k hlt S S' _ _ _ (Dat.HoldVals.bel bl HV1.out) (Dat.HoldVals.bel bl HV2.out)).mono ?_;rintro e w1 ⟨rfl,hb1⟩;have hq1:=hb1.box b1 (by simp;omega);have hq2:=hb1.box b2 (by simp;omega);simp only[World.cell?_drew]at hq1 hq2))
   all_goals
    go_wp2_with (fail)
    go_roundw
    case rel=>exact⟨k+1,by omega,by go_num,bl⟩
    case measure=>simp[intOf];omega
  ·
   have hd:decide ((k:Int)<(ks.length:Int))=false:=by simp;omega
   go_wp2_with (fail)
   go_returns
   exact⟨rfl,hbw⟩
set_option maxHeartbeats 1000000 in
theorem szRecordType_any:∀t:TRecordType,SzRecordType t:=by
 rintro⟨x0,x1,x2⟩
 intro S w vs left hv h0 h1
 obtain⟨A1,c1,rfl,g0,hR1,g2⟩:=TRecordType.vals hv
 have R1:=hide hR1
 clear hv hR1
 unfold maxLen at g0
 rw[TRecordType.D_mk]
 simp only[Dat.wtL,Dat.wt,List.length_map]
 go_enter Tryz.func47,Tryz.ntmps47
 rcases Int.lt_or_le (left) (x0.size:Int)with hq0 | hq0
 ·
  go_wp2_with (fail)
  all_goals
   go_returns
   exact⟨ret_i64 (by rw[szL_no (by omega)]),bl⟩
 go_wp2_with (fail)
 refine (Calls.szTwo (szStringS_any x1 S _ _ _ _ (Row.bel bl R1.out) (by omega) (by omega))).mono ?_
 rintro e w1 ⟨l1,rfl,hl1,hb1⟩
 (have hz1:=hb1.sz;obtain⟨hk1_0,hf1_0,hl1_0,hn1_0⟩:=hb1.lay (w.heap.size))
 rcases hl1 with⟨hq1,rfl⟩ | ⟨hq1,hz1'⟩
 ·
  have HQ1:=hide hq1
  clear hq1
  go_wp2_with (fail)
  all_goals
   go_returns
   have HQ1':=HQ1.out
   exact⟨ret_i64 (by rw[szL_no (by omega)]),bl⟩
 have HQ1:=hide hq1
 have HL1:=hide hz1'
 have ha1:0≤l1:=by omega
 have hc1:l1≤1048576:=by omega
 clear hq1 hz1'
 go_wp2_with (fail)
 all_goals
  go_returns
  have HQ1':=HQ1.out
  have HL1':=HL1.out
  exact⟨ret_i64 (by rw[szL_yes (by omega)];omega),bl⟩
set_option maxHeartbeats 1000000 in
theorem toRecordType_any:∀t:TRecordType,ToRecordType t:=by
 rintro⟨x0,x1,x2⟩
 intro S w vs hv hwt
 obtain⟨A1,c1,rfl,g0,hR1,g2⟩:=TRecordType.vals hv
 have R1:=hide hR1
 have HW:=hide hwt
 rw[TRecordType.D_mk]at hwt
 simp only[Dat.wtL,Dat.wt,List.length_map]at hwt
 have hw1:x1.length+Dat.wtR (x1.map (fun x=>[Dat.str x]))≤1048576:=by omega
 clear hv hwt hR1
 unfold maxLen at g0
 go_enter Tryz.func57,Tryz.ntmps57
 go_wp2_with (fail)
 refine (toStringS_any x1 S _ _ _ (Row.bel bl R1.out) hw1).mono ?_
 rintro e w1 ⟨B1,d1,rfl,hQ1,hb1⟩
 (have hz1:=hb1.sz;obtain⟨hk1_0,hf1_0,hl1_0,hn1_0⟩:=hb1.lay (w.heap.size);obtain⟨hk1_1,hf1_1,hl1_1,hn1_1⟩:=hb1.lay (w.heap.size+1);obtain⟨hk1_2,hf1_2,hl1_2,hn1_2⟩:=hb1.lay (w.heap.size+1+1))
 have Q1:=hide (Row.wide (S':=fun b=>w.heap.size+2<b) (fun b hb=>by simp at hb;omega) hQ1)
 clear hQ1
 go_wp2_with (fail)
 exact bodyPost_ret (v:=.agg #[.string x0,.slice B1 x1.length d1,.int .i64 x2]) (by simp[results,Tryz.results57,go_sem,hk1_1,hf1_1]) rfl
  ⟨[.string x0,.slice B1 x1.length d1,.int .i64 x2],rfl,TRecordType.vals_mk g0 (Row.wide (fun b hb=>by omega) (Row.off ofl Q1.out)) g2,bl⟩
set_option maxHeartbeats 1000000 in
theorem eqRecordType_any:∀t:TRecordType,EqRecordType t:=by
 rintro⟨x0,x1,x2⟩
 intro S S' w vs vs' hv hv'
 obtain⟨A1,c1,rfl,g0,hR1,g2⟩:=TRecordType.vals hv
 obtain⟨eA1,ec1,rfl,-,ehR1,-⟩:=TRecordType.vals hv'
 have R1:=hide hR1
 have T1:=hide ehR1
 clear hv hv' hR1 ehR1
 unfold maxLen at g0
 go_enter Tryz.func67,Tryz.ntmps67
 go_wp2_with (first
  | (go_at_call 9;(with_reducible refine (eqStringS_any x1 S S' _ _ _ _ _ (Row.bel bl R1.out) (Row.bel bl T1.out)).mono ?_);rintro e w1 ⟨rfl,hb1⟩;have hz1:=hb1.sz;obtain⟨hk1_0,hf1_0,hl1_0,hn1_0⟩:=hb1.lay (w.heap.size);obtain⟨hk1_1,hf1_1,hl1_1,hn1_1⟩:=hb1.lay (w.heap.size+1);(try simp only[VVal.val])))
 all_goals
  go_returns
  exact⟨rfl,bl⟩
theorem szRecordTypeS_any (ks:List TRecordType) (S:Nat→Prop) (w:World) (A:Option Addr) (c:Nat) (left:Int) (hR:Row w S 3 A c (ks.map TRecordType.D)) (h0:0≤left) (h1:left≤1048576) :
  Calls Tryz.prog 20 #[.slice A ks.length c,.int .i64 left] w fun e w'=>e=.returned (.int .i64 (szL (ks.length+Dat.wtR (ks.map TRecordType.D)) left))∧Bel w w':=szRecordTypeS_of ks (fun _ _=>szRecordType_any _) S w A c left hR h0 h1
theorem toRecordTypeS_any (ks:List TRecordType) (S:Nat→Prop) (w:World) (A:Option Addr) (c:Nat) (hR:Row w S 3 A c (ks.map TRecordType.D)) (hwt:ks.length+Dat.wtR (ks.map TRecordType.D)≤1048576) :
  Calls Tryz.prog 27 #[.slice A ks.length c] w (MadeR w 3 (ks.map TRecordType.D)):=toRecordTypeS_of ks (fun _ _=>toRecordType_any _) S w A c hR hwt
theorem eqRecordTypeS_any (ks:List TRecordType) (S S':Nat→Prop) (w:World) (A A':Option Addr) (c c':Nat) (hR:Row w S 3 A c (ks.map TRecordType.D)) (hR':Row w S' 3 A' c' (ks.map TRecordType.D)) :
  Calls Tryz.prog 33 #[.slice A ks.length c,.slice A' ks.length c'] w fun e w'=>e=.returned (.bool true)∧Bel w w':=eqRecordTypeS_of ks (fun _ _=>eqRecordType_any _) S S' w A A' c c' hR hR'
end Go.Proofs.YtehcjlkgfgpjnaaGreatDoor
namespace Go.Proofs.YtehcjlkgfgpjnaaGreatDoor
set_option linter.unusedVariables false
set_option linter.unusedSimpArgs false
set_option maxRecDepth 100000
open Go.RowKit
def SzValue (t:TValue):Prop:=∀(S:Nat→Prop) (w:World) (vs:List Value) (left:Int),Dat.HoldVals w S t.D vs→0≤left→left≤1048576 →
 Calls Tryz.prog 49 #[.agg vs.toArray,.int .i64 left] w fun e w'=>e=.returned (.int .i64 (szL (Dat.wtL t.D) left))∧Bel w w'
set_option maxHeartbeats 400000 in
theorem szValueS_of (ks:List TValue) (IH:∀(i:Nat) (hi:i<ks.length),SzValue ks[i]) (S:Nat→Prop) (w:World) (A:Option Addr) (c:Nat) (left:Int) (hR:Row w S 6 A c (ks.map TValue.D)) (h0:0≤left) (h1:left≤1048576) :
  Calls Tryz.prog 22 #[.slice A ks.length c,.int .i64 left] w fun e w'=>e=.returned (.int .i64 (szL (ks.length+Dat.wtR (ks.map TValue.D)) left))∧Bel w w':=by
 have IH':=hide IH
 have HR:=hide hR
 have hlen:=hR.1
 have hcm:=hR.2.1
 simp only[List.length_map]at hlen
 unfold maxLen at hcm
 clear IH hR
 rcases Int.lt_or_le left ks.length with hn | hn
 ·
  go_enter Tryz.func22,Tryz.ntmps22
  go_wp2_with (fail)
  all_goals
   go_returns
   exact⟨ret_i64 (by rw[szL_no (by omega)]),bl⟩
 go_enter Tryz.func22,Tryz.ntmps22
 go_wp2_with (fail)
 go_loopw [1,5] (fun lv iv wr=>∃k:Nat,k≤ks.length∧iv=.int .i64 k∧lv=.int .i64 (left - ks.length - (Dat.wtR ((ks.map TValue.D).take k):Nat))∧0≤left - ks.length - (Dat.wtR ((ks.map TValue.D).take k):Nat)∧Bel w wr) (fun _ iv _=>ks.length - (intOf iv).toNat)
 case atStart=>exact⟨0,Nat.zero_le _,rfl,by simp[Dat.wtR],by simp[Dat.wtR];omega,Bel.refl _⟩
 case round =>
  obtain⟨k,hk,rfl,rfl,hl0,hbw⟩:=hrel
  rcases Nat.lt_or_ge k ks.length with hlt | hge
  ·
   have hd:decide ((k:Int)<(ks.length:Int))=true:=by simp;omega
   (obtain⟨b1,o1,x1_0,x1_1,x1_2,x1_3,x1_4,x1_5,hA1,hS1,hl1,hx1,hv1,g1_0,g1_1,g1_2,g1_3,g1_4,g1_5,c1_0,c1_1,c1_2,c1_3,c1_4,c1_5⟩:=TValue.at HR.out k hlt;subst hA1;have HV1:=hide (Dat.HoldVals.bel hbw hv1);have hh1:=hbw.box b1 hl1;have hw1:=Nat.lt_of_lt_of_le hl1 (Bel.size hbw);replace c1_0:=(hh1 _).trans c1_0;replace c1_1:=(hh1 _).trans c1_1;replace c1_2:=(hh1 _).trans c1_2;replace c1_3:=(hh1 _).trans c1_3;replace c1_4:=(hh1 _).trans c1_4;replace c1_5:=(hh1 _).trans c1_5;have HX1:=hide hx1;clear hh1 hv1 hx1 hS1)
   have e1:=hide (Dat.wtR_take (ks.map TValue.D) k (by simpa using hlt))
   have e2:=hide (Dat.wtR_le (ks.map TValue.D) (k+1))
   have hl1:left - ks.length - (Dat.wtR ((ks.map TValue.D).take k):Nat)≤1048576:=by omega
   rcases Int.lt_or_le (left - ks.length - (Dat.wtR ((ks.map TValue.D).take k):Nat)) (Dat.wtL ks[k].D)with hq | hq
   ·
    have HZ:=hide (szL_no hq)
    have HQ:=hide hq
    clear hq
    go_wp2_with (fail)
    refine (IH'.out k hlt S _ _ _ (Dat.HoldVals.bel bl HV1.out) hl0 hl1).mono ?_
    rintro e w1 ⟨rfl,hb1⟩
    rw[HZ.out]
    go_wp2_with (fail)
    all_goals
     go_returns
     have e1:=e1.out
     have e2:=e2.out
     have hq:=HQ.out
     rw[List.getElem_map]at e1
     exact⟨ret_i64 (by rw[szL_no (by omega)]),bl⟩
   ·
    have HZ:=hide (szL_yes (show ¬left - ks.length - (Dat.wtR ((ks.map TValue.D).take k):Nat)<(Dat.wtL ks[k].D:Nat) by omega))
    go_wp2_with (fail)
    refine (IH'.out k hlt S _ _ _ (Dat.HoldVals.bel bl HV1.out) hl0 hl1).mono ?_
    rintro e w1 ⟨rfl,hb1⟩
    rw[HZ.out]
    go_wp2_with (fail)
    all_goals
     go_roundw
     case rel=>exact⟨k+1,by omega,by go_num,by have e1:=e1.out;rw[List.getElem_map]at e1;rw[e1];go_num,by have e1:=e1.out;rw[List.getElem_map]at e1;rw[e1];omega,bl⟩
     case measure=>simp[intOf];omega
  ·
   have hd:decide ((k:Int)<(ks.length:Int))=false:=by simp;omega
   go_wp2_with (fail)
   go_returns
   rw[List.take_of_length_le (by simp;omega)]at hl0 ⊢
   exact⟨ret_i64 (by rw[szL_yes (by omega)];omega),hbw⟩
def ToValue (t:TValue):Prop:=∀(S:Nat→Prop) (w:World) (vs:List Value),Dat.HoldVals w S t.D vs→Dat.wtL t.D≤1048576 →
 Calls Tryz.prog 59 #[.agg vs.toArray] w (MadeV w t.D)
set_option maxHeartbeats 400000 in
theorem toValueS_of (ks:List TValue) (IH:∀(i:Nat) (hi:i<ks.length),ToValue ks[i]) (S:Nat→Prop) (w:World) (A:Option Addr) (c:Nat) (hR:Row w S 6 A c (ks.map TValue.D)) (hwt:ks.length+Dat.wtR (ks.map TValue.D)≤1048576) :
    Calls Tryz.prog 29 #[.slice A ks.length c] w (MadeR w 6 (ks.map TValue.D)):=by
  have IH':=hide IH
  have HR:=hide hR
  have hlen:=hR.1
  have hcm:=hR.2.1
  simp only[List.length_map]at hlen
  unfold maxLen at hcm
  clear IH hR
  obtain⟨cur,hcur,hmk⟩:=make_rows (P:=Tryz.prog) (t:=33) (e:=48) (k:=6) ks.length (by omega) Tryz.underlying33 (by kernel_rfl)
  have HC:=hide hcur
  clear hcur
  have HW:=hide hwt
  clear hwt
  go_enter Tryz.func29,Tryz.ntmps29
  go_wp2_with (fail)
  have HM:=hide (Bel.refl (w.alloc (.cells cur 48)))
  have HF:=hide (Fill.start w 48 6 ks.length (fun b=>w.heap.size<b) HC.out)
  clear hmk
  go_loopw [4] (fun iv wr=>∃k:Nat,k≤ks.length∧iv=.int .i64 k∧Fill wr w.heap.size 48 6 ks.length (fun b=>w.heap.size<b) ((ks.map TValue.D).take k)∧Bel w wr) (fun iv _=>ks.length - (intOf iv).toNat)
  case atStart=>exact⟨0,Nat.zero_le _,rfl,HF.out,bl⟩
  case round =>
    obtain⟨k,hk,rfl,hF,hbw⟩:=hrel
    have HF1:=hide hF
    have hgl:=hF.lt
    clear hF HF
    rcases Nat.lt_or_ge k ks.length with hlt | hge
    · have hd:decide ((k:Int)<(ks.length:Int))=true:=by simp;omega
      have hi0:0≤(k:Int):=by omega
      have hi1:(k:Int)<(ks.length:Int):=by omega
      (obtain⟨b1,o1,x1_0,x1_1,x1_2,x1_3,x1_4,x1_5,hA1,hS1,hl1,hx1,hv1,g1_0,g1_1,g1_2,g1_3,g1_4,g1_5,c1_0,c1_1,c1_2,c1_3,c1_4,c1_5⟩:=TValue.at HR.out k hlt;subst hA1;have HV1:=hide (Dat.HoldVals.bel hbw hv1);have hh1:=hbw.box b1 hl1;have hw1:=Nat.lt_of_lt_of_le hl1 (Bel.size hbw);replace c1_0:=(hh1 _).trans c1_0;replace c1_1:=(hh1 _).trans c1_1;replace c1_2:=(hh1 _).trans c1_2;replace c1_3:=(hh1 _).trans c1_3;replace c1_4:=(hh1 _).trans c1_4;replace c1_5:=(hh1 _).trans c1_5;have HX1:=hide hx1;clear hh1 hv1 hx1 hS1)
      have hw:=hide (Dat.wtR_take (ks.map TValue.D) k (by simpa using hlt))
      have hw':=hide (Dat.wtR_le (ks.map TValue.D) (k+1))
      have hwk:Dat.wtL ks[k].D≤1048576:=by have a:=hw.out;have b:=hw'.out;have c:=HW.out;rw[List.getElem_map]at a;omega
      go_wp2_with (fail)
      refine (IH'.out k hlt S _ _ (Dat.HoldVals.bel bl HV1.out) hwk).mono ?_
      rintro e w1 ⟨vs',rfl,hv',hb1⟩
      have HV':=hide hv'
      rw[HX1.out]at hv'
      obtain⟨rfl,-⟩:=TValue.vals hv'
      clear hv'
      have HF2:=hide (Fill.bel HF1.out hb1)
      obtain⟨y0,e0⟩:=HF2.out.cell (i:=k*6) (by omega)
      obtain⟨y1,e1⟩:=HF2.out.cell (i:=k*6+1) (by omega)
      obtain⟨y2,e2⟩:=HF2.out.cell (i:=k*6+2) (by omega)
      obtain⟨y3,e3⟩:=HF2.out.cell (i:=k*6+3) (by omega)
      obtain⟨y4,e4⟩:=HF2.out.cell (i:=k*6+4) (by omega)
      obtain⟨y5,e5⟩:=HF2.out.cell (i:=k*6+5) (by omega)
      have f0:=HF2.out.free (k*6)
      have f1:=HF2.out.free (k*6+1)
      have f2:=HF2.out.free (k*6+2)
      have f3:=HF2.out.free (k*6+3)
      have f4:=HF2.out.free (k*6+4)
      have f5:=HF2.out.free (k*6+5)
      go_wp2_with (fail)
      go_roundw
      case rel =>
       exact⟨k+1,by omega,by go_num,Fill.snoc6 HF2.out hlt rfl (fun b hb=>by omega) HV'.out (fun b hb=>by omega),bl⟩
      case measure=>simp[intOf];omega
    · have hd:decide ((k:Int)<(ks.length:Int))=false:=by simp;omega
      go_wp2_with (fail)
      go_returns
      exact⟨some ⟨w.heap.size,0,none⟩,ks.length,by rw[List.length_map];rfl,Fill.done HF1.out hge rfl (by unfold maxLen;omega) (fun b hb=>by omega) (by omega),hbw⟩
def EqValue (t:TValue):Prop:=∀(S S':Nat→Prop) (w:World) (vs vs':List Value),Dat.HoldVals w S t.D vs→Dat.HoldVals w S' t.D vs' →
 Calls Tryz.prog 69 #[.agg vs.toArray,.agg vs'.toArray] w fun e w'=>e=.returned (.bool true)∧Bel w w'
set_option maxHeartbeats 400000 in
theorem eqValueS_of (ks:List TValue) (IH:∀(i:Nat) (hi:i<ks.length),EqValue ks[i]) (S S':Nat→Prop) (w:World) (A A':Option Addr) (c c':Nat) (hR:Row w S 6 A c (ks.map TValue.D)) (hR':Row w S' 6 A' c' (ks.map TValue.D)) :
  Calls Tryz.prog 35 #[.slice A ks.length c,.slice A' ks.length c'] w fun e w'=>e=.returned (.bool true)∧Bel w w':=by
 have IH':=hide IH
 have HR:=hide hR
 have HR':=hide hR'
 have hlen:=hR.1
 have hcm:=hR.2.1
 have hlen':=hR'.1
 have hcm':=hR'.2.1
 simp only[List.length_map]at hlen hlen'
 unfold maxLen at hcm hcm'
 clear IH hR hR'
 go_enter Tryz.func35,Tryz.ntmps35
 go_wp2_with (fail)
 go_loopw [5] (fun iv wr=>∃k:Nat,k≤ks.length∧iv=.int .i64 k∧Bel w wr) (fun iv _=>ks.length - (intOf iv).toNat)
 case atStart=>exact⟨0,Nat.zero_le _,rfl,Bel.refl _⟩
 case round =>
  obtain⟨k,hk,rfl,hbw⟩:=hrel
  rcases Nat.lt_or_ge k ks.length with hlt | hge
  ·
   have hd:decide ((k:Int)<(ks.length:Int))=true:=by simp;omega
   have hi0:0≤(k:Int):=by omega
   have hi1:(k:Int)<(ks.length:Int):=by omega
   (obtain⟨b1,o1,x1_0,x1_1,x1_2,x1_3,x1_4,x1_5,hA1,hS1,hl1,hx1,hv1,g1_0,g1_1,g1_2,g1_3,g1_4,g1_5,c1_0,c1_1,c1_2,c1_3,c1_4,c1_5⟩:=TValue.at HR.out k hlt;subst hA1;have HV1:=hide (Dat.HoldVals.bel hbw hv1);have hh1:=hbw.box b1 hl1;have hw1:=Nat.lt_of_lt_of_le hl1 (Bel.size hbw);replace c1_0:=(hh1 _).trans c1_0;replace c1_1:=(hh1 _).trans c1_1;replace c1_2:=(hh1 _).trans c1_2;replace c1_3:=(hh1 _).trans c1_3;replace c1_4:=(hh1 _).trans c1_4;replace c1_5:=(hh1 _).trans c1_5;have HX1:=hide hx1;clear hh1 hv1 hx1 hS1)
   (obtain⟨b2,o2,x2_0,x2_1,x2_2,x2_3,x2_4,x2_5,hA2,hS2,hl2,hx2,hv2,g2_0,g2_1,g2_2,g2_3,g2_4,g2_5,c2_0,c2_1,c2_2,c2_3,c2_4,c2_5⟩:=TValue.at HR'.out k hlt;subst hA2;have HV2:=hide (Dat.HoldVals.bel hbw hv2);have hh2:=hbw.box b2 hl2;have hw2:=Nat.lt_of_lt_of_le hl2 (Bel.size hbw);replace c2_0:=(hh2 _).trans c2_0;replace c2_1:=(hh2 _).trans c2_1;replace c2_2:=(hh2 _).trans c2_2;replace c2_3:=(hh2 _).trans c2_3;replace c2_4:=(hh2 _).trans c2_4;replace c2_5:=(hh2 _).trans c2_5;have HX2:=hide hx2;clear hh2 hv2 hx2 hS2)
   have HY:=hide (HX1.out.symm.trans HX2.out)
   go_wp2_with (fail)
   go_region_held3 (fun w'=>w'.cell? ⟨b1,o1+k*6,none⟩=some (.int .i64 x1_0)∧w'.cell? ⟨b1,o1+k*6+1,none⟩=some (.int .i64 x1_1)∧w'.cell? ⟨b1,o1+k*6+2,none⟩=some (.int .i64 x1_2)∧w'.cell? ⟨b1,o1+k*6+3,none⟩=some (.string x1_3)∧w'.cell? ⟨b1,o1+k*6+4,none⟩=some (.int .i64 x1_4)∧w'.cell? ⟨b1,o1+k*6+5,none⟩=some (.int .i64 x1_5)∧w'.cell? ⟨b2,o2+k*6,none⟩=some (.int .i64 x2_0)∧w'.cell? ⟨b2,o2+k*6+1,none⟩=some (.int .i64 x2_1)∧w'.cell? ⟨b2,o2+k*6+2,none⟩=some (.int .i64 x2_2)∧w'.cell? ⟨b2,o2+k*6+3,none⟩=some (.string x2_3)∧w'.cell? ⟨b2,o2+k*6+4,none⟩=some (.int .i64 x2_4)∧w'.cell? ⟨b2,o2+k*6+5,none⟩=some (.int .i64 x2_5)) (go_keep) (first | (go_at_call 69;refine (IH'.out k hlt S S' _ _ _ (Dat.HoldVals.bel bl HV1.out) (Dat.HoldVals.bel bl HV2.out)).mono ?_;rintro e w1 ⟨rfl,hb1⟩;have hq1:=hb1.box b1 (by simp;omega);have hq2:=hb1.box b2 (by simp;omega);simp only[World.cell?_drew]at hq1 hq2))
   all_goals
    go_wp2_with (fail)
    go_roundw
    case rel=>exact⟨k+1,by omega,by go_num,bl⟩
    case measure=>simp[intOf];omega
  ·
   have hd:decide ((k:Int)<(ks.length:Int))=false:=by simp;omega
   go_wp2_with (fail)
   go_returns
   exact⟨rfl,hbw⟩
set_option maxHeartbeats 1000000 in
theorem szValT_any:∀t:TValue,SzValue t:=by
 rintro⟨x0,x1,x2,x3,x4,x5⟩
 intro S w vs left hv h0 h1
 obtain⟨rfl,g0,g1,g2,g3,g4,g5⟩:=TValue.vals hv
 clear hv
 unfold maxLen at g3
 rw[TValue.D_mk]
 simp only[Dat.wtL,Dat.wt,List.length_map]
 go_enter Tryz.func49,Tryz.ntmps49
 rcases Int.lt_or_le (left) (x3.size:Int)with hq3 | hq3
 ·
  go_wp2_with (fail)
  all_goals
   go_returns
   exact⟨ret_i64 (by rw[szL_no (by omega)]),bl⟩
 go_wp2_with (fail)
 all_goals
  go_returns
  exact⟨ret_i64 (by rw[szL_yes (by omega)];omega),bl⟩
set_option maxHeartbeats 1000000 in
theorem toValT_any:∀t:TValue,ToValue t:=by
 rintro⟨x0,x1,x2,x3,x4,x5⟩
 intro S w vs hv hwt
 obtain⟨rfl,g0,g1,g2,g3,g4,g5⟩:=TValue.vals hv
 have HW:=hide hwt
 rw[TValue.D_mk]at hwt
 simp only[Dat.wtL,Dat.wt,List.length_map]at hwt
 clear hv hwt
 unfold maxLen at g3
 go_enter Tryz.func59,Tryz.ntmps59
 go_wp2_with (fail)
 refine (toCset_flat x4 x5 _).mono ?_
 rintro e w1 ⟨rfl,hb1⟩
 (have hz1:=hb1.sz;obtain⟨hk1_0,hf1_0,hl1_0,hn1_0⟩:=hb1.lay (w.heap.size);obtain⟨hk1_1,hf1_1,hl1_1,hn1_1⟩:=hb1.lay (w.heap.size+1);obtain⟨hk1_2,hf1_2,hl1_2,hn1_2⟩:=hb1.lay (w.heap.size+1+1))
 go_wp2_with (fail)
 exact bodyPost_ret (v:=.agg #[.int .i64 x0,.int .i64 x1,.int .i64 x2,.string x3,.int .i64 x4,.int .i64 x5]) (by simp[results,Tryz.results59,go_sem,hk1_1,hf1_1]) rfl
  ⟨[.int .i64 x0,.int .i64 x1,.int .i64 x2,.string x3,.int .i64 x4,.int .i64 x5],rfl,TValue.vals_mk g0 g1 g2 g3 g4 g5,bl⟩
set_option maxHeartbeats 1000000 in
theorem eqValT_any:∀t:TValue,EqValue t:=by
 rintro⟨x0,x1,x2,x3,x4,x5⟩
 intro S S' w vs vs' hv hv'
 obtain⟨rfl,g0,g1,g2,g3,g4,g5⟩:=TValue.vals hv
 obtain⟨rfl,-,-,-,-,-,-⟩:=TValue.vals hv'
 clear hv hv'
 unfold maxLen at g3
 go_enter Tryz.func69,Tryz.ntmps69
 go_wp2_with (first
  | (go_at_call 105;(with_reducible refine (eqCset_same x4 x5 _).mono ?_);rintro e w1 ⟨rfl,hb1⟩;have hz1:=hb1.sz;obtain⟨hk1_0,hf1_0,hl1_0,hn1_0⟩:=hb1.lay (w.heap.size);obtain⟨hk1_1,hf1_1,hl1_1,hn1_1⟩:=hb1.lay (w.heap.size+1);(try simp only[VVal.val])))
 all_goals
  go_returns
  exact⟨rfl,bl⟩
theorem szValueS_any (ks:List TValue) (S:Nat→Prop) (w:World) (A:Option Addr) (c:Nat) (left:Int) (hR:Row w S 6 A c (ks.map TValue.D)) (h0:0≤left) (h1:left≤1048576) :
  Calls Tryz.prog 22 #[.slice A ks.length c,.int .i64 left] w fun e w'=>e=.returned (.int .i64 (szL (ks.length+Dat.wtR (ks.map TValue.D)) left))∧Bel w w':=szValueS_of ks (fun _ _=>szValT_any _) S w A c left hR h0 h1
theorem toValueS_any (ks:List TValue) (S:Nat→Prop) (w:World) (A:Option Addr) (c:Nat) (hR:Row w S 6 A c (ks.map TValue.D)) (hwt:ks.length+Dat.wtR (ks.map TValue.D)≤1048576) :
  Calls Tryz.prog 29 #[.slice A ks.length c] w (MadeR w 6 (ks.map TValue.D)):=toValueS_of ks (fun _ _=>toValT_any _) S w A c hR hwt
theorem eqValueS_any (ks:List TValue) (S S':Nat→Prop) (w:World) (A A':Option Addr) (c c':Nat) (hR:Row w S 6 A c (ks.map TValue.D)) (hR':Row w S' 6 A' c' (ks.map TValue.D)) :
  Calls Tryz.prog 35 #[.slice A ks.length c,.slice A' ks.length c'] w fun e w'=>e=.returned (.bool true)∧Bel w w':=eqValueS_of ks (fun _ _=>eqValT_any _) S S' w A A' c c' hR hR'
end Go.Proofs.YtehcjlkgfgpjnaaGreatDoor
namespace Go.Proofs.YtehcjlkgfgpjnaaGreatDoor
set_option linter.unusedVariables false
set_option linter.unusedSimpArgs false
set_option maxRecDepth 100000
open Go.RowKit
def SzObject (t:TObject):Prop:=∀(S:Nat→Prop) (w:World) (vs:List Value) (left:Int),Dat.HoldVals w S t.D vs→0≤left→left≤1048576 →
 Calls Tryz.prog 48 #[.agg vs.toArray,.int .i64 left] w fun e w'=>e=.returned (.int .i64 (szL (Dat.wtL t.D) left))∧Bel w w'
set_option maxHeartbeats 400000 in
theorem szObjectS_of (ks:List TObject) (IH:∀(i:Nat) (hi:i<ks.length),SzObject ks[i]) (S:Nat→Prop) (w:World) (A:Option Addr) (c:Nat) (left:Int) (hR:Row w S 5 A c (ks.map TObject.D)) (h0:0≤left) (h1:left≤1048576) :
  Calls Tryz.prog 21 #[.slice A ks.length c,.int .i64 left] w fun e w'=>e=.returned (.int .i64 (szL (ks.length+Dat.wtR (ks.map TObject.D)) left))∧Bel w w':=by
 have IH':=hide IH
 have HR:=hide hR
 have hlen:=hR.1
 have hcm:=hR.2.1
 simp only[List.length_map]at hlen
 unfold maxLen at hcm
 clear IH hR
 rcases Int.lt_or_le left ks.length with hn | hn
 ·
  go_enter Tryz.func21,Tryz.ntmps21
  go_wp2_with (fail)
  all_goals
   go_returns
   exact⟨ret_i64 (by rw[szL_no (by omega)]),bl⟩
 go_enter Tryz.func21,Tryz.ntmps21
 go_wp2_with (fail)
 go_loopw [1,5] (fun lv iv wr=>∃k:Nat,k≤ks.length∧iv=.int .i64 k∧lv=.int .i64 (left - ks.length - (Dat.wtR ((ks.map TObject.D).take k):Nat))∧0≤left - ks.length - (Dat.wtR ((ks.map TObject.D).take k):Nat)∧Bel w wr) (fun _ iv _=>ks.length - (intOf iv).toNat)
 case atStart=>exact⟨0,Nat.zero_le _,rfl,by simp[Dat.wtR],by simp[Dat.wtR];omega,Bel.refl _⟩
 case round =>
  obtain⟨k,hk,rfl,rfl,hl0,hbw⟩:=hrel
  rcases Nat.lt_or_ge k ks.length with hlt | hge
  ·
   have hd:decide ((k:Int)<(ks.length:Int))=true:=by simp;omega
   (obtain⟨b1,o1,x1_0,x1_1,x1_2,x1_3,x1_4,A1_3,C1_3,A1_4,C1_4,hA1,hS1,hl1,hx1,hv1,g1_0,g1_1,g1_2,g1_3,g1_4,c1_0,c1_1,c1_2,c1_3,c1_4⟩:=TObject.at HR.out k hlt;subst hA1;have HV1:=hide (Dat.HoldVals.bel hbw hv1);have hh1:=hbw.box b1 hl1;have hw1:=Nat.lt_of_lt_of_le hl1 (Bel.size hbw);replace c1_0:=(hh1 _).trans c1_0;replace c1_1:=(hh1 _).trans c1_1;replace c1_2:=(hh1 _).trans c1_2;replace c1_3:=(hh1 _).trans c1_3;replace c1_4:=(hh1 _).trans c1_4;have HX1:=hide hx1;have GR1_3:=hide g1_3;have GR1_4:=hide g1_4;clear hh1 hv1 hx1 hS1 g1_3 g1_4)
   have e1:=hide (Dat.wtR_take (ks.map TObject.D) k (by simpa using hlt))
   have e2:=hide (Dat.wtR_le (ks.map TObject.D) (k+1))
   have hl1:left - ks.length - (Dat.wtR ((ks.map TObject.D).take k):Nat)≤1048576:=by omega
   rcases Int.lt_or_le (left - ks.length - (Dat.wtR ((ks.map TObject.D).take k):Nat)) (Dat.wtL ks[k].D)with hq | hq
   ·
    have HZ:=hide (szL_no hq)
    have HQ:=hide hq
    clear hq
    go_wp2_with (fail)
    refine (IH'.out k hlt S _ _ _ (Dat.HoldVals.bel bl HV1.out) hl0 hl1).mono ?_
    rintro e w1 ⟨rfl,hb1⟩
    rw[HZ.out]
    go_wp2_with (fail)
    all_goals
     go_returns
     have e1:=e1.out
     have e2:=e2.out
     have hq:=HQ.out
     rw[List.getElem_map]at e1
     exact⟨ret_i64 (by rw[szL_no (by omega)]),bl⟩
   ·
    have HZ:=hide (szL_yes (show ¬left - ks.length - (Dat.wtR ((ks.map TObject.D).take k):Nat)<(Dat.wtL ks[k].D:Nat) by omega))
    go_wp2_with (fail)
    refine (IH'.out k hlt S _ _ _ (Dat.HoldVals.bel bl HV1.out) hl0 hl1).mono ?_
    rintro e w1 ⟨rfl,hb1⟩
    rw[HZ.out]
    go_wp2_with (fail)
    all_goals
     go_roundw
     case rel=>exact⟨k+1,by omega,by go_num,by have e1:=e1.out;rw[List.getElem_map]at e1;rw[e1];go_num,by have e1:=e1.out;rw[List.getElem_map]at e1;rw[e1];omega,bl⟩
     case measure=>simp[intOf];omega
  ·
   have hd:decide ((k:Int)<(ks.length:Int))=false:=by simp;omega
   go_wp2_with (fail)
   go_returns
   rw[List.take_of_length_le (by simp;omega)]at hl0 ⊢
   exact⟨ret_i64 (by rw[szL_yes (by omega)];omega),hbw⟩
def ToObject (t:TObject):Prop:=∀(S:Nat→Prop) (w:World) (vs:List Value),Dat.HoldVals w S t.D vs→Dat.wtL t.D≤1048576 →
 Calls Tryz.prog 58 #[.agg vs.toArray] w (MadeV w t.D)
set_option maxHeartbeats 400000 in
theorem toObjectS_of (ks:List TObject) (IH:∀(i:Nat) (hi:i<ks.length),ToObject ks[i]) (S:Nat→Prop) (w:World) (A:Option Addr) (c:Nat) (hR:Row w S 5 A c (ks.map TObject.D)) (hwt:ks.length+Dat.wtR (ks.map TObject.D)≤1048576) :
    Calls Tryz.prog 28 #[.slice A ks.length c] w (MadeR w 5 (ks.map TObject.D)):=by
  have IH':=hide IH
  have HR:=hide hR
  have hlen:=hR.1
  have hcm:=hR.2.1
  simp only[List.length_map]at hlen
  unfold maxLen at hcm
  clear IH hR
  obtain⟨cur,hcur,hmk⟩:=make_rows (P:=Tryz.prog) (t:=32) (e:=98) (k:=5) ks.length (by omega) Tryz.underlying32 (by kernel_rfl)
  have HC:=hide hcur
  clear hcur
  have HW:=hide hwt
  clear hwt
  go_enter Tryz.func28,Tryz.ntmps28
  go_wp2_with (fail)
  have HM:=hide (Bel.refl (w.alloc (.cells cur 98)))
  have HF:=hide (Fill.start w 98 5 ks.length (fun b=>w.heap.size<b) HC.out)
  clear hmk
  go_loopw [4] (fun iv wr=>∃k:Nat,k≤ks.length∧iv=.int .i64 k∧Fill wr w.heap.size 98 5 ks.length (fun b=>w.heap.size<b) ((ks.map TObject.D).take k)∧Bel w wr) (fun iv _=>ks.length - (intOf iv).toNat)
  case atStart=>exact⟨0,Nat.zero_le _,rfl,HF.out,bl⟩
  case round =>
    obtain⟨k,hk,rfl,hF,hbw⟩:=hrel
    have HF1:=hide hF
    have hgl:=hF.lt
    clear hF HF
    rcases Nat.lt_or_ge k ks.length with hlt | hge
    · have hd:decide ((k:Int)<(ks.length:Int))=true:=by simp;omega
      have hi0:0≤(k:Int):=by omega
      have hi1:(k:Int)<(ks.length:Int):=by omega
      (obtain⟨b1,o1,x1_0,x1_1,x1_2,x1_3,x1_4,A1_3,C1_3,A1_4,C1_4,hA1,hS1,hl1,hx1,hv1,g1_0,g1_1,g1_2,g1_3,g1_4,c1_0,c1_1,c1_2,c1_3,c1_4⟩:=TObject.at HR.out k hlt;subst hA1;have HV1:=hide (Dat.HoldVals.bel hbw hv1);have hh1:=hbw.box b1 hl1;have hw1:=Nat.lt_of_lt_of_le hl1 (Bel.size hbw);replace c1_0:=(hh1 _).trans c1_0;replace c1_1:=(hh1 _).trans c1_1;replace c1_2:=(hh1 _).trans c1_2;replace c1_3:=(hh1 _).trans c1_3;replace c1_4:=(hh1 _).trans c1_4;have HX1:=hide hx1;have GR1_3:=hide g1_3;have GR1_4:=hide g1_4;clear hh1 hv1 hx1 hS1 g1_3 g1_4)
      have hw:=hide (Dat.wtR_take (ks.map TObject.D) k (by simpa using hlt))
      have hw':=hide (Dat.wtR_le (ks.map TObject.D) (k+1))
      have hwk:Dat.wtL ks[k].D≤1048576:=by have a:=hw.out;have b:=hw'.out;have c:=HW.out;rw[List.getElem_map]at a;omega
      go_wp2_with (fail)
      refine (IH'.out k hlt S _ _ (Dat.HoldVals.bel bl HV1.out) hwk).mono ?_
      rintro e w1 ⟨vs',rfl,hv',hb1⟩
      have HV':=hide hv'
      rw[HX1.out]at hv'
      obtain⟨A3,c3,A4,c4,rfl,-⟩:=TObject.vals hv'
      clear hv'
      have HF2:=hide (Fill.bel HF1.out hb1)
      obtain⟨y0,e0⟩:=HF2.out.cell (i:=k*5) (by omega)
      obtain⟨y1,e1⟩:=HF2.out.cell (i:=k*5+1) (by omega)
      obtain⟨y2,e2⟩:=HF2.out.cell (i:=k*5+2) (by omega)
      obtain⟨y3,e3⟩:=HF2.out.cell (i:=k*5+3) (by omega)
      obtain⟨y4,e4⟩:=HF2.out.cell (i:=k*5+4) (by omega)
      have f0:=HF2.out.free (k*5)
      have f1:=HF2.out.free (k*5+1)
      have f2:=HF2.out.free (k*5+2)
      have f3:=HF2.out.free (k*5+3)
      have f4:=HF2.out.free (k*5+4)
      go_wp2_with (fail)
      go_roundw
      case rel =>
       exact⟨k+1,by omega,by go_num,Fill.snoc5 HF2.out hlt rfl (fun b hb=>by omega) HV'.out (fun b hb=>by omega),bl⟩
      case measure=>simp[intOf];omega
    · have hd:decide ((k:Int)<(ks.length:Int))=false:=by simp;omega
      go_wp2_with (fail)
      go_returns
      exact⟨some ⟨w.heap.size,0,none⟩,ks.length,by rw[List.length_map];rfl,Fill.done HF1.out hge rfl (by unfold maxLen;omega) (fun b hb=>by omega) (by omega),hbw⟩
def EqObject (t:TObject):Prop:=∀(S S':Nat→Prop) (w:World) (vs vs':List Value),Dat.HoldVals w S t.D vs→Dat.HoldVals w S' t.D vs' →
 Calls Tryz.prog 68 #[.agg vs.toArray,.agg vs'.toArray] w fun e w'=>e=.returned (.bool true)∧Bel w w'
set_option maxHeartbeats 400000 in
theorem eqObjectS_of (ks:List TObject) (IH:∀(i:Nat) (hi:i<ks.length),EqObject ks[i]) (S S':Nat→Prop) (w:World) (A A':Option Addr) (c c':Nat) (hR:Row w S 5 A c (ks.map TObject.D)) (hR':Row w S' 5 A' c' (ks.map TObject.D)) :
  Calls Tryz.prog 34 #[.slice A ks.length c,.slice A' ks.length c'] w fun e w'=>e=.returned (.bool true)∧Bel w w':=by
 have IH':=hide IH
 have HR:=hide hR
 have HR':=hide hR'
 have hlen:=hR.1
 have hcm:=hR.2.1
 have hlen':=hR'.1
 have hcm':=hR'.2.1
 simp only[List.length_map]at hlen hlen'
 unfold maxLen at hcm hcm'
 clear IH hR hR'
 go_enter Tryz.func34,Tryz.ntmps34
 go_wp2_with (fail)
 go_loopw [5] (fun iv wr=>∃k:Nat,k≤ks.length∧iv=.int .i64 k∧Bel w wr) (fun iv _=>ks.length - (intOf iv).toNat)
 case atStart=>exact⟨0,Nat.zero_le _,rfl,Bel.refl _⟩
 case round =>
  obtain⟨k,hk,rfl,hbw⟩:=hrel
  rcases Nat.lt_or_ge k ks.length with hlt | hge
  ·
   have hd:decide ((k:Int)<(ks.length:Int))=true:=by simp;omega
   have hi0:0≤(k:Int):=by omega
   have hi1:(k:Int)<(ks.length:Int):=by omega
   (obtain⟨b1,o1,x1_0,x1_1,x1_2,x1_3,x1_4,A1_3,C1_3,A1_4,C1_4,hA1,hS1,hl1,hx1,hv1,g1_0,g1_1,g1_2,g1_3,g1_4,c1_0,c1_1,c1_2,c1_3,c1_4⟩:=TObject.at HR.out k hlt;subst hA1;have HV1:=hide (Dat.HoldVals.bel hbw hv1);have hh1:=hbw.box b1 hl1;have hw1:=Nat.lt_of_lt_of_le hl1 (Bel.size hbw);replace c1_0:=(hh1 _).trans c1_0;replace c1_1:=(hh1 _).trans c1_1;replace c1_2:=(hh1 _).trans c1_2;replace c1_3:=(hh1 _).trans c1_3;replace c1_4:=(hh1 _).trans c1_4;have HX1:=hide hx1;have GR1_3:=hide g1_3;have GR1_4:=hide g1_4;clear hh1 hv1 hx1 hS1 g1_3 g1_4)
   (obtain⟨b2,o2,x2_0,x2_1,x2_2,x2_3,x2_4,A2_3,C2_3,A2_4,C2_4,hA2,hS2,hl2,hx2,hv2,g2_0,g2_1,g2_2,g2_3,g2_4,c2_0,c2_1,c2_2,c2_3,c2_4⟩:=TObject.at HR'.out k hlt;subst hA2;have HV2:=hide (Dat.HoldVals.bel hbw hv2);have hh2:=hbw.box b2 hl2;have hw2:=Nat.lt_of_lt_of_le hl2 (Bel.size hbw);replace c2_0:=(hh2 _).trans c2_0;replace c2_1:=(hh2 _).trans c2_1;replace c2_2:=(hh2 _).trans c2_2;replace c2_3:=(hh2 _).trans c2_3;replace c2_4:=(hh2 _).trans c2_4;have HX2:=hide hx2;have GR2_3:=hide g2_3;have GR2_4:=hide g2_4;clear hh2 hv2 hx2 hS2 g2_3 g2_4)
   have HY:=hide (HX1.out.symm.trans HX2.out)
   go_wp2_with (fail)
   go_region_held3 (fun w'=>w'.cell? ⟨b1,o1+k*5,none⟩=some (.int .i64 x1_0)∧w'.cell? ⟨b1,o1+k*5+1,none⟩=some (.int .i64 x1_1)∧w'.cell? ⟨b1,o1+k*5+2,none⟩=some (.int .i64 x1_2)∧w'.cell? ⟨b1,o1+k*5+3,none⟩=some (.slice A1_3 x1_3.length C1_3)∧w'.cell? ⟨b1,o1+k*5+4,none⟩=some (.slice A1_4 x1_4.length C1_4)∧w'.cell? ⟨b2,o2+k*5,none⟩=some (.int .i64 x2_0)∧w'.cell? ⟨b2,o2+k*5+1,none⟩=some (.int .i64 x2_1)∧w'.cell? ⟨b2,o2+k*5+2,none⟩=some (.int .i64 x2_2)∧w'.cell? ⟨b2,o2+k*5+3,none⟩=some (.slice A2_3 x2_3.length C2_3)∧w'.cell? ⟨b2,o2+k*5+4,none⟩=some (.slice A2_4 x2_4.length C2_4)) (go_keep) (first | (go_at_call 68;refine (IH'.out k hlt S S' _ _ _ (Dat.HoldVals.bel bl HV1.out) (Dat.HoldVals.bel bl HV2.out)).mono ?_;rintro e w1 ⟨rfl,hb1⟩;have hq1:=hb1.box b1 (by simp;omega);have hq2:=hb1.box b2 (by simp;omega);simp only[World.cell?_drew]at hq1 hq2))
   all_goals
    go_wp2_with (fail)
    go_roundw
    case rel=>exact⟨k+1,by omega,by go_num,bl⟩
    case measure=>simp[intOf];omega
  ·
   have hd:decide ((k:Int)<(ks.length:Int))=false:=by simp;omega
   go_wp2_with (fail)
   go_returns
   exact⟨rfl,hbw⟩
set_option maxHeartbeats 1000000 in
theorem szObject_any:∀t:TObject,SzObject t:=by
 rintro⟨x0,x1,x2,x3,x4⟩
 intro S w vs left hv h0 h1
 obtain⟨A3,c3,A4,c4,rfl,g0,g1,g2,hR3,hR4⟩:=TObject.vals hv
 have R3:=hide hR3
 have R4:=hide hR4
 clear hv hR3 hR4
 rw[TObject.D_mk]
 simp only[Dat.wtL,Dat.wt,List.length_map]
 go_enter Tryz.func48,Tryz.ntmps48
 go_wp2_with (fail)
 refine (Calls.szTwo (szValueS_any x3 S _ _ _ _ (Row.bel bl R3.out) (by omega) (by omega))).mono ?_
 rintro e w1 ⟨l1,rfl,hl1,hb1⟩
 (have hz1:=hb1.sz;obtain⟨hk1_0,hf1_0,hl1_0,hn1_0⟩:=hb1.lay (w.heap.size))
 rcases hl1 with⟨hq1,rfl⟩ | ⟨hq1,hz1'⟩
 ·
  have HQ1:=hide hq1
  clear hq1
  go_wp2_with (fail)
  all_goals
   go_returns
   have HQ1':=HQ1.out
   exact⟨ret_i64 (by rw[szL_no (by omega)]),bl⟩
 have HQ1:=hide hq1
 have HL1:=hide hz1'
 have ha1:0≤l1:=by omega
 have hc1:l1≤1048576:=by omega
 clear hq1 hz1'
 go_wp2_with (fail)
 refine (Calls.szTwo (szValueS_any x4 S _ _ _ _ (Row.bel bl R4.out) (by omega) (by omega))).mono ?_
 rintro e w2 ⟨l2,rfl,hl2,hb2⟩
 (have hz2:=hb2.sz;obtain⟨hk2_0,hf2_0,hl2_0,hn2_0⟩:=hb2.lay (w.heap.size))
 rcases hl2 with⟨hq2,rfl⟩ | ⟨hq2,hz2'⟩
 ·
  have HQ2:=hide hq2
  clear hq2
  go_wp2_with (fail)
  all_goals
   go_returns
   have HQ1':=HQ1.out
   have HL1':=HL1.out
   have HQ2':=HQ2.out
   exact⟨ret_i64 (by rw[szL_no (by omega)]),bl⟩
 have HQ2:=hide hq2
 have HL2:=hide hz2'
 have ha2:0≤l2:=by omega
 have hc2:l2≤1048576:=by omega
 clear hq2 hz2'
 go_wp2_with (fail)
 all_goals
  go_returns
  have HQ1':=HQ1.out
  have HL1':=HL1.out
  have HQ2':=HQ2.out
  have HL2':=HL2.out
  exact⟨ret_i64 (by rw[szL_yes (by omega)];omega),bl⟩
set_option maxHeartbeats 1000000 in
theorem toObject_any:∀t:TObject,ToObject t:=by
 rintro⟨x0,x1,x2,x3,x4⟩
 intro S w vs hv hwt
 obtain⟨A3,c3,A4,c4,rfl,g0,g1,g2,hR3,hR4⟩:=TObject.vals hv
 have R3:=hide hR3
 have R4:=hide hR4
 have HW:=hide hwt
 rw[TObject.D_mk]at hwt
 simp only[Dat.wtL,Dat.wt,List.length_map]at hwt
 have hw3:x3.length+Dat.wtR (x3.map TValue.D)≤1048576:=by omega
 have hw4:x4.length+Dat.wtR (x4.map TValue.D)≤1048576:=by omega
 clear hv hwt hR3 hR4
 go_enter Tryz.func58,Tryz.ntmps58
 go_wp2_with (fail)
 refine (toValueS_any x3 S _ _ _ (Row.bel bl R3.out) hw3).mono ?_
 rintro e w1 ⟨B3,d3,rfl,hQ3,hb1⟩
 (have hz1:=hb1.sz;obtain⟨hk1_0,hf1_0,hl1_0,hn1_0⟩:=hb1.lay (w.heap.size);obtain⟨hk1_1,hf1_1,hl1_1,hn1_1⟩:=hb1.lay (w.heap.size+1);obtain⟨hk1_2,hf1_2,hl1_2,hn1_2⟩:=hb1.lay (w.heap.size+1+1))
 have Q3:=hide (Row.wide (S':=fun b=>w.heap.size+2<b) (fun b hb=>by simp at hb;omega) hQ3)
 clear hQ3
 go_wp2_with (fail)
 refine (toValueS_any x4 S _ _ _ (Row.bel bl R4.out) hw4).mono ?_
 rintro e w2 ⟨B4,d4,rfl,hQ4,hb2⟩
 (have hz2:=hb2.sz;obtain⟨hk2_0,hf2_0,hl2_0,hn2_0⟩:=hb2.lay (w.heap.size);obtain⟨hk2_1,hf2_1,hl2_1,hn2_1⟩:=hb2.lay (w.heap.size+1);obtain⟨hk2_2,hf2_2,hl2_2,hn2_2⟩:=hb2.lay (w.heap.size+1+1))
 have Q4:=hide (Row.wide (S':=fun b=>w.heap.size+2<b) (fun b hb=>by simp at hb;omega) hQ4)
 clear hQ4
 go_wp2_with (fail)
 exact bodyPost_ret (v:=.agg #[.int .i64 x0,.int .i64 x1,.int .i64 x2,.slice B3 x3.length d3,.slice B4 x4.length d4]) (by simp[results,Tryz.results58,go_sem,hk1_1,hf1_1,hk2_1,hf2_1]) rfl
  ⟨[.int .i64 x0,.int .i64 x1,.int .i64 x2,.slice B3 x3.length d3,.slice B4 x4.length d4],rfl,TObject.vals_mk g0 g1 g2 (Row.wide (fun b hb=>by omega) (Row.off ofl Q3.out)) (Row.wide (fun b hb=>by omega) (Row.off ofl Q4.out)),bl⟩
set_option maxHeartbeats 1000000 in
theorem eqObject_any:∀t:TObject,EqObject t:=by
 rintro⟨x0,x1,x2,x3,x4⟩
 intro S S' w vs vs' hv hv'
 obtain⟨A3,c3,A4,c4,rfl,g0,g1,g2,hR3,hR4⟩:=TObject.vals hv
 obtain⟨eA3,ec3,eA4,ec4,rfl,-,-,-,ehR3,ehR4⟩:=TObject.vals hv'
 have R3:=hide hR3
 have R4:=hide hR4
 have T3:=hide ehR3
 have T4:=hide ehR4
 clear hv hv' hR3 hR4 ehR3 ehR4
 go_enter Tryz.func68,Tryz.ntmps68
 go_wp2_with (first
  | (go_at_call 35;(with_reducible refine (eqValueS_any x3 S S' _ _ _ _ _ (Row.bel bl R3.out) (Row.bel bl T3.out)).mono ?_);rintro e w1 ⟨rfl,hb1⟩;have hz1:=hb1.sz;obtain⟨hk1_0,hf1_0,hl1_0,hn1_0⟩:=hb1.lay (w.heap.size);obtain⟨hk1_1,hf1_1,hl1_1,hn1_1⟩:=hb1.lay (w.heap.size+1);(try simp only[VVal.val]))
  | (go_at_call 35;(with_reducible refine (eqValueS_any x4 S S' _ _ _ _ _ (Row.bel bl R4.out) (Row.bel bl T4.out)).mono ?_);rintro e w2 ⟨rfl,hb2⟩;have hz2:=hb2.sz;obtain⟨hk2_0,hf2_0,hl2_0,hn2_0⟩:=hb2.lay (w.heap.size);obtain⟨hk2_1,hf2_1,hl2_1,hn2_1⟩:=hb2.lay (w.heap.size+1);(try simp only[VVal.val])))
 all_goals
  go_returns
  exact⟨rfl,bl⟩
theorem szObjectS_any (ks:List TObject) (S:Nat→Prop) (w:World) (A:Option Addr) (c:Nat) (left:Int) (hR:Row w S 5 A c (ks.map TObject.D)) (h0:0≤left) (h1:left≤1048576) :
  Calls Tryz.prog 21 #[.slice A ks.length c,.int .i64 left] w fun e w'=>e=.returned (.int .i64 (szL (ks.length+Dat.wtR (ks.map TObject.D)) left))∧Bel w w':=szObjectS_of ks (fun _ _=>szObject_any _) S w A c left hR h0 h1
theorem toObjectS_any (ks:List TObject) (S:Nat→Prop) (w:World) (A:Option Addr) (c:Nat) (hR:Row w S 5 A c (ks.map TObject.D)) (hwt:ks.length+Dat.wtR (ks.map TObject.D)≤1048576) :
  Calls Tryz.prog 28 #[.slice A ks.length c] w (MadeR w 5 (ks.map TObject.D)):=toObjectS_of ks (fun _ _=>toObject_any _) S w A c hR hwt
theorem eqObjectS_any (ks:List TObject) (S S':Nat→Prop) (w:World) (A A':Option Addr) (c c':Nat) (hR:Row w S 5 A c (ks.map TObject.D)) (hR':Row w S' 5 A' c' (ks.map TObject.D)) :
  Calls Tryz.prog 34 #[.slice A ks.length c,.slice A' ks.length c'] w fun e w'=>e=.returned (.bool true)∧Bel w w':=eqObjectS_of ks (fun _ _=>eqObject_any _) S S' w A A' c c' hR hR'
end Go.Proofs.YtehcjlkgfgpjnaaGreatDoor
namespace Go.Proofs.YtehcjlkgfgpjnaaGreatDoor
set_option linter.unusedVariables false
set_option linter.unusedSimpArgs false
set_option maxRecDepth 100000
open Go.RowKit
theorem wtR_Active:∀l:List TActive,Dat.wtR (l.map TActive.D)=0
 | []=>by simp[Dat.wtR]
 | .mk x0 x1 :: r=>by rw[List.map_cons,Dat.wtR,wtR_Active r,TActive.D_mk];rfl
set_option maxHeartbeats 400000 in
theorem szActiveS_any (ks:List TActive) (S:Nat→Prop) (w:World) (A:Option Addr) (c:Nat) (left:Int) (hR:Row w S 2 A c (ks.map TActive.D)) (h0:0≤left) (h1:left≤1048576) :
  Calls Tryz.prog 23 #[.slice A ks.length c,.int .i64 left] w fun e w'=>e=.returned (.int .i64 (szL (ks.length+Dat.wtR (ks.map TActive.D)) left))∧Bel w w':=by
 rw[wtR_Active]
 have hlen:=hR.1
 have hcm:=hR.2.1
 simp only[List.length_map]at hlen
 unfold maxLen at hcm
 clear hR
 rcases Int.lt_or_le left ks.length with hn | hn
 ·
  go_enter Tryz.func23,Tryz.ntmps23
  go_wp2_with (fail)
  all_goals
   go_returns
   exact⟨ret_i64 (by rw[szL_no (by omega)]),bl⟩
 ·
  go_enter Tryz.func23,Tryz.ntmps23
  go_wp2_with (fail)
  all_goals
   go_returns
   exact⟨ret_i64 (by rw[szL_yes (by omega)];omega),bl⟩
def ToActive (t:TActive):Prop:=∀(S:Nat→Prop) (w:World) (vs:List Value),Dat.HoldVals w S t.D vs→Dat.wtL t.D≤1048576 →
 Calls Tryz.prog 60 #[.agg vs.toArray] w (MadeV w t.D)
set_option maxHeartbeats 400000 in
theorem toActiveS_of (ks:List TActive) (IH:∀(i:Nat) (hi:i<ks.length),ToActive ks[i]) (S:Nat→Prop) (w:World) (A:Option Addr) (c:Nat) (hR:Row w S 2 A c (ks.map TActive.D)) (hwt:ks.length+Dat.wtR (ks.map TActive.D)≤1048576) :
    Calls Tryz.prog 30 #[.slice A ks.length c] w (MadeR w 2 (ks.map TActive.D)):=by
  have IH':=hide IH
  have HR:=hide hR
  have hlen:=hR.1
  have hcm:=hR.2.1
  simp only[List.length_map]at hlen
  unfold maxLen at hcm
  clear IH hR
  obtain⟨cur,hcur,hmk⟩:=make_rows (P:=Tryz.prog) (t:=34) (e:=96) (k:=2) ks.length (by omega) Tryz.underlying34 (by kernel_rfl)
  have HC:=hide hcur
  clear hcur
  have HW:=hide hwt
  clear hwt
  go_enter Tryz.func30,Tryz.ntmps30
  go_wp2_with (fail)
  have HM:=hide (Bel.refl (w.alloc (.cells cur 96)))
  have HF:=hide (Fill.start w 96 2 ks.length (fun b=>w.heap.size<b) HC.out)
  clear hmk
  go_loopw [4] (fun iv wr=>∃k:Nat,k≤ks.length∧iv=.int .i64 k∧Fill wr w.heap.size 96 2 ks.length (fun b=>w.heap.size<b) ((ks.map TActive.D).take k)∧Bel w wr) (fun iv _=>ks.length - (intOf iv).toNat)
  case atStart=>exact⟨0,Nat.zero_le _,rfl,HF.out,bl⟩
  case round =>
    obtain⟨k,hk,rfl,hF,hbw⟩:=hrel
    have HF1:=hide hF
    have hgl:=hF.lt
    clear hF HF
    rcases Nat.lt_or_ge k ks.length with hlt | hge
    · have hd:decide ((k:Int)<(ks.length:Int))=true:=by simp;omega
      have hi0:0≤(k:Int):=by omega
      have hi1:(k:Int)<(ks.length:Int):=by omega
      (obtain⟨b1,o1,x1_0,x1_1,hA1,hS1,hl1,hx1,hv1,g1_0,g1_1,c1_0,c1_1⟩:=TActive.at HR.out k hlt;subst hA1;have HV1:=hide (Dat.HoldVals.bel hbw hv1);have hh1:=hbw.box b1 hl1;have hw1:=Nat.lt_of_lt_of_le hl1 (Bel.size hbw);replace c1_0:=(hh1 _).trans c1_0;replace c1_1:=(hh1 _).trans c1_1;have HX1:=hide hx1;clear hh1 hv1 hx1 hS1)
      have hw:=hide (Dat.wtR_take (ks.map TActive.D) k (by simpa using hlt))
      have hw':=hide (Dat.wtR_le (ks.map TActive.D) (k+1))
      have hwk:Dat.wtL ks[k].D≤1048576:=by have a:=hw.out;have b:=hw'.out;have c:=HW.out;rw[List.getElem_map]at a;omega
      go_wp2_with (fail)
      refine (IH'.out k hlt S _ _ (Dat.HoldVals.bel bl HV1.out) hwk).mono ?_
      rintro e w1 ⟨vs',rfl,hv',hb1⟩
      have HV':=hide hv'
      rw[HX1.out]at hv'
      obtain⟨rfl,-⟩:=TActive.vals hv'
      clear hv'
      have HF2:=hide (Fill.bel HF1.out hb1)
      obtain⟨y0,e0⟩:=HF2.out.cell (i:=k*2) (by omega)
      obtain⟨y1,e1⟩:=HF2.out.cell (i:=k*2+1) (by omega)
      have f0:=HF2.out.free (k*2)
      have f1:=HF2.out.free (k*2+1)
      go_wp2_with (fail)
      go_roundw
      case rel =>
       exact⟨k+1,by omega,by go_num,Fill.snoc2 HF2.out hlt rfl (fun b hb=>by omega) HV'.out (fun b hb=>by omega),bl⟩
      case measure=>simp[intOf];omega
    · have hd:decide ((k:Int)<(ks.length:Int))=false:=by simp;omega
      go_wp2_with (fail)
      go_returns
      exact⟨some ⟨w.heap.size,0,none⟩,ks.length,by rw[List.length_map];rfl,Fill.done HF1.out hge rfl (by unfold maxLen;omega) (fun b hb=>by omega) (by omega),hbw⟩
def EqActive (t:TActive):Prop:=∀(S S':Nat→Prop) (w:World) (vs vs':List Value),Dat.HoldVals w S t.D vs→Dat.HoldVals w S' t.D vs' →
 Calls Tryz.prog 70 #[.agg vs.toArray,.agg vs'.toArray] w fun e w'=>e=.returned (.bool true)∧Bel w w'
set_option maxHeartbeats 400000 in
theorem eqActiveS_of (ks:List TActive) (IH:∀(i:Nat) (hi:i<ks.length),EqActive ks[i]) (S S':Nat→Prop) (w:World) (A A':Option Addr) (c c':Nat) (hR:Row w S 2 A c (ks.map TActive.D)) (hR':Row w S' 2 A' c' (ks.map TActive.D)) :
  Calls Tryz.prog 36 #[.slice A ks.length c,.slice A' ks.length c'] w fun e w'=>e=.returned (.bool true)∧Bel w w':=by
 have IH':=hide IH
 have HR:=hide hR
 have HR':=hide hR'
 have hlen:=hR.1
 have hcm:=hR.2.1
 have hlen':=hR'.1
 have hcm':=hR'.2.1
 simp only[List.length_map]at hlen hlen'
 unfold maxLen at hcm hcm'
 clear IH hR hR'
 go_enter Tryz.func36,Tryz.ntmps36
 go_wp2_with (fail)
 go_loopw [5] (fun iv wr=>∃k:Nat,k≤ks.length∧iv=.int .i64 k∧Bel w wr) (fun iv _=>ks.length - (intOf iv).toNat)
 case atStart=>exact⟨0,Nat.zero_le _,rfl,Bel.refl _⟩
 case round =>
  obtain⟨k,hk,rfl,hbw⟩:=hrel
  rcases Nat.lt_or_ge k ks.length with hlt | hge
  ·
   have hd:decide ((k:Int)<(ks.length:Int))=true:=by simp;omega
   have hi0:0≤(k:Int):=by omega
   have hi1:(k:Int)<(ks.length:Int):=by omega
   (obtain⟨b1,o1,x1_0,x1_1,hA1,hS1,hl1,hx1,hv1,g1_0,g1_1,c1_0,c1_1⟩:=TActive.at HR.out k hlt;subst hA1;have HV1:=hide (Dat.HoldVals.bel hbw hv1);have hh1:=hbw.box b1 hl1;have hw1:=Nat.lt_of_lt_of_le hl1 (Bel.size hbw);replace c1_0:=(hh1 _).trans c1_0;replace c1_1:=(hh1 _).trans c1_1;have HX1:=hide hx1;clear hh1 hv1 hx1 hS1)
   (obtain⟨b2,o2,x2_0,x2_1,hA2,hS2,hl2,hx2,hv2,g2_0,g2_1,c2_0,c2_1⟩:=TActive.at HR'.out k hlt;subst hA2;have HV2:=hide (Dat.HoldVals.bel hbw hv2);have hh2:=hbw.box b2 hl2;have hw2:=Nat.lt_of_lt_of_le hl2 (Bel.size hbw);replace c2_0:=(hh2 _).trans c2_0;replace c2_1:=(hh2 _).trans c2_1;have HX2:=hide hx2;clear hh2 hv2 hx2 hS2)
   have HY:=hide (HX1.out.symm.trans HX2.out)
   go_wp2_with (fail)
   go_region_held3 (fun w'=>w'.cell? ⟨b1,o1+k*2,none⟩=some (.int .i64 x1_0)∧w'.cell? ⟨b1,o1+k*2+1,none⟩=some (.int .i64 x1_1)∧w'.cell? ⟨b2,o2+k*2,none⟩=some (.int .i64 x2_0)∧w'.cell? ⟨b2,o2+k*2+1,none⟩=some (.int .i64 x2_1)) (go_keep) (first | (go_at_call 70;refine (IH'.out k hlt S S' _ _ _ (Dat.HoldVals.bel bl HV1.out) (Dat.HoldVals.bel bl HV2.out)).mono ?_;rintro e w1 ⟨rfl,hb1⟩;have hq1:=hb1.box b1 (by simp;omega);have hq2:=hb1.box b2 (by simp;omega);simp only[World.cell?_drew]at hq1 hq2))
   all_goals
    go_wp2_with (fail)
    go_roundw
    case rel=>exact⟨k+1,by omega,by go_num,bl⟩
    case measure=>simp[intOf];omega
  ·
   have hd:decide ((k:Int)<(ks.length:Int))=false:=by simp;omega
   go_wp2_with (fail)
   go_returns
   exact⟨rfl,hbw⟩
set_option maxHeartbeats 1000000 in
theorem toActive_any:∀t:TActive,ToActive t:=by
 rintro⟨x0,x1⟩
 intro S w vs hv hwt
 obtain⟨rfl,g0,g1⟩:=TActive.vals hv
 have HW:=hide hwt
 rw[TActive.D_mk]at hwt
 simp only[Dat.wtL,Dat.wt,List.length_map]at hwt
 clear hv hwt
 go_enter Tryz.func60,Tryz.ntmps60
 go_wp2_with (fail)
 exact bodyPost_ret (v:=.agg #[.int .i64 x0,.int .i64 x1]) (by simp[results,Tryz.results60,go_sem]) rfl
  ⟨[.int .i64 x0,.int .i64 x1],rfl,TActive.vals_mk g0 g1,bl⟩
set_option maxHeartbeats 1000000 in
theorem eqActive_any:∀t:TActive,EqActive t:=by
 rintro⟨x0,x1⟩
 intro S S' w vs vs' hv hv'
 obtain⟨rfl,g0,g1⟩:=TActive.vals hv
 obtain⟨rfl,-,-⟩:=TActive.vals hv'
 clear hv hv'
 go_enter Tryz.func70,Tryz.ntmps70
 go_wp2_with (fail)
 all_goals
  go_returns
  exact⟨rfl,bl⟩
theorem toActiveS_any (ks:List TActive) (S:Nat→Prop) (w:World) (A:Option Addr) (c:Nat) (hR:Row w S 2 A c (ks.map TActive.D)) (hwt:ks.length+Dat.wtR (ks.map TActive.D)≤1048576) :
  Calls Tryz.prog 30 #[.slice A ks.length c] w (MadeR w 2 (ks.map TActive.D)):=toActiveS_of ks (fun _ _=>toActive_any _) S w A c hR hwt
theorem eqActiveS_any (ks:List TActive) (S S':Nat→Prop) (w:World) (A A':Option Addr) (c c':Nat) (hR:Row w S 2 A c (ks.map TActive.D)) (hR':Row w S' 2 A' c' (ks.map TActive.D)) :
  Calls Tryz.prog 36 #[.slice A ks.length c,.slice A' ks.length c'] w fun e w'=>e=.returned (.bool true)∧Bel w w':=eqActiveS_of ks (fun _ _=>eqActive_any _) S S' w A A' c c' hR hR'
end Go.Proofs.YtehcjlkgfgpjnaaGreatDoor
