/- The data of further types of the program (RecordType, Value, Object, Active, Store, Generator). -/
import Derived.Test.YtgofbnmablgedaaGreatDoorPD
namespace Go.Proofs.YtgofbnmablgedaaGreatDoor
set_option linter.unusedVariables false
set_option linter.unusedSimpArgs false
set_option maxRecDepth 100000
open Go.ChangeShapes Go.WideShapes Go.RowKit Go.Deep
inductive TRecordType where
 | mk (Name : ByteArray) (Fields : List ByteArray) (Line : Int)
def TRecordType.D : TRecordType → List Dat
 | .mk x0 x1 x2 => [.str x0, .row 1 (x1.map fun x => [.str x]), .int x2]
theorem TRecordType.D_mk {x0 : ByteArray} {x1 : List ByteArray} {x2 : Int} : (TRecordType.mk x0 x1 x2).D = [.str x0, .row 1 (x1.map fun x => [.str x]), .int x2] := by
 simp only [TRecordType.D]
theorem TRecordType.D_len : ∀ t : TRecordType, t.D.length = 3
 | .mk x0 x1 x2 => by rw [TRecordType.D_mk]; rfl
theorem TRecordType.vals {w : World} {S : Nat → Prop} {x0 : ByteArray} {x1 : List ByteArray} {x2 : Int} {vs : List Value} (h : Dat.HoldVals w S (TRecordType.mk x0 x1 x2).D vs) : ∃ Ax1 cx1, vs = [.string x0, .slice Ax1 x1.length cx1, .int .i64 x2] ∧ x0.size ≤ maxLen ∧ Row w S 1 Ax1 cx1 (x1.map fun x => [.str x]) ∧ InI x2 := by
 rw [TRecordType.D_mk] at h
 match vs, h with
 | [u0, u1, u2], h =>
  obtain ⟨h0, h1, h2, -⟩ := h
  obtain ⟨rfl, g0⟩ := Dat.holds_str.1 h0
  obtain ⟨Ax1, cx1, rfl, g1⟩ := Dat.holds_row.1 h1
  obtain ⟨rfl, g2⟩ := Dat.holds_int.1 h2
  exact ⟨Ax1, cx1, by simp only [List.length_map], g0, g1, g2⟩
theorem TRecordType.vals_mk {w : World} {S : Nat → Prop} {x0 : ByteArray} {x1 : List ByteArray} {x2 : Int} {Ax1 : Option Addr} {cx1 : Nat} (h0 : x0.size ≤ maxLen) (h1 : Row w S 1 Ax1 cx1 (x1.map fun x => [.str x])) (h2 : InI x2) : Dat.HoldVals w S (TRecordType.mk x0 x1 x2).D [.string x0, .slice Ax1 x1.length cx1, .int .i64 x2] := by
 rw [TRecordType.D_mk]
 exact ⟨Dat.holds_str.2 ⟨rfl, h0⟩, Dat.holds_row.2 ⟨_, _, by simp only [List.length_map], h1⟩, Dat.holds_int.2 ⟨rfl, h2⟩, trivial⟩
theorem TRecordType.at {w : World} {S : Nat → Prop} {A : Option Addr} {c : Nat} {l : List TRecordType} (h : Row w S 3 A c (l.map TRecordType.D)) (i : Nat) (hi : i < l.length) :
  ∃ b o x0 x1 x2 Ax1 cx1, A = some ⟨b, o, none⟩ ∧ S b ∧ b < w.heap.size ∧ l[i] = .mk x0 x1 x2 ∧ Dat.HoldVals w S l[i].D [.string x0, .slice Ax1 x1.length cx1, .int .i64 x2] ∧ x0.size ≤ maxLen ∧ Row w S 1 Ax1 cx1 (x1.map fun x => [.str x]) ∧ InI x2 ∧ w.cell? ⟨b, o + i * 3, none⟩ = some (.string x0) ∧ w.cell? ⟨b, o + i * 3 + 1, none⟩ = some (.slice Ax1 x1.length cx1) ∧ w.cell? ⟨b, o + i * 3 + 2, none⟩ = some (.int .i64 x2) := by
 obtain ⟨b, o, vs, hA, hS, hb, hv, hl, hc⟩ := Row.at h i (by simpa using hi)
 rw [List.getElem_map] at hv
 obtain ⟨x0, x1, x2, hx⟩ : ∃ x0 x1 x2, l[i] = .mk x0 x1 x2 := by cases l[i]; exact ⟨_, _, _, rfl⟩
 have hv2 := hv
 rw [hx] at hv2
 obtain ⟨Ax1, cx1, rfl, g0, g1, g2⟩ := TRecordType.vals hv2
 exact ⟨b, o, _, _, _, _, _, hA, hS, hb, hx, hv, g0, g1, g2, by simpa using hc 0 (by decide), by simpa using hc 1 (by decide), by simpa using hc 2 (by decide)⟩
inductive TValue where
 | mk (Kind : Int) (Number : Int) (Index : Int) (Text : ByteArray) (SetLow : Int) (SetHigh : Int)
def TValue.D : TValue → List Dat
 | .mk x0 x1 x2 x3 x4 x5 => [.int x0, .int x1, .int x2, .str x3, .int x4, .int x5]
theorem TValue.D_mk {x0 : Int} {x1 : Int} {x2 : Int} {x3 : ByteArray} {x4 : Int} {x5 : Int} : (TValue.mk x0 x1 x2 x3 x4 x5).D = [.int x0, .int x1, .int x2, .str x3, .int x4, .int x5] := by
 simp only [TValue.D]
theorem TValue.D_len : ∀ t : TValue, t.D.length = 6
 | .mk x0 x1 x2 x3 x4 x5 => by rw [TValue.D_mk]; rfl
theorem TValue.vals {w : World} {S : Nat → Prop} {x0 : Int} {x1 : Int} {x2 : Int} {x3 : ByteArray} {x4 : Int} {x5 : Int} {vs : List Value} (h : Dat.HoldVals w S (TValue.mk x0 x1 x2 x3 x4 x5).D vs) : vs = [.int .i64 x0, .int .i64 x1, .int .i64 x2, .string x3, .int .i64 x4, .int .i64 x5] ∧ InI x0 ∧ InI x1 ∧ InI x2 ∧ x3.size ≤ maxLen ∧ InI x4 ∧ InI x5 := by
 rw [TValue.D_mk] at h
 match vs, h with
 | [u0, u1, u2, u3, u4, u5], h =>
  obtain ⟨h0, h1, h2, h3, h4, h5, -⟩ := h
  obtain ⟨rfl, g0⟩ := Dat.holds_int.1 h0
  obtain ⟨rfl, g1⟩ := Dat.holds_int.1 h1
  obtain ⟨rfl, g2⟩ := Dat.holds_int.1 h2
  obtain ⟨rfl, g3⟩ := Dat.holds_str.1 h3
  obtain ⟨rfl, g4⟩ := Dat.holds_int.1 h4
  obtain ⟨rfl, g5⟩ := Dat.holds_int.1 h5
  exact ⟨rfl, g0, g1, g2, g3, g4, g5⟩
theorem TValue.vals_mk {w : World} {S : Nat → Prop} {x0 : Int} {x1 : Int} {x2 : Int} {x3 : ByteArray} {x4 : Int} {x5 : Int} (h0 : InI x0) (h1 : InI x1) (h2 : InI x2) (h3 : x3.size ≤ maxLen) (h4 : InI x4) (h5 : InI x5) : Dat.HoldVals w S (TValue.mk x0 x1 x2 x3 x4 x5).D [.int .i64 x0, .int .i64 x1, .int .i64 x2, .string x3, .int .i64 x4, .int .i64 x5] := by
 rw [TValue.D_mk]
 exact ⟨Dat.holds_int.2 ⟨rfl, h0⟩, Dat.holds_int.2 ⟨rfl, h1⟩, Dat.holds_int.2 ⟨rfl, h2⟩, Dat.holds_str.2 ⟨rfl, h3⟩, Dat.holds_int.2 ⟨rfl, h4⟩, Dat.holds_int.2 ⟨rfl, h5⟩, trivial⟩
theorem TValue.at {w : World} {S : Nat → Prop} {A : Option Addr} {c : Nat} {l : List TValue} (h : Row w S 6 A c (l.map TValue.D)) (i : Nat) (hi : i < l.length) :
  ∃ b o x0 x1 x2 x3 x4 x5 , A = some ⟨b, o, none⟩ ∧ S b ∧ b < w.heap.size ∧ l[i] = .mk x0 x1 x2 x3 x4 x5 ∧ Dat.HoldVals w S l[i].D [.int .i64 x0, .int .i64 x1, .int .i64 x2, .string x3, .int .i64 x4, .int .i64 x5] ∧ InI x0 ∧ InI x1 ∧ InI x2 ∧ x3.size ≤ maxLen ∧ InI x4 ∧ InI x5 ∧ w.cell? ⟨b, o + i * 6, none⟩ = some (.int .i64 x0) ∧ w.cell? ⟨b, o + i * 6 + 1, none⟩ = some (.int .i64 x1) ∧ w.cell? ⟨b, o + i * 6 + 2, none⟩ = some (.int .i64 x2) ∧ w.cell? ⟨b, o + i * 6 + 3, none⟩ = some (.string x3) ∧ w.cell? ⟨b, o + i * 6 + 4, none⟩ = some (.int .i64 x4) ∧ w.cell? ⟨b, o + i * 6 + 5, none⟩ = some (.int .i64 x5) := by
 obtain ⟨b, o, vs, hA, hS, hb, hv, hl, hc⟩ := Row.at h i (by simpa using hi)
 rw [List.getElem_map] at hv
 obtain ⟨x0, x1, x2, x3, x4, x5, hx⟩ : ∃ x0 x1 x2 x3 x4 x5, l[i] = .mk x0 x1 x2 x3 x4 x5 := by cases l[i]; exact ⟨_, _, _, _, _, _, rfl⟩
 have hv2 := hv
 rw [hx] at hv2
 obtain ⟨rfl, g0, g1, g2, g3, g4, g5⟩ := TValue.vals hv2
 exact ⟨b, o, _, _, _, _, _, _, hA, hS, hb, hx, hv, g0, g1, g2, g3, g4, g5, by simpa using hc 0 (by decide), by simpa using hc 1 (by decide), by simpa using hc 2 (by decide), by simpa using hc 3 (by decide), by simpa using hc 4 (by decide), by simpa using hc 5 (by decide)⟩
inductive TObject where
 | mk (Kind : Int) (Tag : Int) (Serial : Int) (Items : List TValue) (Keys : List TValue)
def TObject.D : TObject → List Dat
 | .mk x0 x1 x2 x3 x4 => [.int x0, .int x1, .int x2, .row 6 (x3.map TValue.D), .row 6 (x4.map TValue.D)]
theorem TObject.D_mk {x0 : Int} {x1 : Int} {x2 : Int} {x3 : List TValue} {x4 : List TValue} : (TObject.mk x0 x1 x2 x3 x4).D = [.int x0, .int x1, .int x2, .row 6 (x3.map TValue.D), .row 6 (x4.map TValue.D)] := by
 simp only [TObject.D]
theorem TObject.D_len : ∀ t : TObject, t.D.length = 5
 | .mk x0 x1 x2 x3 x4 => by rw [TObject.D_mk]; rfl
theorem TObject.vals {w : World} {S : Nat → Prop} {x0 : Int} {x1 : Int} {x2 : Int} {x3 : List TValue} {x4 : List TValue} {vs : List Value} (h : Dat.HoldVals w S (TObject.mk x0 x1 x2 x3 x4).D vs) : ∃ Ax3 cx3 Ax4 cx4, vs = [.int .i64 x0, .int .i64 x1, .int .i64 x2, .slice Ax3 x3.length cx3, .slice Ax4 x4.length cx4] ∧ InI x0 ∧ InI x1 ∧ InI x2 ∧ Row w S 6 Ax3 cx3 (x3.map TValue.D) ∧ Row w S 6 Ax4 cx4 (x4.map TValue.D) := by
 rw [TObject.D_mk] at h
 match vs, h with
 | [u0, u1, u2, u3, u4], h =>
  obtain ⟨h0, h1, h2, h3, h4, -⟩ := h
  obtain ⟨rfl, g0⟩ := Dat.holds_int.1 h0
  obtain ⟨rfl, g1⟩ := Dat.holds_int.1 h1
  obtain ⟨rfl, g2⟩ := Dat.holds_int.1 h2
  obtain ⟨Ax3, cx3, rfl, g3⟩ := Dat.holds_row.1 h3
  obtain ⟨Ax4, cx4, rfl, g4⟩ := Dat.holds_row.1 h4
  exact ⟨Ax3, cx3, Ax4, cx4, by simp only [List.length_map], g0, g1, g2, g3, g4⟩
theorem TObject.vals_mk {w : World} {S : Nat → Prop} {x0 : Int} {x1 : Int} {x2 : Int} {x3 : List TValue} {x4 : List TValue} {Ax3 : Option Addr} {cx3 : Nat} {Ax4 : Option Addr} {cx4 : Nat} (h0 : InI x0) (h1 : InI x1) (h2 : InI x2) (h3 : Row w S 6 Ax3 cx3 (x3.map TValue.D)) (h4 : Row w S 6 Ax4 cx4 (x4.map TValue.D)) : Dat.HoldVals w S (TObject.mk x0 x1 x2 x3 x4).D [.int .i64 x0, .int .i64 x1, .int .i64 x2, .slice Ax3 x3.length cx3, .slice Ax4 x4.length cx4] := by
 rw [TObject.D_mk]
 exact ⟨Dat.holds_int.2 ⟨rfl, h0⟩, Dat.holds_int.2 ⟨rfl, h1⟩, Dat.holds_int.2 ⟨rfl, h2⟩, Dat.holds_row.2 ⟨_, _, by simp only [List.length_map], h3⟩, Dat.holds_row.2 ⟨_, _, by simp only [List.length_map], h4⟩, trivial⟩
theorem TObject.at {w : World} {S : Nat → Prop} {A : Option Addr} {c : Nat} {l : List TObject} (h : Row w S 5 A c (l.map TObject.D)) (i : Nat) (hi : i < l.length) :
  ∃ b o x0 x1 x2 x3 x4 Ax3 cx3 Ax4 cx4, A = some ⟨b, o, none⟩ ∧ S b ∧ b < w.heap.size ∧ l[i] = .mk x0 x1 x2 x3 x4 ∧ Dat.HoldVals w S l[i].D [.int .i64 x0, .int .i64 x1, .int .i64 x2, .slice Ax3 x3.length cx3, .slice Ax4 x4.length cx4] ∧ InI x0 ∧ InI x1 ∧ InI x2 ∧ Row w S 6 Ax3 cx3 (x3.map TValue.D) ∧ Row w S 6 Ax4 cx4 (x4.map TValue.D) ∧ w.cell? ⟨b, o + i * 5, none⟩ = some (.int .i64 x0) ∧ w.cell? ⟨b, o + i * 5 + 1, none⟩ = some (.int .i64 x1) ∧ w.cell? ⟨b, o + i * 5 + 2, none⟩ = some (.int .i64 x2) ∧ w.cell? ⟨b, o + i * 5 + 3, none⟩ = some (.slice Ax3 x3.length cx3) ∧ w.cell? ⟨b, o + i * 5 + 4, none⟩ = some (.slice Ax4 x4.length cx4) := by
 obtain ⟨b, o, vs, hA, hS, hb, hv, hl, hc⟩ := Row.at h i (by simpa using hi)
 rw [List.getElem_map] at hv
 obtain ⟨x0, x1, x2, x3, x4, hx⟩ : ∃ x0 x1 x2 x3 x4, l[i] = .mk x0 x1 x2 x3 x4 := by cases l[i]; exact ⟨_, _, _, _, _, rfl⟩
 have hv2 := hv
 rw [hx] at hv2
 obtain ⟨Ax3, cx3, Ax4, cx4, rfl, g0, g1, g2, g3, g4⟩ := TObject.vals hv2
 exact ⟨b, o, _, _, _, _, _, _, _, _, _, hA, hS, hb, hx, hv, g0, g1, g2, g3, g4, by simpa using hc 0 (by decide), by simpa using hc 1 (by decide), by simpa using hc 2 (by decide), by simpa using hc 3 (by decide), by simpa using hc 4 (by decide)⟩
inductive TActive where
 | mk (Routine : Int) (Frame : Int)
def TActive.D : TActive → List Dat
 | .mk x0 x1 => [.int x0, .int x1]
theorem TActive.D_mk {x0 : Int} {x1 : Int} : (TActive.mk x0 x1).D = [.int x0, .int x1] := by
 simp only [TActive.D]
theorem TActive.D_len : ∀ t : TActive, t.D.length = 2
 | .mk x0 x1 => by rw [TActive.D_mk]; rfl
theorem TActive.vals {w : World} {S : Nat → Prop} {x0 : Int} {x1 : Int} {vs : List Value} (h : Dat.HoldVals w S (TActive.mk x0 x1).D vs) : vs = [.int .i64 x0, .int .i64 x1] ∧ InI x0 ∧ InI x1 := by
 rw [TActive.D_mk] at h
 match vs, h with
 | [u0, u1], h =>
  obtain ⟨h0, h1, -⟩ := h
  obtain ⟨rfl, g0⟩ := Dat.holds_int.1 h0
  obtain ⟨rfl, g1⟩ := Dat.holds_int.1 h1
  exact ⟨rfl, g0, g1⟩
theorem TActive.vals_mk {w : World} {S : Nat → Prop} {x0 : Int} {x1 : Int} (h0 : InI x0) (h1 : InI x1) : Dat.HoldVals w S (TActive.mk x0 x1).D [.int .i64 x0, .int .i64 x1] := by
 rw [TActive.D_mk]
 exact ⟨Dat.holds_int.2 ⟨rfl, h0⟩, Dat.holds_int.2 ⟨rfl, h1⟩, trivial⟩
theorem TActive.at {w : World} {S : Nat → Prop} {A : Option Addr} {c : Nat} {l : List TActive} (h : Row w S 2 A c (l.map TActive.D)) (i : Nat) (hi : i < l.length) :
  ∃ b o x0 x1 , A = some ⟨b, o, none⟩ ∧ S b ∧ b < w.heap.size ∧ l[i] = .mk x0 x1 ∧ Dat.HoldVals w S l[i].D [.int .i64 x0, .int .i64 x1] ∧ InI x0 ∧ InI x1 ∧ w.cell? ⟨b, o + i * 2, none⟩ = some (.int .i64 x0) ∧ w.cell? ⟨b, o + i * 2 + 1, none⟩ = some (.int .i64 x1) := by
 obtain ⟨b, o, vs, hA, hS, hb, hv, hl, hc⟩ := Row.at h i (by simpa using hi)
 rw [List.getElem_map] at hv
 obtain ⟨x0, x1, hx⟩ : ∃ x0 x1, l[i] = .mk x0 x1 := by cases l[i]; exact ⟨_, _, rfl⟩
 have hv2 := hv
 rw [hx] at hv2
 obtain ⟨rfl, g0, g1⟩ := TActive.vals hv2
 exact ⟨b, o, _, _, hA, hS, hb, hx, hv, g0, g1, by simpa using hc 0 (by decide), by simpa using hc 1 (by decide)⟩
inductive TStore where
 | mk (Names : List ByteArray) (Records : List TRecordType) (Objects : List TObject) (Globals : List TValue) (Subject : ByteArray) (Position : Int) (Output : List ByteArray) (Trace : List ByteArray) (Actives : List TActive) (Tracing : Bool) (Ticks : Int) (Budget : Int) (Made : Int)
def TStore.D : TStore → List Dat
 | .mk x0 x1 x2 x3 x4 x5 x6 x7 x8 x9 x10 x11 x12 => [.row 1 (x0.map fun x => [.str x]), .row 3 (x1.map TRecordType.D), .row 5 (x2.map TObject.D), .row 6 (x3.map TValue.D), .str x4, .int x5, .row 1 (x6.map fun x => [.str x]), .row 1 (x7.map fun x => [.str x]), .row 2 (x8.map TActive.D), .bool x9, .int x10, .int x11, .int x12]
theorem TStore.D_mk {x0 : List ByteArray} {x1 : List TRecordType} {x2 : List TObject} {x3 : List TValue} {x4 : ByteArray} {x5 : Int} {x6 : List ByteArray} {x7 : List ByteArray} {x8 : List TActive} {x9 : Bool} {x10 : Int} {x11 : Int} {x12 : Int} : (TStore.mk x0 x1 x2 x3 x4 x5 x6 x7 x8 x9 x10 x11 x12).D = [.row 1 (x0.map fun x => [.str x]), .row 3 (x1.map TRecordType.D), .row 5 (x2.map TObject.D), .row 6 (x3.map TValue.D), .str x4, .int x5, .row 1 (x6.map fun x => [.str x]), .row 1 (x7.map fun x => [.str x]), .row 2 (x8.map TActive.D), .bool x9, .int x10, .int x11, .int x12] := by
 simp only [TStore.D]
theorem TStore.D_len : ∀ t : TStore, t.D.length = 13
 | .mk x0 x1 x2 x3 x4 x5 x6 x7 x8 x9 x10 x11 x12 => by rw [TStore.D_mk]; rfl
set_option maxHeartbeats 4000000 in
theorem TStore.vals {w : World} {S : Nat → Prop} {x0 : List ByteArray} {x1 : List TRecordType} {x2 : List TObject} {x3 : List TValue} {x4 : ByteArray} {x5 : Int} {x6 : List ByteArray} {x7 : List ByteArray} {x8 : List TActive} {x9 : Bool} {x10 : Int} {x11 : Int} {x12 : Int} {vs : List Value} (h : Dat.HoldVals w S (TStore.mk x0 x1 x2 x3 x4 x5 x6 x7 x8 x9 x10 x11 x12).D vs) : ∃ Ax0 cx0 Ax1 cx1 Ax2 cx2 Ax3 cx3 Ax6 cx6 Ax7 cx7 Ax8 cx8, vs = [.slice Ax0 x0.length cx0, .slice Ax1 x1.length cx1, .slice Ax2 x2.length cx2, .slice Ax3 x3.length cx3, .string x4, .int .i64 x5, .slice Ax6 x6.length cx6, .slice Ax7 x7.length cx7, .slice Ax8 x8.length cx8, .bool x9, .int .i64 x10, .int .i64 x11, .int .i64 x12] ∧ Row w S 1 Ax0 cx0 (x0.map fun x => [.str x]) ∧ Row w S 3 Ax1 cx1 (x1.map TRecordType.D) ∧ Row w S 5 Ax2 cx2 (x2.map TObject.D) ∧ Row w S 6 Ax3 cx3 (x3.map TValue.D) ∧ x4.size ≤ maxLen ∧ InI x5 ∧ Row w S 1 Ax6 cx6 (x6.map fun x => [.str x]) ∧ Row w S 1 Ax7 cx7 (x7.map fun x => [.str x]) ∧ Row w S 2 Ax8 cx8 (x8.map TActive.D) ∧ True ∧ InI x10 ∧ InI x11 ∧ InI x12 := by
 rw [TStore.D_mk] at h
 have hl := h.length
 obtain ⟨u0, u1, u2, u3, u4, u5, u6, u7, u8, u9, u10, u11, u12, rfl⟩ := lst13 (hl.trans rfl)
 clear hl
 simp only [Dat.HoldVals] at h
 ·
  obtain ⟨h0, h1, h2, h3, h4, h5, h6, h7, h8, h9, h10, h11, h12, -⟩ := h
  obtain ⟨Ax0, cx0, rfl, g0⟩ := Dat.holds_row.1 h0
  obtain ⟨Ax1, cx1, rfl, g1⟩ := Dat.holds_row.1 h1
  obtain ⟨Ax2, cx2, rfl, g2⟩ := Dat.holds_row.1 h2
  obtain ⟨Ax3, cx3, rfl, g3⟩ := Dat.holds_row.1 h3
  obtain ⟨rfl, g4⟩ := Dat.holds_str.1 h4
  obtain ⟨rfl, g5⟩ := Dat.holds_int.1 h5
  obtain ⟨Ax6, cx6, rfl, g6⟩ := Dat.holds_row.1 h6
  obtain ⟨Ax7, cx7, rfl, g7⟩ := Dat.holds_row.1 h7
  obtain ⟨Ax8, cx8, rfl, g8⟩ := Dat.holds_row.1 h8
  obtain rfl := Dat.holds_bool.1 h9
  obtain ⟨rfl, g10⟩ := Dat.holds_int.1 h10
  obtain ⟨rfl, g11⟩ := Dat.holds_int.1 h11
  obtain ⟨rfl, g12⟩ := Dat.holds_int.1 h12
  exact ⟨Ax0, cx0, Ax1, cx1, Ax2, cx2, Ax3, cx3, Ax6, cx6, Ax7, cx7, Ax8, cx8, by simp only [List.length_map], g0, g1, g2, g3, g4, g5, g6, g7, g8, trivial, g10, g11, g12⟩
theorem TStore.vals_mk {w : World} {S : Nat → Prop} {x0 : List ByteArray} {x1 : List TRecordType} {x2 : List TObject} {x3 : List TValue} {x4 : ByteArray} {x5 : Int} {x6 : List ByteArray} {x7 : List ByteArray} {x8 : List TActive} {x9 : Bool} {x10 : Int} {x11 : Int} {x12 : Int} {Ax0 : Option Addr} {cx0 : Nat} {Ax1 : Option Addr} {cx1 : Nat} {Ax2 : Option Addr} {cx2 : Nat} {Ax3 : Option Addr} {cx3 : Nat} {Ax6 : Option Addr} {cx6 : Nat} {Ax7 : Option Addr} {cx7 : Nat} {Ax8 : Option Addr} {cx8 : Nat} (h0 : Row w S 1 Ax0 cx0 (x0.map fun x => [.str x])) (h1 : Row w S 3 Ax1 cx1 (x1.map TRecordType.D)) (h2 : Row w S 5 Ax2 cx2 (x2.map TObject.D)) (h3 : Row w S 6 Ax3 cx3 (x3.map TValue.D)) (h4 : x4.size ≤ maxLen) (h5 : InI x5) (h6 : Row w S 1 Ax6 cx6 (x6.map fun x => [.str x])) (h7 : Row w S 1 Ax7 cx7 (x7.map fun x => [.str x])) (h8 : Row w S 2 Ax8 cx8 (x8.map TActive.D)) (h10 : InI x10) (h11 : InI x11) (h12 : InI x12) : Dat.HoldVals w S (TStore.mk x0 x1 x2 x3 x4 x5 x6 x7 x8 x9 x10 x11 x12).D [.slice Ax0 x0.length cx0, .slice Ax1 x1.length cx1, .slice Ax2 x2.length cx2, .slice Ax3 x3.length cx3, .string x4, .int .i64 x5, .slice Ax6 x6.length cx6, .slice Ax7 x7.length cx7, .slice Ax8 x8.length cx8, .bool x9, .int .i64 x10, .int .i64 x11, .int .i64 x12] := by
 rw [TStore.D_mk]
 exact ⟨Dat.holds_row.2 ⟨_, _, by simp only [List.length_map], h0⟩, Dat.holds_row.2 ⟨_, _, by simp only [List.length_map], h1⟩, Dat.holds_row.2 ⟨_, _, by simp only [List.length_map], h2⟩, Dat.holds_row.2 ⟨_, _, by simp only [List.length_map], h3⟩, Dat.holds_str.2 ⟨rfl, h4⟩, Dat.holds_int.2 ⟨rfl, h5⟩, Dat.holds_row.2 ⟨_, _, by simp only [List.length_map], h6⟩, Dat.holds_row.2 ⟨_, _, by simp only [List.length_map], h7⟩, Dat.holds_row.2 ⟨_, _, by simp only [List.length_map], h8⟩, Dat.holds_bool.2 rfl, Dat.holds_int.2 ⟨rfl, h10⟩, Dat.holds_int.2 ⟨rfl, h11⟩, Dat.holds_int.2 ⟨rfl, h12⟩, trivial⟩
set_option maxHeartbeats 4000000 in
theorem TStore.at {w : World} {S : Nat → Prop} {A : Option Addr} {c : Nat} {l : List TStore} (h : Row w S 13 A c (l.map TStore.D)) (i : Nat) (hi : i < l.length) :
  ∃ b o x0 x1 x2 x3 x4 x5 x6 x7 x8 x9 x10 x11 x12 Ax0 cx0 Ax1 cx1 Ax2 cx2 Ax3 cx3 Ax6 cx6 Ax7 cx7 Ax8 cx8, A = some ⟨b, o, none⟩ ∧ S b ∧ b < w.heap.size ∧ l[i] = .mk x0 x1 x2 x3 x4 x5 x6 x7 x8 x9 x10 x11 x12 ∧ Dat.HoldVals w S l[i].D [.slice Ax0 x0.length cx0, .slice Ax1 x1.length cx1, .slice Ax2 x2.length cx2, .slice Ax3 x3.length cx3, .string x4, .int .i64 x5, .slice Ax6 x6.length cx6, .slice Ax7 x7.length cx7, .slice Ax8 x8.length cx8, .bool x9, .int .i64 x10, .int .i64 x11, .int .i64 x12] ∧ Row w S 1 Ax0 cx0 (x0.map fun x => [.str x]) ∧ Row w S 3 Ax1 cx1 (x1.map TRecordType.D) ∧ Row w S 5 Ax2 cx2 (x2.map TObject.D) ∧ Row w S 6 Ax3 cx3 (x3.map TValue.D) ∧ x4.size ≤ maxLen ∧ InI x5 ∧ Row w S 1 Ax6 cx6 (x6.map fun x => [.str x]) ∧ Row w S 1 Ax7 cx7 (x7.map fun x => [.str x]) ∧ Row w S 2 Ax8 cx8 (x8.map TActive.D) ∧ True ∧ InI x10 ∧ InI x11 ∧ InI x12 ∧ w.cell? ⟨b, o + i * 13, none⟩ = some (.slice Ax0 x0.length cx0) ∧ w.cell? ⟨b, o + i * 13 + 1, none⟩ = some (.slice Ax1 x1.length cx1) ∧ w.cell? ⟨b, o + i * 13 + 2, none⟩ = some (.slice Ax2 x2.length cx2) ∧ w.cell? ⟨b, o + i * 13 + 3, none⟩ = some (.slice Ax3 x3.length cx3) ∧ w.cell? ⟨b, o + i * 13 + 4, none⟩ = some (.string x4) ∧ w.cell? ⟨b, o + i * 13 + 5, none⟩ = some (.int .i64 x5) ∧ w.cell? ⟨b, o + i * 13 + 6, none⟩ = some (.slice Ax6 x6.length cx6) ∧ w.cell? ⟨b, o + i * 13 + 7, none⟩ = some (.slice Ax7 x7.length cx7) ∧ w.cell? ⟨b, o + i * 13 + 8, none⟩ = some (.slice Ax8 x8.length cx8) ∧ w.cell? ⟨b, o + i * 13 + 9, none⟩ = some (.bool x9) ∧ w.cell? ⟨b, o + i * 13 + 10, none⟩ = some (.int .i64 x10) ∧ w.cell? ⟨b, o + i * 13 + 11, none⟩ = some (.int .i64 x11) ∧ w.cell? ⟨b, o + i * 13 + 12, none⟩ = some (.int .i64 x12) := by
 obtain ⟨b, o, vs, hA, hS, hb, hv, hl, hc⟩ := Row.at h i (by simpa using hi)
 rw [List.getElem_map] at hv
 obtain ⟨x0, x1, x2, x3, x4, x5, x6, x7, x8, x9, x10, x11, x12, hx⟩ : ∃ x0 x1 x2 x3 x4 x5 x6 x7 x8 x9 x10 x11 x12, l[i] = .mk x0 x1 x2 x3 x4 x5 x6 x7 x8 x9 x10 x11 x12 := by cases l[i]; exact ⟨_, _, _, _, _, _, _, _, _, _, _, _, _, rfl⟩
 have hv2 := hv
 rw [hx] at hv2
 obtain ⟨Ax0, cx0, Ax1, cx1, Ax2, cx2, Ax3, cx3, Ax6, cx6, Ax7, cx7, Ax8, cx8, rfl, g0, g1, g2, g3, g4, g5, g6, g7, g8, g9, g10, g11, g12⟩ := TStore.vals hv2
 exact ⟨b, o, _, _, _, _, _, _, _, _, _, _, _, _, _, _, _, _, _, _, _, _, _, _, _, _, _, _, _, hA, hS, hb, hx, hv, g0, g1, g2, g3, g4, g5, g6, g7, g8, g9, g10, g11, g12, by simpa using hc 0 (by decide), by simpa using hc 1 (by decide), by simpa using hc 2 (by decide), by simpa using hc 3 (by decide), by simpa using hc 4 (by decide), by simpa using hc 5 (by decide), by simpa using hc 6 (by decide), by simpa using hc 7 (by decide), by simpa using hc 8 (by decide), by simpa using hc 9 (by decide), by simpa using hc 10 (by decide), by simpa using hc 11 (by decide), by simpa using hc 12 (by decide)⟩
inductive TGenerator where
 | mk (Kind : Int) (Op : Int) (Count : Int) (Args : List TValue)
def TGenerator.D : TGenerator → List Dat
 | .mk x0 x1 x2 x3 => [.int x0, .int x1, .int x2, .row 6 (x3.map TValue.D)]
theorem TGenerator.D_mk {x0 : Int} {x1 : Int} {x2 : Int} {x3 : List TValue} : (TGenerator.mk x0 x1 x2 x3).D = [.int x0, .int x1, .int x2, .row 6 (x3.map TValue.D)] := by
 simp only [TGenerator.D]
theorem TGenerator.D_len : ∀ t : TGenerator, t.D.length = 4
 | .mk x0 x1 x2 x3 => by rw [TGenerator.D_mk]; rfl
theorem TGenerator.vals {w : World} {S : Nat → Prop} {x0 : Int} {x1 : Int} {x2 : Int} {x3 : List TValue} {vs : List Value} (h : Dat.HoldVals w S (TGenerator.mk x0 x1 x2 x3).D vs) : ∃ Ax3 cx3, vs = [.int .i64 x0, .int .i64 x1, .int .i64 x2, .slice Ax3 x3.length cx3] ∧ InI x0 ∧ InI x1 ∧ InI x2 ∧ Row w S 6 Ax3 cx3 (x3.map TValue.D) := by
 rw [TGenerator.D_mk] at h
 match vs, h with
 | [u0, u1, u2, u3], h =>
  obtain ⟨h0, h1, h2, h3, -⟩ := h
  obtain ⟨rfl, g0⟩ := Dat.holds_int.1 h0
  obtain ⟨rfl, g1⟩ := Dat.holds_int.1 h1
  obtain ⟨rfl, g2⟩ := Dat.holds_int.1 h2
  obtain ⟨Ax3, cx3, rfl, g3⟩ := Dat.holds_row.1 h3
  exact ⟨Ax3, cx3, by simp only [List.length_map], g0, g1, g2, g3⟩
theorem TGenerator.vals_mk {w : World} {S : Nat → Prop} {x0 : Int} {x1 : Int} {x2 : Int} {x3 : List TValue} {Ax3 : Option Addr} {cx3 : Nat} (h0 : InI x0) (h1 : InI x1) (h2 : InI x2) (h3 : Row w S 6 Ax3 cx3 (x3.map TValue.D)) : Dat.HoldVals w S (TGenerator.mk x0 x1 x2 x3).D [.int .i64 x0, .int .i64 x1, .int .i64 x2, .slice Ax3 x3.length cx3] := by
 rw [TGenerator.D_mk]
 exact ⟨Dat.holds_int.2 ⟨rfl, h0⟩, Dat.holds_int.2 ⟨rfl, h1⟩, Dat.holds_int.2 ⟨rfl, h2⟩, Dat.holds_row.2 ⟨_, _, by simp only [List.length_map], h3⟩, trivial⟩
theorem TGenerator.at {w : World} {S : Nat → Prop} {A : Option Addr} {c : Nat} {l : List TGenerator} (h : Row w S 4 A c (l.map TGenerator.D)) (i : Nat) (hi : i < l.length) :
  ∃ b o x0 x1 x2 x3 Ax3 cx3, A = some ⟨b, o, none⟩ ∧ S b ∧ b < w.heap.size ∧ l[i] = .mk x0 x1 x2 x3 ∧ Dat.HoldVals w S l[i].D [.int .i64 x0, .int .i64 x1, .int .i64 x2, .slice Ax3 x3.length cx3] ∧ InI x0 ∧ InI x1 ∧ InI x2 ∧ Row w S 6 Ax3 cx3 (x3.map TValue.D) ∧ w.cell? ⟨b, o + i * 4, none⟩ = some (.int .i64 x0) ∧ w.cell? ⟨b, o + i * 4 + 1, none⟩ = some (.int .i64 x1) ∧ w.cell? ⟨b, o + i * 4 + 2, none⟩ = some (.int .i64 x2) ∧ w.cell? ⟨b, o + i * 4 + 3, none⟩ = some (.slice Ax3 x3.length cx3) := by
 obtain ⟨b, o, vs, hA, hS, hb, hv, hl, hc⟩ := Row.at h i (by simpa using hi)
 rw [List.getElem_map] at hv
 obtain ⟨x0, x1, x2, x3, hx⟩ : ∃ x0 x1 x2 x3, l[i] = .mk x0 x1 x2 x3 := by cases l[i]; exact ⟨_, _, _, _, rfl⟩
 have hv2 := hv
 rw [hx] at hv2
 obtain ⟨Ax3, cx3, rfl, g0, g1, g2, g3⟩ := TGenerator.vals hv2
 exact ⟨b, o, _, _, _, _, _, _, hA, hS, hb, hx, hv, g0, g1, g2, g3, by simpa using hc 0 (by decide), by simpa using hc 1 (by decide), by simpa using hc 2 (by decide), by simpa using hc 3 (by decide)⟩
theorem trodTRecordType {H : Type} {enc : TypeId × Value → H} {w : World} {spare : Nat → Bool} {held : Bool} : ∀ (fuel : Nat) (cs : List Value) (x : DataW H × List MemPlace), DataW.trod enc Tryz.prog w 0 spare held fuel 83 cs = some x → ∃ t : TRecordType, Dat.HoldVals w (fun _ => True) t.D cs := by
 intro fuel
 induction fuel using Nat.strongRecOn with
 | ind fuel ih =>
 intro cs x h
 obtain ⟨xs, n, rfl, hx, hl, hlen, hg⟩ := DataW.trod_struct Tryz.underlying83 h
 obtain ⟨c0, c1, c2, rfl⟩ := lst3 (hl.trans (by kernel_rfl))
 obtain ⟨y0, y1, y2, rfl⟩ := lst3 (hlen.trans (by kernel_rfl))
 have g0 := hg 0 _ rfl
 have g1 := hg 1 _ rfl
 have g2 := hg 2 _ rfl
 obtain ⟨a0, e0, _, w0⟩ := DataW.trod_string (cs := [c0]) Tryz.underlying9 g0
 simp only [List.cons.injEq, and_true] at e0
 subst e0
 obtain ⟨a1, A1, q1, e1, hR1⟩ := open_row (fun x => [Dat.str x]) (cs := [c1]) (k := 1) Tryz.underlying24 (by kernel_rfl) (by decide) (fun _ => rfl) (fun m hm cs x h => by obtain ⟨a, e, _, w⟩ := DataW.trod_string Tryz.underlying9 h; exact ⟨a, by rw [e]; exact ⟨Dat.holds_str.2 ⟨rfl, w⟩, trivial⟩⟩) g1
 simp only [List.cons.injEq, and_true] at e1
 subst e1
 obtain ⟨a2, e2, _, w2⟩ := DataW.trod_int (cs := [c2]) Tryz.underlying3 g2
 simp only [List.cons.injEq, and_true] at e2
 subst e2
 exact ⟨.mk a0 a1 a2, TRecordType.vals_mk w0 hR1 (inI_of_wf w2)⟩
end Go.Proofs.YtgofbnmablgedaaGreatDoor
namespace Go.Proofs.YtgofbnmablgedaaGreatDoor
set_option linter.unusedVariables false
set_option linter.unusedSimpArgs false
set_option maxRecDepth 100000
open Go.ChangeShapes Go.WideShapes Go.RowKit Go.Deep
inductive TRoutine where
 | mk (Name : ByteArray) (Params : Int) (Slots : List ByteArray) (BodyKind : Int) (BodyOp : Int) (BodyNumber : Int) (BodyLine : Int) (BodyText : ByteArray) (BodyKids : List TCore)
def TRoutine.D : TRoutine → List Dat
 | .mk x0 x1 x2 x3 x4 x5 x6 x7 x8 => [.str x0, .int x1, .row 1 (x2.map fun x => [.str x]), .int x3, .int x4, .int x5, .int x6, .str x7, .row 6 (x8.map TCore.D)]
theorem TRoutine.D_mk {x0 : ByteArray} {x1 : Int} {x2 : List ByteArray} {x3 : Int} {x4 : Int} {x5 : Int} {x6 : Int} {x7 : ByteArray} {x8 : List TCore} : (TRoutine.mk x0 x1 x2 x3 x4 x5 x6 x7 x8).D = [.str x0, .int x1, .row 1 (x2.map fun x => [.str x]), .int x3, .int x4, .int x5, .int x6, .str x7, .row 6 (x8.map TCore.D)] := by
 simp only [TRoutine.D]
theorem TRoutine.D_len : ∀ t : TRoutine, t.D.length = 9
 | .mk x0 x1 x2 x3 x4 x5 x6 x7 x8 => by rw [TRoutine.D_mk]; rfl
set_option maxHeartbeats 4000000 in
theorem TRoutine.vals {w : World} {S : Nat → Prop} {x0 : ByteArray} {x1 : Int} {x2 : List ByteArray} {x3 : Int} {x4 : Int} {x5 : Int} {x6 : Int} {x7 : ByteArray} {x8 : List TCore} {vs : List Value} (h : Dat.HoldVals w S (TRoutine.mk x0 x1 x2 x3 x4 x5 x6 x7 x8).D vs) : ∃ Ax2 cx2 Ax8 cx8, vs = [.string x0, .int .i64 x1, .slice Ax2 x2.length cx2, .int .i64 x3, .int .i64 x4, .int .i64 x5, .int .i64 x6, .string x7, .slice Ax8 x8.length cx8] ∧ x0.size ≤ maxLen ∧ InI x1 ∧ Row w S 1 Ax2 cx2 (x2.map fun x => [.str x]) ∧ InI x3 ∧ InI x4 ∧ InI x5 ∧ InI x6 ∧ x7.size ≤ maxLen ∧ Row w S 6 Ax8 cx8 (x8.map TCore.D) := by
 rw [TRoutine.D_mk] at h
 have hl := h.length
 obtain ⟨u0, u1, u2, u3, u4, u5, u6, u7, u8, rfl⟩ := lst9 (hl.trans rfl)
 clear hl
 simp only [Dat.HoldVals] at h
 ·
  obtain ⟨h0, h1, h2, h3, h4, h5, h6, h7, h8, -⟩ := h
  obtain ⟨rfl, g0⟩ := Dat.holds_str.1 h0
  obtain ⟨rfl, g1⟩ := Dat.holds_int.1 h1
  obtain ⟨Ax2, cx2, rfl, g2⟩ := Dat.holds_row.1 h2
  obtain ⟨rfl, g3⟩ := Dat.holds_int.1 h3
  obtain ⟨rfl, g4⟩ := Dat.holds_int.1 h4
  obtain ⟨rfl, g5⟩ := Dat.holds_int.1 h5
  obtain ⟨rfl, g6⟩ := Dat.holds_int.1 h6
  obtain ⟨rfl, g7⟩ := Dat.holds_str.1 h7
  obtain ⟨Ax8, cx8, rfl, g8⟩ := Dat.holds_row.1 h8
  exact ⟨Ax2, cx2, Ax8, cx8, by simp only [List.length_map], g0, g1, g2, g3, g4, g5, g6, g7, g8⟩
theorem TRoutine.vals_mk {w : World} {S : Nat → Prop} {x0 : ByteArray} {x1 : Int} {x2 : List ByteArray} {x3 : Int} {x4 : Int} {x5 : Int} {x6 : Int} {x7 : ByteArray} {x8 : List TCore} {Ax2 : Option Addr} {cx2 : Nat} {Ax8 : Option Addr} {cx8 : Nat} (h0 : x0.size ≤ maxLen) (h1 : InI x1) (h2 : Row w S 1 Ax2 cx2 (x2.map fun x => [.str x])) (h3 : InI x3) (h4 : InI x4) (h5 : InI x5) (h6 : InI x6) (h7 : x7.size ≤ maxLen) (h8 : Row w S 6 Ax8 cx8 (x8.map TCore.D)) : Dat.HoldVals w S (TRoutine.mk x0 x1 x2 x3 x4 x5 x6 x7 x8).D [.string x0, .int .i64 x1, .slice Ax2 x2.length cx2, .int .i64 x3, .int .i64 x4, .int .i64 x5, .int .i64 x6, .string x7, .slice Ax8 x8.length cx8] := by
 rw [TRoutine.D_mk]
 exact ⟨Dat.holds_str.2 ⟨rfl, h0⟩, Dat.holds_int.2 ⟨rfl, h1⟩, Dat.holds_row.2 ⟨_, _, by simp only [List.length_map], h2⟩, Dat.holds_int.2 ⟨rfl, h3⟩, Dat.holds_int.2 ⟨rfl, h4⟩, Dat.holds_int.2 ⟨rfl, h5⟩, Dat.holds_int.2 ⟨rfl, h6⟩, Dat.holds_str.2 ⟨rfl, h7⟩, Dat.holds_row.2 ⟨_, _, by simp only [List.length_map], h8⟩, trivial⟩
set_option maxHeartbeats 4000000 in
theorem TRoutine.at {w : World} {S : Nat → Prop} {A : Option Addr} {c : Nat} {l : List TRoutine} (h : Row w S 9 A c (l.map TRoutine.D)) (i : Nat) (hi : i < l.length) :
  ∃ b o x0 x1 x2 x3 x4 x5 x6 x7 x8 Ax2 cx2 Ax8 cx8, A = some ⟨b, o, none⟩ ∧ S b ∧ b < w.heap.size ∧ l[i] = .mk x0 x1 x2 x3 x4 x5 x6 x7 x8 ∧ Dat.HoldVals w S l[i].D [.string x0, .int .i64 x1, .slice Ax2 x2.length cx2, .int .i64 x3, .int .i64 x4, .int .i64 x5, .int .i64 x6, .string x7, .slice Ax8 x8.length cx8] ∧ x0.size ≤ maxLen ∧ InI x1 ∧ Row w S 1 Ax2 cx2 (x2.map fun x => [.str x]) ∧ InI x3 ∧ InI x4 ∧ InI x5 ∧ InI x6 ∧ x7.size ≤ maxLen ∧ Row w S 6 Ax8 cx8 (x8.map TCore.D) ∧ w.cell? ⟨b, o + i * 9, none⟩ = some (.string x0) ∧ w.cell? ⟨b, o + i * 9 + 1, none⟩ = some (.int .i64 x1) ∧ w.cell? ⟨b, o + i * 9 + 2, none⟩ = some (.slice Ax2 x2.length cx2) ∧ w.cell? ⟨b, o + i * 9 + 3, none⟩ = some (.int .i64 x3) ∧ w.cell? ⟨b, o + i * 9 + 4, none⟩ = some (.int .i64 x4) ∧ w.cell? ⟨b, o + i * 9 + 5, none⟩ = some (.int .i64 x5) ∧ w.cell? ⟨b, o + i * 9 + 6, none⟩ = some (.int .i64 x6) ∧ w.cell? ⟨b, o + i * 9 + 7, none⟩ = some (.string x7) ∧ w.cell? ⟨b, o + i * 9 + 8, none⟩ = some (.slice Ax8 x8.length cx8) := by
 obtain ⟨b, o, vs, hA, hS, hb, hv, hl, hc⟩ := Row.at h i (by simpa using hi)
 rw [List.getElem_map] at hv
 obtain ⟨x0, x1, x2, x3, x4, x5, x6, x7, x8, hx⟩ : ∃ x0 x1 x2 x3 x4 x5 x6 x7 x8, l[i] = .mk x0 x1 x2 x3 x4 x5 x6 x7 x8 := by cases l[i]; exact ⟨_, _, _, _, _, _, _, _, _, rfl⟩
 have hv2 := hv
 rw [hx] at hv2
 obtain ⟨Ax2, cx2, Ax8, cx8, rfl, g0, g1, g2, g3, g4, g5, g6, g7, g8⟩ := TRoutine.vals hv2
 exact ⟨b, o, _, _, _, _, _, _, _, _, _, _, _, _, _, hA, hS, hb, hx, hv, g0, g1, g2, g3, g4, g5, g6, g7, g8, by simpa using hc 0 (by decide), by simpa using hc 1 (by decide), by simpa using hc 2 (by decide), by simpa using hc 3 (by decide), by simpa using hc 4 (by decide), by simpa using hc 5 (by decide), by simpa using hc 6 (by decide), by simpa using hc 7 (by decide), by simpa using hc 8 (by decide)⟩
inductive TProgram where
 | mk (Routines : List TRoutine) (Records : List TRecordType) (Globals : List ByteArray) (Main : Int)
def TProgram.D : TProgram → List Dat
 | .mk x0 x1 x2 x3 => [.row 9 (x0.map TRoutine.D), .row 3 (x1.map TRecordType.D), .row 1 (x2.map fun x => [.str x]), .int x3]
theorem TProgram.D_mk {x0 : List TRoutine} {x1 : List TRecordType} {x2 : List ByteArray} {x3 : Int} : (TProgram.mk x0 x1 x2 x3).D = [.row 9 (x0.map TRoutine.D), .row 3 (x1.map TRecordType.D), .row 1 (x2.map fun x => [.str x]), .int x3] := by
 simp only [TProgram.D]
theorem TProgram.D_len : ∀ t : TProgram, t.D.length = 4
 | .mk x0 x1 x2 x3 => by rw [TProgram.D_mk]; rfl
theorem TProgram.vals {w : World} {S : Nat → Prop} {x0 : List TRoutine} {x1 : List TRecordType} {x2 : List ByteArray} {x3 : Int} {vs : List Value} (h : Dat.HoldVals w S (TProgram.mk x0 x1 x2 x3).D vs) : ∃ Ax0 cx0 Ax1 cx1 Ax2 cx2, vs = [.slice Ax0 x0.length cx0, .slice Ax1 x1.length cx1, .slice Ax2 x2.length cx2, .int .i64 x3] ∧ Row w S 9 Ax0 cx0 (x0.map TRoutine.D) ∧ Row w S 3 Ax1 cx1 (x1.map TRecordType.D) ∧ Row w S 1 Ax2 cx2 (x2.map fun x => [.str x]) ∧ InI x3 := by
 rw [TProgram.D_mk] at h
 match vs, h with
 | [u0, u1, u2, u3], h =>
  obtain ⟨h0, h1, h2, h3, -⟩ := h
  obtain ⟨Ax0, cx0, rfl, g0⟩ := Dat.holds_row.1 h0
  obtain ⟨Ax1, cx1, rfl, g1⟩ := Dat.holds_row.1 h1
  obtain ⟨Ax2, cx2, rfl, g2⟩ := Dat.holds_row.1 h2
  obtain ⟨rfl, g3⟩ := Dat.holds_int.1 h3
  exact ⟨Ax0, cx0, Ax1, cx1, Ax2, cx2, by simp only [List.length_map], g0, g1, g2, g3⟩
theorem TProgram.vals_mk {w : World} {S : Nat → Prop} {x0 : List TRoutine} {x1 : List TRecordType} {x2 : List ByteArray} {x3 : Int} {Ax0 : Option Addr} {cx0 : Nat} {Ax1 : Option Addr} {cx1 : Nat} {Ax2 : Option Addr} {cx2 : Nat} (h0 : Row w S 9 Ax0 cx0 (x0.map TRoutine.D)) (h1 : Row w S 3 Ax1 cx1 (x1.map TRecordType.D)) (h2 : Row w S 1 Ax2 cx2 (x2.map fun x => [.str x])) (h3 : InI x3) : Dat.HoldVals w S (TProgram.mk x0 x1 x2 x3).D [.slice Ax0 x0.length cx0, .slice Ax1 x1.length cx1, .slice Ax2 x2.length cx2, .int .i64 x3] := by
 rw [TProgram.D_mk]
 exact ⟨Dat.holds_row.2 ⟨_, _, by simp only [List.length_map], h0⟩, Dat.holds_row.2 ⟨_, _, by simp only [List.length_map], h1⟩, Dat.holds_row.2 ⟨_, _, by simp only [List.length_map], h2⟩, Dat.holds_int.2 ⟨rfl, h3⟩, trivial⟩
theorem TProgram.at {w : World} {S : Nat → Prop} {A : Option Addr} {c : Nat} {l : List TProgram} (h : Row w S 4 A c (l.map TProgram.D)) (i : Nat) (hi : i < l.length) :
  ∃ b o x0 x1 x2 x3 Ax0 cx0 Ax1 cx1 Ax2 cx2, A = some ⟨b, o, none⟩ ∧ S b ∧ b < w.heap.size ∧ l[i] = .mk x0 x1 x2 x3 ∧ Dat.HoldVals w S l[i].D [.slice Ax0 x0.length cx0, .slice Ax1 x1.length cx1, .slice Ax2 x2.length cx2, .int .i64 x3] ∧ Row w S 9 Ax0 cx0 (x0.map TRoutine.D) ∧ Row w S 3 Ax1 cx1 (x1.map TRecordType.D) ∧ Row w S 1 Ax2 cx2 (x2.map fun x => [.str x]) ∧ InI x3 ∧ w.cell? ⟨b, o + i * 4, none⟩ = some (.slice Ax0 x0.length cx0) ∧ w.cell? ⟨b, o + i * 4 + 1, none⟩ = some (.slice Ax1 x1.length cx1) ∧ w.cell? ⟨b, o + i * 4 + 2, none⟩ = some (.slice Ax2 x2.length cx2) ∧ w.cell? ⟨b, o + i * 4 + 3, none⟩ = some (.int .i64 x3) := by
 obtain ⟨b, o, vs, hA, hS, hb, hv, hl, hc⟩ := Row.at h i (by simpa using hi)
 rw [List.getElem_map] at hv
 obtain ⟨x0, x1, x2, x3, hx⟩ : ∃ x0 x1 x2 x3, l[i] = .mk x0 x1 x2 x3 := by cases l[i]; exact ⟨_, _, _, _, rfl⟩
 have hv2 := hv
 rw [hx] at hv2
 obtain ⟨Ax0, cx0, Ax1, cx1, Ax2, cx2, rfl, g0, g1, g2, g3⟩ := TProgram.vals hv2
 exact ⟨b, o, _, _, _, _, _, _, _, _, _, _, hA, hS, hb, hx, hv, g0, g1, g2, g3, by simpa using hc 0 (by decide), by simpa using hc 1 (by decide), by simpa using hc 2 (by decide), by simpa using hc 3 (by decide)⟩
set_option maxHeartbeats 4000000 in
theorem trodTRoutine {H : Type} {enc : TypeId × Value → H} {w : World} {spare : Nat → Bool} {held : Bool} : ∀ (fuel : Nat) (cs : List Value) (x : DataW H × List MemPlace), DataW.trod enc Tryz.prog w 0 spare held fuel 80 cs = some x → ∃ t : TRoutine, Dat.HoldVals w (fun _ => True) t.D cs := by
 intro fuel
 induction fuel using Nat.strongRecOn with
 | ind fuel ih =>
 intro cs x h
 obtain ⟨xs, n, rfl, hx, hl, hlen, hg⟩ := DataW.trod_struct Tryz.underlying80 h
 obtain ⟨c0, c1, c2, c3, c4, c5, c6, c7, c8, rfl⟩ := lst9 (hl.trans (by kernel_rfl))
 obtain ⟨y0, y1, y2, y3, rfl⟩ := lst4 (hlen.trans (by kernel_rfl))
 have g0 := hg 0 _ rfl
 have g1 := hg 1 _ rfl
 have g2 := hg 2 _ rfl
 have g3 := hg 3 _ rfl
 obtain ⟨a0, e0, _, w0⟩ := DataW.trod_string (cs := [c0]) Tryz.underlying9 g0
 simp only [List.cons.injEq, and_true] at e0
 subst e0
 obtain ⟨a1, e1, _, w1⟩ := DataW.trod_int (cs := [c1]) Tryz.underlying3 g1
 simp only [List.cons.injEq, and_true] at e1
 subst e1
 obtain ⟨a2, A2, q2, e2, hR2⟩ := open_row (fun x => [Dat.str x]) (cs := [c2]) (k := 1) Tryz.underlying24 (by kernel_rfl) (by decide) (fun _ => rfl) (fun m hm cs x h => by obtain ⟨a, e, _, w⟩ := DataW.trod_string Tryz.underlying9 h; exact ⟨a, by rw [e]; exact ⟨Dat.holds_str.2 ⟨rfl, w⟩, trivial⟩⟩) g2
 simp only [List.cons.injEq, and_true] at e2
 subst e2
 obtain ⟨t3, h3⟩ := trodTCore n [c3, c4, c5, c6, c7, c8] _ g3
 obtain ⟨a3_0, a3_1, a3_2, a3_3, a3_4, a3_5⟩ := t3
 obtain ⟨A3_5, q3_5, e3, b3_0, b3_1, b3_2, b3_3, b3_4, b3_5⟩ := TCore.vals h3
 simp only [List.cons.injEq, and_true] at e3
 obtain ⟨rfl, rfl, rfl, rfl, rfl, rfl⟩ := e3
 exact ⟨.mk a0 a1 a2 a3_0 a3_1 a3_2 a3_3 a3_4 a3_5, TRoutine.vals_mk w0 (inI_of_wf w1) hR2 b3_0 b3_1 b3_2 b3_3 b3_4 b3_5⟩
theorem trodTProgram {H : Type} {enc : TypeId × Value → H} {w : World} {spare : Nat → Bool} {held : Bool} : ∀ (fuel : Nat) (cs : List Value) (x : DataW H × List MemPlace), DataW.trod enc Tryz.prog w 0 spare held fuel 26 cs = some x → ∃ t : TProgram, Dat.HoldVals w (fun _ => True) t.D cs := by
 intro fuel
 induction fuel using Nat.strongRecOn with
 | ind fuel ih =>
 intro cs x h
 obtain ⟨xs, n, rfl, hx, hl, hlen, hg⟩ := DataW.trod_struct Tryz.underlying26 h
 obtain ⟨c0, c1, c2, c3, rfl⟩ := lst4 (hl.trans (by kernel_rfl))
 obtain ⟨y0, y1, y2, y3, rfl⟩ := lst4 (hlen.trans (by kernel_rfl))
 have g0 := hg 0 _ rfl
 have g1 := hg 1 _ rfl
 have g2 := hg 2 _ rfl
 have g3 := hg 3 _ rfl
 obtain ⟨a0, A0, q0, e0, hR0⟩ := open_row TRoutine.D (cs := [c0]) (k := 9) Tryz.underlying22 (by kernel_rfl) (by decide) TRoutine.D_len (fun m _ cs x h => trodTRoutine m cs x h) g0
 simp only [List.cons.injEq, and_true] at e0
 subst e0
 obtain ⟨a1, A1, q1, e1, hR1⟩ := open_row TRecordType.D (cs := [c1]) (k := 3) Tryz.underlying23 (by kernel_rfl) (by decide) TRecordType.D_len (fun m _ cs x h => trodTRecordType m cs x h) g1
 simp only [List.cons.injEq, and_true] at e1
 subst e1
 obtain ⟨a2, A2, q2, e2, hR2⟩ := open_row (fun x => [Dat.str x]) (cs := [c2]) (k := 1) Tryz.underlying24 (by kernel_rfl) (by decide) (fun _ => rfl) (fun m hm cs x h => by obtain ⟨a, e, _, w⟩ := DataW.trod_string Tryz.underlying9 h; exact ⟨a, by rw [e]; exact ⟨Dat.holds_str.2 ⟨rfl, w⟩, trivial⟩⟩) g2
 simp only [List.cons.injEq, and_true] at e2
 subst e2
 obtain ⟨a3, e3, _, w3⟩ := DataW.trod_int (cs := [c3]) Tryz.underlying3 g3
 simp only [List.cons.injEq, and_true] at e3
 subst e3
 exact ⟨.mk a0 a1 a2 a3, TProgram.vals_mk hR0 hR1 hR2 (inI_of_wf w3)⟩
theorem openTProgram {H : Type} {enc : TypeId × Value → H} {w : World} {spare : Nat → Bool} {held : Bool} {r : Reach} {b0 : Nat} {v : Value} {d : DataW H} {p : List MemPlace} (hv : Value.okWide Tryz.prog w r b0 26 v) (h : DataW.Trod enc Tryz.prog w 0 spare held 26 v d p) :
  ∃ (t : TProgram) (vs : List Value), v = .agg vs.toArray ∧ Dat.HoldVals w (fun _ => True) t.D vs := by
 obtain ⟨cs, rfl, hsz⟩ := okWide_struct Tryz.underlying26 hv
 obtain ⟨fuel, hf⟩ := h
 obtain ⟨t, h1⟩ := trodTProgram fuel _ _ hf
 exact ⟨t, cs.toList, rfl, h1⟩
end Go.Proofs.YtgofbnmablgedaaGreatDoor
