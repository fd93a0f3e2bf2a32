/- The data of further types of the program (Expr, Procedure, Unit). -/
import Derived.Test.YtjodcciloflgbaaDoorTV
namespace Go.Proofs.YtjodcciloflgbaaDoor
set_option linter.unusedVariables false
set_option linter.unusedSimpArgs false
set_option maxRecDepth 100000
open Go.ChangeShapes Go.WideShapes Go.RowKit Go.Deep

inductive TExpr where
  | mk (Kind : Int) (Text : ByteArray) (Number : Int) (Line : Int) (Kids : List TExpr)
mutual
def TExpr.D : TExpr → List Dat
  | .mk x0 x1 x2 x3 x4 => [.int x0, .str x1, .int x2, .int x3, .row 5 (TExpr.Ds x4)]
def TExpr.Ds : List TExpr → List (List Dat)
  | [] => []
  | x :: r => TExpr.D x :: TExpr.Ds r
end
theorem TExpr.Ds_eq : ∀ l, TExpr.Ds l = l.map TExpr.D
  | [] => by simp [TExpr.Ds]
  | x :: r => by simp [TExpr.Ds, TExpr.Ds_eq r]
mutual
theorem TExpr.ind {P : TExpr → Prop} (h : ∀ x0 x1 x2 x3 x4, (∀ (i : Nat) (hi : i < x4.length), P x4[i]) → P (.mk x0 x1 x2 x3 x4)) : ∀ t, P t
  | .mk x0 x1 x2 x3 x4 => h x0 x1 x2 x3 x4 (TExpr.inds h x4)
theorem TExpr.inds {P : TExpr → Prop} (h : ∀ x0 x1 x2 x3 x4, (∀ (i : Nat) (hi : i < x4.length), P x4[i]) → P (.mk x0 x1 x2 x3 x4)) : ∀ (l : List TExpr) (i : Nat) (hi : i < l.length), P l[i]
  | [], i, hi => absurd hi (by simp)
  | x :: r, 0, _ => TExpr.ind h x
  | x :: r, i + 1, hi => TExpr.inds h r i (by simpa using hi)
end
theorem TExpr.D_mk {x0 : Int} {x1 : ByteArray} {x2 : Int} {x3 : Int} {x4 : List TExpr} : (TExpr.mk x0 x1 x2 x3 x4).D = [.int x0, .str x1, .int x2, .int x3, .row 5 (x4.map TExpr.D)] := by
  simp only [TExpr.D, TExpr.Ds_eq]
theorem TExpr.D_len : ∀ t : TExpr, t.D.length = 5
  | .mk x0 x1 x2 x3 x4 => by rw [TExpr.D_mk]; rfl
theorem TExpr.vals {w : World} {S : Nat → Prop} {x0 : Int} {x1 : ByteArray} {x2 : Int} {x3 : Int} {x4 : List TExpr} {vs : List Value} (h : Dat.HoldVals w S (TExpr.mk x0 x1 x2 x3 x4).D vs) : ∃ Ax4 cx4, vs = [.int .i64 x0, .string x1, .int .i64 x2, .int .i64 x3, .slice Ax4 x4.length cx4] ∧ InI x0 ∧ x1.size ≤ maxLen ∧ InI x2 ∧ InI x3 ∧ Row w S 5 Ax4 cx4 (x4.map TExpr.D) := by
  rw [TExpr.D_mk] at h
  match vs, h with
  | [u0, u1, u2, u3, u4], h =>
    obtain ⟨h0, h1, h2, h3, h4, -⟩ := h
    obtain ⟨rfl, g0⟩ := Dat.holds_int.1 h0
    obtain ⟨rfl, g1⟩ := Dat.holds_str.1 h1
    obtain ⟨rfl, g2⟩ := Dat.holds_int.1 h2
    obtain ⟨rfl, g3⟩ := Dat.holds_int.1 h3
    obtain ⟨Ax4, cx4, rfl, g4⟩ := Dat.holds_row.1 h4
    exact ⟨Ax4, cx4, by simp only [List.length_map], g0, g1, g2, g3, g4⟩
theorem TExpr.vals_mk {w : World} {S : Nat → Prop} {x0 : Int} {x1 : ByteArray} {x2 : Int} {x3 : Int} {x4 : List TExpr} {Ax4 : Option Addr} {cx4 : Nat} (h0 : InI x0) (h1 : x1.size ≤ maxLen) (h2 : InI x2) (h3 : InI x3) (h4 : Row w S 5 Ax4 cx4 (x4.map TExpr.D)) : Dat.HoldVals w S (TExpr.mk x0 x1 x2 x3 x4).D [.int .i64 x0, .string x1, .int .i64 x2, .int .i64 x3, .slice Ax4 x4.length cx4] := by
  rw [TExpr.D_mk]
  exact ⟨Dat.holds_int.2 ⟨rfl, h0⟩, Dat.holds_str.2 ⟨rfl, h1⟩, Dat.holds_int.2 ⟨rfl, h2⟩, Dat.holds_int.2 ⟨rfl, h3⟩, Dat.holds_row.2 ⟨_, _, by simp only [List.length_map], h4⟩, trivial⟩
theorem TExpr.at {w : World} {S : Nat → Prop} {A : Option Addr} {c : Nat} {l : List TExpr} (h : Row w S 5 A c (l.map TExpr.D)) (i : Nat) (hi : i < l.length) :
    ∃ b o x0 x1 x2 x3 x4 Ax4 cx4, A = some ⟨b, o, none⟩ ∧ S b ∧ b < w.heap.size ∧ l[i] = .mk x0 x1 x2 x3 x4 ∧ Dat.HoldVals w S l[i].D [.int .i64 x0, .string x1, .int .i64 x2, .int .i64 x3, .slice Ax4 x4.length cx4] ∧ InI x0 ∧ x1.size ≤ maxLen ∧ InI x2 ∧ InI x3 ∧ Row w S 5 Ax4 cx4 (x4.map TExpr.D) ∧ w.cell? ⟨b, o + i * 5, none⟩ = some (.int .i64 x0) ∧ w.cell? ⟨b, o + i * 5 + 1, none⟩ = some (.string x1) ∧ w.cell? ⟨b, o + i * 5 + 2, none⟩ = some (.int .i64 x2) ∧ w.cell? ⟨b, o + i * 5 + 3, none⟩ = some (.int .i64 x3) ∧ w.cell? ⟨b, o + i * 5 + 4, none⟩ = some (.slice Ax4 x4.length cx4) := by
  obtain ⟨b, o, vs, hA, hS, hb, hv, hl, hc⟩ := Row.at h i (by simpa using hi)
  rw [List.getElem_map] at hv
  obtain ⟨x0, x1, x2, x3, x4, hx⟩ : ∃ x0 x1 x2 x3 x4, l[i] = .mk x0 x1 x2 x3 x4 := by cases l[i]; exact ⟨_, _, _, _, _, rfl⟩
  have hv2 := hv
  rw [hx] at hv2
  obtain ⟨Ax4, cx4, rfl, g0, g1, g2, g3, g4⟩ := TExpr.vals hv2
  exact ⟨b, o, _, _, _, _, _, _, _, hA, hS, hb, hx, hv, g0, g1, g2, g3, g4, by simpa using hc 0 (by decide), by simpa using hc 1 (by decide), by simpa using hc 2 (by decide), by simpa using hc 3 (by decide), by simpa using hc 4 (by decide)⟩

inductive TProcedure where
  | mk (Name : ByteArray) (Params : List ByteArray) (Locals : List ByteArray) (BodyKind : Int) (BodyText : ByteArray) (BodyNumber : Int) (BodyLine : Int) (BodyKids : List TExpr) (Line : Int)
def TProcedure.D : TProcedure → List Dat
  | .mk x0 x1 x2 x3 x4 x5 x6 x7 x8 => [.str x0, .row 1 (x1.map fun x => [.str x]), .row 1 (x2.map fun x => [.str x]), .int x3, .str x4, .int x5, .int x6, .row 5 (x7.map TExpr.D), .int x8]
theorem TProcedure.D_mk {x0 : ByteArray} {x1 : List ByteArray} {x2 : List ByteArray} {x3 : Int} {x4 : ByteArray} {x5 : Int} {x6 : Int} {x7 : List TExpr} {x8 : Int} : (TProcedure.mk x0 x1 x2 x3 x4 x5 x6 x7 x8).D = [.str x0, .row 1 (x1.map fun x => [.str x]), .row 1 (x2.map fun x => [.str x]), .int x3, .str x4, .int x5, .int x6, .row 5 (x7.map TExpr.D), .int x8] := by
  simp only [TProcedure.D]
theorem TProcedure.D_len : ∀ t : TProcedure, t.D.length = 9
  | .mk x0 x1 x2 x3 x4 x5 x6 x7 x8 => by rw [TProcedure.D_mk]; rfl
set_option maxHeartbeats 4000000 in
theorem TProcedure.vals {w : World} {S : Nat → Prop} {x0 : ByteArray} {x1 : List ByteArray} {x2 : List ByteArray} {x3 : Int} {x4 : ByteArray} {x5 : Int} {x6 : Int} {x7 : List TExpr} {x8 : Int} {vs : List Value} (h : Dat.HoldVals w S (TProcedure.mk x0 x1 x2 x3 x4 x5 x6 x7 x8).D vs) : ∃ Ax1 cx1 Ax2 cx2 Ax7 cx7, vs = [.string x0, .slice Ax1 x1.length cx1, .slice Ax2 x2.length cx2, .int .i64 x3, .string x4, .int .i64 x5, .int .i64 x6, .slice Ax7 x7.length cx7, .int .i64 x8] ∧ x0.size ≤ maxLen ∧ Row w S 1 Ax1 cx1 (x1.map fun x => [.str x]) ∧ Row w S 1 Ax2 cx2 (x2.map fun x => [.str x]) ∧ InI x3 ∧ x4.size ≤ maxLen ∧ InI x5 ∧ InI x6 ∧ Row w S 5 Ax7 cx7 (x7.map TExpr.D) ∧ InI x8 := by
  rw [TProcedure.D_mk] at h
  have hl := h.length
  obtain ⟨u0, u1, u2, u3, u4, u5, u6, u7, u8, rfl⟩ := lst9 (hl.trans rfl)
  clear hl
  simp only [Dat.HoldVals] at h
  · obtain ⟨h0, h1, h2, h3, h4, h5, h6, h7, h8, -⟩ := h
    obtain ⟨rfl, g0⟩ := Dat.holds_str.1 h0
    obtain ⟨Ax1, cx1, rfl, g1⟩ := Dat.holds_row.1 h1
    obtain ⟨Ax2, cx2, rfl, g2⟩ := Dat.holds_row.1 h2
    obtain ⟨rfl, g3⟩ := Dat.holds_int.1 h3
    obtain ⟨rfl, g4⟩ := Dat.holds_str.1 h4
    obtain ⟨rfl, g5⟩ := Dat.holds_int.1 h5
    obtain ⟨rfl, g6⟩ := Dat.holds_int.1 h6
    obtain ⟨Ax7, cx7, rfl, g7⟩ := Dat.holds_row.1 h7
    obtain ⟨rfl, g8⟩ := Dat.holds_int.1 h8
    exact ⟨Ax1, cx1, Ax2, cx2, Ax7, cx7, by simp only [List.length_map], g0, g1, g2, g3, g4, g5, g6, g7, g8⟩
theorem TProcedure.vals_mk {w : World} {S : Nat → Prop} {x0 : ByteArray} {x1 : List ByteArray} {x2 : List ByteArray} {x3 : Int} {x4 : ByteArray} {x5 : Int} {x6 : Int} {x7 : List TExpr} {x8 : Int} {Ax1 : Option Addr} {cx1 : Nat} {Ax2 : Option Addr} {cx2 : Nat} {Ax7 : Option Addr} {cx7 : Nat} (h0 : x0.size ≤ maxLen) (h1 : Row w S 1 Ax1 cx1 (x1.map fun x => [.str x])) (h2 : Row w S 1 Ax2 cx2 (x2.map fun x => [.str x])) (h3 : InI x3) (h4 : x4.size ≤ maxLen) (h5 : InI x5) (h6 : InI x6) (h7 : Row w S 5 Ax7 cx7 (x7.map TExpr.D)) (h8 : InI x8) : Dat.HoldVals w S (TProcedure.mk x0 x1 x2 x3 x4 x5 x6 x7 x8).D [.string x0, .slice Ax1 x1.length cx1, .slice Ax2 x2.length cx2, .int .i64 x3, .string x4, .int .i64 x5, .int .i64 x6, .slice Ax7 x7.length cx7, .int .i64 x8] := by
  rw [TProcedure.D_mk]
  exact ⟨Dat.holds_str.2 ⟨rfl, h0⟩, Dat.holds_row.2 ⟨_, _, by simp only [List.length_map], h1⟩, Dat.holds_row.2 ⟨_, _, by simp only [List.length_map], h2⟩, Dat.holds_int.2 ⟨rfl, h3⟩, Dat.holds_str.2 ⟨rfl, h4⟩, Dat.holds_int.2 ⟨rfl, h5⟩, Dat.holds_int.2 ⟨rfl, h6⟩, Dat.holds_row.2 ⟨_, _, by simp only [List.length_map], h7⟩, Dat.holds_int.2 ⟨rfl, h8⟩, trivial⟩
set_option maxHeartbeats 4000000 in
theorem TProcedure.at {w : World} {S : Nat → Prop} {A : Option Addr} {c : Nat} {l : List TProcedure} (h : Row w S 9 A c (l.map TProcedure.D)) (i : Nat) (hi : i < l.length) :
    ∃ b o x0 x1 x2 x3 x4 x5 x6 x7 x8 Ax1 cx1 Ax2 cx2 Ax7 cx7, A = some ⟨b, o, none⟩ ∧ S b ∧ b < w.heap.size ∧ l[i] = .mk x0 x1 x2 x3 x4 x5 x6 x7 x8 ∧ Dat.HoldVals w S l[i].D [.string x0, .slice Ax1 x1.length cx1, .slice Ax2 x2.length cx2, .int .i64 x3, .string x4, .int .i64 x5, .int .i64 x6, .slice Ax7 x7.length cx7, .int .i64 x8] ∧ x0.size ≤ maxLen ∧ Row w S 1 Ax1 cx1 (x1.map fun x => [.str x]) ∧ Row w S 1 Ax2 cx2 (x2.map fun x => [.str x]) ∧ InI x3 ∧ x4.size ≤ maxLen ∧ InI x5 ∧ InI x6 ∧ Row w S 5 Ax7 cx7 (x7.map TExpr.D) ∧ InI x8 ∧ w.cell? ⟨b, o + i * 9, none⟩ = some (.string x0) ∧ w.cell? ⟨b, o + i * 9 + 1, none⟩ = some (.slice Ax1 x1.length cx1) ∧ w.cell? ⟨b, o + i * 9 + 2, none⟩ = some (.slice Ax2 x2.length cx2) ∧ w.cell? ⟨b, o + i * 9 + 3, none⟩ = some (.int .i64 x3) ∧ w.cell? ⟨b, o + i * 9 + 4, none⟩ = some (.string x4) ∧ w.cell? ⟨b, o + i * 9 + 5, none⟩ = some (.int .i64 x5) ∧ w.cell? ⟨b, o + i * 9 + 6, none⟩ = some (.int .i64 x6) ∧ w.cell? ⟨b, o + i * 9 + 7, none⟩ = some (.slice Ax7 x7.length cx7) ∧ w.cell? ⟨b, o + i * 9 + 8, none⟩ = some (.int .i64 x8) := by
  obtain ⟨b, o, vs, hA, hS, hb, hv, hl, hc⟩ := Row.at h i (by simpa using hi)
  rw [List.getElem_map] at hv
  obtain ⟨x0, x1, x2, x3, x4, x5, x6, x7, x8, hx⟩ : ∃ x0 x1 x2 x3 x4 x5 x6 x7 x8, l[i] = .mk x0 x1 x2 x3 x4 x5 x6 x7 x8 := by cases l[i]; exact ⟨_, _, _, _, _, _, _, _, _, rfl⟩
  have hv2 := hv
  rw [hx] at hv2
  obtain ⟨Ax1, cx1, Ax2, cx2, Ax7, cx7, rfl, g0, g1, g2, g3, g4, g5, g6, g7, g8⟩ := TProcedure.vals hv2
  exact ⟨b, o, _, _, _, _, _, _, _, _, _, _, _, _, _, _, _, hA, hS, hb, hx, hv, g0, g1, g2, g3, g4, g5, g6, g7, g8, by simpa using hc 0 (by decide), by simpa using hc 1 (by decide), by simpa using hc 2 (by decide), by simpa using hc 3 (by decide), by simpa using hc 4 (by decide), by simpa using hc 5 (by decide), by simpa using hc 6 (by decide), by simpa using hc 7 (by decide), by simpa using hc 8 (by decide)⟩

inductive TUnit where
  | mk (Records : List TRecordType) (Globals : List ByteArray) (Procedures : List TProcedure)
def TUnit.D : TUnit → List Dat
  | .mk x0 x1 x2 => [.row 3 (x0.map TRecordType.D), .row 1 (x1.map fun x => [.str x]), .row 9 (x2.map TProcedure.D)]
theorem TUnit.D_mk {x0 : List TRecordType} {x1 : List ByteArray} {x2 : List TProcedure} : (TUnit.mk x0 x1 x2).D = [.row 3 (x0.map TRecordType.D), .row 1 (x1.map fun x => [.str x]), .row 9 (x2.map TProcedure.D)] := by
  simp only [TUnit.D]
theorem TUnit.D_len : ∀ t : TUnit, t.D.length = 3
  | .mk x0 x1 x2 => by rw [TUnit.D_mk]; rfl
theorem TUnit.vals {w : World} {S : Nat → Prop} {x0 : List TRecordType} {x1 : List ByteArray} {x2 : List TProcedure} {vs : List Value} (h : Dat.HoldVals w S (TUnit.mk x0 x1 x2).D vs) : ∃ Ax0 cx0 Ax1 cx1 Ax2 cx2, vs = [.slice Ax0 x0.length cx0, .slice Ax1 x1.length cx1, .slice Ax2 x2.length cx2] ∧ Row w S 3 Ax0 cx0 (x0.map TRecordType.D) ∧ Row w S 1 Ax1 cx1 (x1.map fun x => [.str x]) ∧ Row w S 9 Ax2 cx2 (x2.map TProcedure.D) := by
  rw [TUnit.D_mk] at h
  match vs, h with
  | [u0, u1, u2], h =>
    obtain ⟨h0, h1, h2, -⟩ := h
    obtain ⟨Ax0, cx0, rfl, g0⟩ := Dat.holds_row.1 h0
    obtain ⟨Ax1, cx1, rfl, g1⟩ := Dat.holds_row.1 h1
    obtain ⟨Ax2, cx2, rfl, g2⟩ := Dat.holds_row.1 h2
    exact ⟨Ax0, cx0, Ax1, cx1, Ax2, cx2, by simp only [List.length_map], g0, g1, g2⟩
theorem TUnit.vals_mk {w : World} {S : Nat → Prop} {x0 : List TRecordType} {x1 : List ByteArray} {x2 : List TProcedure} {Ax0 : Option Addr} {cx0 : Nat} {Ax1 : Option Addr} {cx1 : Nat} {Ax2 : Option Addr} {cx2 : Nat} (h0 : Row w S 3 Ax0 cx0 (x0.map TRecordType.D)) (h1 : Row w S 1 Ax1 cx1 (x1.map fun x => [.str x])) (h2 : Row w S 9 Ax2 cx2 (x2.map TProcedure.D)) : Dat.HoldVals w S (TUnit.mk x0 x1 x2).D [.slice Ax0 x0.length cx0, .slice Ax1 x1.length cx1, .slice Ax2 x2.length cx2] := by
  rw [TUnit.D_mk]
  exact ⟨Dat.holds_row.2 ⟨_, _, by simp only [List.length_map], h0⟩, Dat.holds_row.2 ⟨_, _, by simp only [List.length_map], h1⟩, Dat.holds_row.2 ⟨_, _, by simp only [List.length_map], h2⟩, trivial⟩
theorem TUnit.at {w : World} {S : Nat → Prop} {A : Option Addr} {c : Nat} {l : List TUnit} (h : Row w S 3 A c (l.map TUnit.D)) (i : Nat) (hi : i < l.length) :
    ∃ b o x0 x1 x2 Ax0 cx0 Ax1 cx1 Ax2 cx2, A = some ⟨b, o, none⟩ ∧ S b ∧ b < w.heap.size ∧ l[i] = .mk x0 x1 x2 ∧ Dat.HoldVals w S l[i].D [.slice Ax0 x0.length cx0, .slice Ax1 x1.length cx1, .slice Ax2 x2.length cx2] ∧ Row w S 3 Ax0 cx0 (x0.map TRecordType.D) ∧ Row w S 1 Ax1 cx1 (x1.map fun x => [.str x]) ∧ Row w S 9 Ax2 cx2 (x2.map TProcedure.D) ∧ w.cell? ⟨b, o + i * 3, none⟩ = some (.slice Ax0 x0.length cx0) ∧ w.cell? ⟨b, o + i * 3 + 1, none⟩ = some (.slice Ax1 x1.length cx1) ∧ w.cell? ⟨b, o + i * 3 + 2, none⟩ = some (.slice Ax2 x2.length cx2) := by
  obtain ⟨b, o, vs, hA, hS, hb, hv, hl, hc⟩ := Row.at h i (by simpa using hi)
  rw [List.getElem_map] at hv
  obtain ⟨x0, x1, x2, hx⟩ : ∃ x0 x1 x2, l[i] = .mk x0 x1 x2 := by cases l[i]; exact ⟨_, _, _, rfl⟩
  have hv2 := hv
  rw [hx] at hv2
  obtain ⟨Ax0, cx0, Ax1, cx1, Ax2, cx2, rfl, g0, g1, g2⟩ := TUnit.vals hv2
  exact ⟨b, o, _, _, _, _, _, _, _, _, _, hA, hS, hb, hx, hv, g0, g1, g2, by simpa using hc 0 (by decide), by simpa using hc 1 (by decide), by simpa using hc 2 (by decide)⟩

theorem trodTExpr {H : Type} {enc : TypeId × Value → H} {w : World} {spare : Nat → Bool} {held : Bool} : ∀ (fuel : Nat) (cs : List Value) (x : DataW H × List MemPlace), DataW.trod enc Tryd.prog w 0 spare held fuel 75 cs = some x → ∃ t : TExpr, Dat.HoldVals w (fun _ => True) t.D cs := by
  intro fuel
  induction fuel using Nat.strongRecOn with
  | ind fuel ih =>
  intro cs x h
  obtain ⟨xs, n, rfl, hx, hl, hlen, hg⟩ := DataW.trod_struct Tryd.underlying75 h
  obtain ⟨c0, c1, c2, c3, c4, rfl⟩ := lst5 (hl.trans (by kernel_rfl))
  obtain ⟨y0, y1, y2, y3, y4, rfl⟩ := lst5 (hlen.trans (by kernel_rfl))
  have g0 := hg 0 _ rfl
  have g1 := hg 1 _ rfl
  have g2 := hg 2 _ rfl
  have g3 := hg 3 _ rfl
  have g4 := hg 4 _ rfl
  obtain ⟨a0, e0, _, w0⟩ := DataW.trod_int (cs := [c0]) Tryd.underlying3 g0
  simp only [List.cons.injEq, and_true] at e0
  subst e0
  obtain ⟨a1, e1, _, w1⟩ := DataW.trod_string (cs := [c1]) Tryd.underlying9 g1
  simp only [List.cons.injEq, and_true] at e1
  subst e1
  obtain ⟨a2, e2, _, w2⟩ := DataW.trod_int (cs := [c2]) Tryd.underlying3 g2
  simp only [List.cons.injEq, and_true] at e2
  subst e2
  obtain ⟨a3, e3, _, w3⟩ := DataW.trod_int (cs := [c3]) Tryd.underlying3 g3
  simp only [List.cons.injEq, and_true] at e3
  subst e3
  obtain ⟨a4, A4, q4, e4, hR4⟩ := open_row TExpr.D (cs := [c4]) (k := 5) Tryd.underlying73 (by kernel_rfl) (by decide) TExpr.D_len (fun m hm cs x h => ih m (by omega) cs x h) g4
  simp only [List.cons.injEq, and_true] at e4
  subst e4
  exact ⟨.mk a0 a1 a2 a3 a4, TExpr.vals_mk (inI_of_wf w0) w1 (inI_of_wf w2) (inI_of_wf w3) hR4⟩
theorem openTExpr {H : Type} {enc : TypeId × Value → H} {w : World} {spare : Nat → Bool} {held : Bool} {r : Reach} {b0 : Nat} {v : Value} {d : DataW H} {p : List MemPlace} (hv : Value.okWide Tryd.prog w r b0 75 v) (h : DataW.Trod enc Tryd.prog w 0 spare held 75 v d p) :
    ∃ (t : TExpr) (vs : List Value), v = .agg vs.toArray ∧ Dat.HoldVals w (fun _ => True) t.D vs := by
  obtain ⟨cs, rfl, hsz⟩ := okWide_struct Tryd.underlying75 hv
  obtain ⟨fuel, hf⟩ := h
  obtain ⟨t, h1⟩ := trodTExpr fuel _ _ hf
  exact ⟨t, cs.toList, rfl, h1⟩
set_option maxHeartbeats 4000000 in
theorem trodTProcedure {H : Type} {enc : TypeId × Value → H} {w : World} {spare : Nat → Bool} {held : Bool} : ∀ (fuel : Nat) (cs : List Value) (x : DataW H × List MemPlace), DataW.trod enc Tryd.prog w 0 spare held fuel 77 cs = some x → ∃ t : TProcedure, Dat.HoldVals w (fun _ => True) t.D cs := by
  intro fuel
  induction fuel using Nat.strongRecOn with
  | ind fuel ih =>
  intro cs x h
  obtain ⟨xs, n, rfl, hx, hl, hlen, hg⟩ := DataW.trod_struct Tryd.underlying77 h
  obtain ⟨c0, c1, c2, c3, c4, c5, c6, c7, c8, rfl⟩ := lst9 (hl.trans (by kernel_rfl))
  obtain ⟨y0, y1, y2, y3, y4, rfl⟩ := lst5 (hlen.trans (by kernel_rfl))
  have g0 := hg 0 _ rfl
  have g1 := hg 1 _ rfl
  have g2 := hg 2 _ rfl
  have g3 := hg 3 _ rfl
  have g4 := hg 4 _ rfl
  obtain ⟨a0, e0, _, w0⟩ := DataW.trod_string (cs := [c0]) Tryd.underlying9 g0
  simp only [List.cons.injEq, and_true] at e0
  subst e0
  obtain ⟨a1, A1, q1, e1, hR1⟩ := open_row (fun x => [Dat.str x]) (cs := [c1]) (k := 1) Tryd.underlying23 (by kernel_rfl) (by decide) (fun _ => rfl) (fun m hm cs x h => by obtain ⟨a, e, _, w⟩ := DataW.trod_string Tryd.underlying9 h; exact ⟨a, by rw [e]; exact ⟨Dat.holds_str.2 ⟨rfl, w⟩, trivial⟩⟩) g1
  simp only [List.cons.injEq, and_true] at e1
  subst e1
  obtain ⟨a2, A2, q2, e2, hR2⟩ := open_row (fun x => [Dat.str x]) (cs := [c2]) (k := 1) Tryd.underlying23 (by kernel_rfl) (by decide) (fun _ => rfl) (fun m hm cs x h => by obtain ⟨a, e, _, w⟩ := DataW.trod_string Tryd.underlying9 h; exact ⟨a, by rw [e]; exact ⟨Dat.holds_str.2 ⟨rfl, w⟩, trivial⟩⟩) g2
  simp only [List.cons.injEq, and_true] at e2
  subst e2
  obtain ⟨t3, h3⟩ := trodTExpr n [c3, c4, c5, c6, c7] _ g3
  obtain ⟨a3_0, a3_1, a3_2, a3_3, a3_4⟩ := t3
  obtain ⟨A3_4, q3_4, e3, b3_0, b3_1, b3_2, b3_3, b3_4⟩ := TExpr.vals h3
  simp only [List.cons.injEq, and_true] at e3
  obtain ⟨rfl, rfl, rfl, rfl, rfl⟩ := e3
  obtain ⟨a4, e4, _, w4⟩ := DataW.trod_int (cs := [c8]) Tryd.underlying3 g4
  simp only [List.cons.injEq, and_true] at e4
  subst e4
  exact ⟨.mk a0 a1 a2 a3_0 a3_1 a3_2 a3_3 a3_4 a4, TProcedure.vals_mk w0 hR1 hR2 b3_0 b3_1 b3_2 b3_3 b3_4 (inI_of_wf w4)⟩
theorem openTProcedure {H : Type} {enc : TypeId × Value → H} {w : World} {spare : Nat → Bool} {held : Bool} {r : Reach} {b0 : Nat} {v : Value} {d : DataW H} {p : List MemPlace} (hv : Value.okWide Tryd.prog w r b0 77 v) (h : DataW.Trod enc Tryd.prog w 0 spare held 77 v d p) :
    ∃ (t : TProcedure) (vs : List Value), v = .agg vs.toArray ∧ Dat.HoldVals w (fun _ => True) t.D vs := by
  obtain ⟨cs, rfl, hsz⟩ := okWide_struct Tryd.underlying77 hv
  obtain ⟨fuel, hf⟩ := h
  obtain ⟨t, h1⟩ := trodTProcedure fuel _ _ hf
  exact ⟨t, cs.toList, rfl, h1⟩
theorem trodTUnit {H : Type} {enc : TypeId × Value → H} {w : World} {spare : Nat → Bool} {held : Bool} : ∀ (fuel : Nat) (cs : List Value) (x : DataW H × List MemPlace), DataW.trod enc Tryd.prog w 0 spare held fuel 26 cs = some x → ∃ t : TUnit, Dat.HoldVals w (fun _ => True) t.D cs := by
  intro fuel
  induction fuel using Nat.strongRecOn with
  | ind fuel ih =>
  intro cs x h
  obtain ⟨xs, n, rfl, hx, hl, hlen, hg⟩ := DataW.trod_struct Tryd.underlying26 h
  obtain ⟨c0, c1, c2, rfl⟩ := lst3 (hl.trans (by kernel_rfl))
  obtain ⟨y0, y1, y2, rfl⟩ := lst3 (hlen.trans (by kernel_rfl))
  have g0 := hg 0 _ rfl
  have g1 := hg 1 _ rfl
  have g2 := hg 2 _ rfl
  obtain ⟨a0, A0, q0, e0, hR0⟩ := open_row TRecordType.D (cs := [c0]) (k := 3) Tryd.underlying22 (by kernel_rfl) (by decide) TRecordType.D_len (fun m _ cs x h => trodTRecordType m cs x h) g0
  simp only [List.cons.injEq, and_true] at e0
  subst e0
  obtain ⟨a1, A1, q1, e1, hR1⟩ := open_row (fun x => [Dat.str x]) (cs := [c1]) (k := 1) Tryd.underlying23 (by kernel_rfl) (by decide) (fun _ => rfl) (fun m hm cs x h => by obtain ⟨a, e, _, w⟩ := DataW.trod_string Tryd.underlying9 h; exact ⟨a, by rw [e]; exact ⟨Dat.holds_str.2 ⟨rfl, w⟩, trivial⟩⟩) g1
  simp only [List.cons.injEq, and_true] at e1
  subst e1
  obtain ⟨a2, A2, q2, e2, hR2⟩ := open_row TProcedure.D (cs := [c2]) (k := 9) Tryd.underlying24 (by kernel_rfl) (by decide) TProcedure.D_len (fun m _ cs x h => trodTProcedure m cs x h) g2
  simp only [List.cons.injEq, and_true] at e2
  subst e2
  exact ⟨.mk a0 a1 a2, TUnit.vals_mk hR0 hR1 hR2⟩
theorem openTUnit {H : Type} {enc : TypeId × Value → H} {w : World} {spare : Nat → Bool} {held : Bool} {r : Reach} {b0 : Nat} {v : Value} {d : DataW H} {p : List MemPlace} (hv : Value.okWide Tryd.prog w r b0 26 v) (h : DataW.Trod enc Tryd.prog w 0 spare held 26 v d p) :
    ∃ (t : TUnit) (vs : List Value), v = .agg vs.toArray ∧ Dat.HoldVals w (fun _ => True) t.D vs := by
  obtain ⟨cs, rfl, hsz⟩ := okWide_struct Tryd.underlying26 hv
  obtain ⟨fuel, hf⟩ := h
  obtain ⟨t, h1⟩ := trodTUnit fuel _ _ hf
  exact ⟨t, cs.toList, rfl, h1⟩
theorem openSExpr {H : Type} {enc : TypeId × Value → H} {w : World} {spare : Nat → Bool} {held : Bool} {r : Reach} {b0 : Nat} {v : Value} {d : DataW H} {p : List MemPlace} (hv : Value.okWide Tryd.prog w r b0 73 v) (h : DataW.Trod enc Tryd.prog w 0 spare held 73 v d p) :
    ∃ (l : List TExpr) (A : Option Addr) (c : Nat), v = .slice A l.length c ∧ Row w (fun _ => True) 5 A c (l.map TExpr.D) := by
  obtain ⟨A, m, c, rfl⟩ := okWide_slice Tryd.underlying73 hv
  obtain ⟨fuel, hf⟩ := h
  obtain ⟨l, A2, c2, e, hR⟩ := open_row TExpr.D (k := 5) Tryd.underlying73 (by kernel_rfl) (by decide) TExpr.D_len (fun m _ cs x h => trodTExpr m cs x h) hf
  simp only [Value.cells, List.cons.injEq, and_true] at e
  exact ⟨l, A2, c2, e, hR⟩
theorem openSProcedure {H : Type} {enc : TypeId × Value → H} {w : World} {spare : Nat → Bool} {held : Bool} {r : Reach} {b0 : Nat} {v : Value} {d : DataW H} {p : List MemPlace} (hv : Value.okWide Tryd.prog w r b0 24 v) (h : DataW.Trod enc Tryd.prog w 0 spare held 24 v d p) :
    ∃ (l : List TProcedure) (A : Option Addr) (c : Nat), v = .slice A l.length c ∧ Row w (fun _ => True) 9 A c (l.map TProcedure.D) := by
  obtain ⟨A, m, c, rfl⟩ := okWide_slice Tryd.underlying24 hv
  obtain ⟨fuel, hf⟩ := h
  obtain ⟨l, A2, c2, e, hR⟩ := open_row TProcedure.D (k := 9) Tryd.underlying24 (by kernel_rfl) (by decide) TProcedure.D_len (fun m _ cs x h => trodTProcedure m cs x h) hf
  simp only [Value.cells, List.cons.injEq, and_true] at e
  exact ⟨l, A2, c2, e, hR⟩
end Go.Proofs.YtjodcciloflgbaaDoor
