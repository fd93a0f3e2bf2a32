/- The data of further types of the program (Capture, Ending). -/
import Derived.Test.YtdjbfneniohaaaaTP
namespace Go.Proofs.Ytdjbfneniohaaaa
set_option linter.unusedVariables false
set_option linter.unusedSimpArgs false
set_option maxRecDepth 100000
open Go.ChangeShapes Go.WideShapes Go.RowKit Go.Deep

inductive TCapture where
  | mk (Variable : Int) (From : Int) (To : Int)
def TCapture.D : TCapture → List Dat
  | .mk x0 x1 x2 => [.int x0, .int x1, .int x2]
theorem TCapture.D_mk {x0 : Int} {x1 : Int} {x2 : Int} : (TCapture.mk x0 x1 x2).D = [.int x0, .int x1, .int x2] := by
  simp only [TCapture.D]
theorem TCapture.D_len : ∀ t : TCapture, t.D.length = 3
  | .mk x0 x1 x2 => by rw [TCapture.D_mk]; rfl
theorem TCapture.vals {w : World} {S : Nat → Prop} {x0 : Int} {x1 : Int} {x2 : Int} {vs : List Value} (h : Dat.HoldVals w S (TCapture.mk x0 x1 x2).D vs) : vs = [.int .i64 x0, .int .i64 x1, .int .i64 x2] ∧ InI x0 ∧ InI x1 ∧ InI x2 := by
  rw [TCapture.D_mk] at h
  match vs, h with
  | [u0, u1, u2], h =>
    obtain ⟨h0, h1, h2, -⟩ := h
    obtain ⟨rfl, g0⟩ := Dat.holds_int.1 h0
    obtain ⟨rfl, g1⟩ := Dat.holds_int.1 h1
    obtain ⟨rfl, g2⟩ := Dat.holds_int.1 h2
    exact ⟨rfl, g0, g1, g2⟩
theorem TCapture.vals_mk {w : World} {S : Nat → Prop} {x0 : Int} {x1 : Int} {x2 : Int} (h0 : InI x0) (h1 : InI x1) (h2 : InI x2) : Dat.HoldVals w S (TCapture.mk x0 x1 x2).D [.int .i64 x0, .int .i64 x1, .int .i64 x2] := by
  rw [TCapture.D_mk]
  exact ⟨Dat.holds_int.2 ⟨rfl, h0⟩, Dat.holds_int.2 ⟨rfl, h1⟩, Dat.holds_int.2 ⟨rfl, h2⟩, trivial⟩
theorem TCapture.at {w : World} {S : Nat → Prop} {A : Option Addr} {c : Nat} {l : List TCapture} (h : Row w S 3 A c (l.map TCapture.D)) (i : Nat) (hi : i < l.length) :
    ∃ b o x0 x1 x2 , A = some ⟨b, o, none⟩ ∧ S b ∧ b < w.heap.size ∧ l[i] = .mk x0 x1 x2 ∧ Dat.HoldVals w S l[i].D [.int .i64 x0, .int .i64 x1, .int .i64 x2] ∧ InI x0 ∧ InI x1 ∧ InI x2 ∧ w.cell? ⟨b, o + i * 3, none⟩ = some (.int .i64 x0) ∧ w.cell? ⟨b, o + i * 3 + 1, none⟩ = some (.int .i64 x1) ∧ w.cell? ⟨b, o + i * 3 + 2, none⟩ = some (.int .i64 x2) := by
  obtain ⟨b, o, vs, hA, hS, hb, hv, hl, hc⟩ := Row.at h i (by simpa using hi)
  rw [List.getElem_map] at hv
  obtain ⟨x0, x1, x2, hx⟩ : ∃ x0 x1 x2, l[i] = .mk x0 x1 x2 := by cases l[i]; exact ⟨_, _, _, rfl⟩
  have hv2 := hv
  rw [hx] at hv2
  obtain ⟨rfl, g0, g1, g2⟩ := TCapture.vals hv2
  exact ⟨b, o, _, _, _, hA, hS, hb, hx, hv, g0, g1, g2, by simpa using hc 0 (by decide), by simpa using hc 1 (by decide), by simpa using hc 2 (by decide)⟩

inductive TEnding where
  | mk (At : Int) (Captures : List TCapture)
def TEnding.D : TEnding → List Dat
  | .mk x0 x1 => [.int x0, .row 3 (x1.map TCapture.D)]
theorem TEnding.D_mk {x0 : Int} {x1 : List TCapture} : (TEnding.mk x0 x1).D = [.int x0, .row 3 (x1.map TCapture.D)] := by
  simp only [TEnding.D]
theorem TEnding.D_len : ∀ t : TEnding, t.D.length = 2
  | .mk x0 x1 => by rw [TEnding.D_mk]; rfl
theorem TEnding.vals {w : World} {S : Nat → Prop} {x0 : Int} {x1 : List TCapture} {vs : List Value} (h : Dat.HoldVals w S (TEnding.mk x0 x1).D vs) : ∃ Ax1 cx1, vs = [.int .i64 x0, .slice Ax1 x1.length cx1] ∧ InI x0 ∧ Row w S 3 Ax1 cx1 (x1.map TCapture.D) := by
  rw [TEnding.D_mk] at h
  match vs, h with
  | [u0, u1], h =>
    obtain ⟨h0, h1, -⟩ := h
    obtain ⟨rfl, g0⟩ := Dat.holds_int.1 h0
    obtain ⟨Ax1, cx1, rfl, g1⟩ := Dat.holds_row.1 h1
    exact ⟨Ax1, cx1, by simp only [List.length_map], g0, g1⟩
theorem TEnding.vals_mk {w : World} {S : Nat → Prop} {x0 : Int} {x1 : List TCapture} {Ax1 : Option Addr} {cx1 : Nat} (h0 : InI x0) (h1 : Row w S 3 Ax1 cx1 (x1.map TCapture.D)) : Dat.HoldVals w S (TEnding.mk x0 x1).D [.int .i64 x0, .slice Ax1 x1.length cx1] := by
  rw [TEnding.D_mk]
  exact ⟨Dat.holds_int.2 ⟨rfl, h0⟩, Dat.holds_row.2 ⟨_, _, by simp only [List.length_map], h1⟩, trivial⟩
theorem TEnding.at {w : World} {S : Nat → Prop} {A : Option Addr} {c : Nat} {l : List TEnding} (h : Row w S 2 A c (l.map TEnding.D)) (i : Nat) (hi : i < l.length) :
    ∃ b o x0 x1 Ax1 cx1, A = some ⟨b, o, none⟩ ∧ S b ∧ b < w.heap.size ∧ l[i] = .mk x0 x1 ∧ Dat.HoldVals w S l[i].D [.int .i64 x0, .slice Ax1 x1.length cx1] ∧ InI x0 ∧ Row w S 3 Ax1 cx1 (x1.map TCapture.D) ∧ w.cell? ⟨b, o + i * 2, none⟩ = some (.int .i64 x0) ∧ w.cell? ⟨b, o + i * 2 + 1, none⟩ = some (.slice Ax1 x1.length cx1) := by
  obtain ⟨b, o, vs, hA, hS, hb, hv, hl, hc⟩ := Row.at h i (by simpa using hi)
  rw [List.getElem_map] at hv
  obtain ⟨x0, x1, hx⟩ : ∃ x0 x1, l[i] = .mk x0 x1 := by cases l[i]; exact ⟨_, _, rfl⟩
  have hv2 := hv
  rw [hx] at hv2
  obtain ⟨Ax1, cx1, rfl, g0, g1⟩ := TEnding.vals hv2
  exact ⟨b, o, _, _, _, _, hA, hS, hb, hx, hv, g0, g1, by simpa using hc 0 (by decide), by simpa using hc 1 (by decide)⟩

end Go.Proofs.Ytdjbfneniohaaaa
