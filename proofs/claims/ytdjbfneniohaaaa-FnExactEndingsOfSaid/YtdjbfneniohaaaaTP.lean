/- The data of the program's types: what a row of cells holds of each; what is read off an argument. -/
import Derived.Test.YtdjbfneniohaaaaD
namespace Go.Proofs.Ytdjbfneniohaaaa
set_option linter.unusedVariables false
set_option linter.unusedSimpArgs false
set_option maxRecDepth 100000
open Go.ChangeShapes Go.WideShapes Go.RowKit Go.Deep

theorem lst1 {α : Type} {l : List α} (h : l.length = 1) : ∃ a0, l = [a0] := by
  match l, h with
  | [a0], _ => exact ⟨a0, rfl⟩
theorem lst2 {α : Type} {l : List α} (h : l.length = 2) : ∃ a0 a1, l = [a0, a1] := by
  match l, h with
  | [a0, a1], _ => exact ⟨a0, a1, rfl⟩
theorem lst3 {α : Type} {l : List α} (h : l.length = 3) : ∃ a0 a1 a2, l = [a0, a1, a2] := by
  match l, h with
  | [a0, a1, a2], _ => exact ⟨a0, a1, a2, rfl⟩
theorem lst4 {α : Type} {l : List α} (h : l.length = 4) : ∃ a0 a1 a2 a3, l = [a0, a1, a2, a3] := by
  match l, h with
  | [a0, a1, a2, a3], _ => exact ⟨a0, a1, a2, a3, rfl⟩
theorem lst5 {α : Type} {l : List α} (h : l.length = 5) : ∃ a0 a1 a2 a3 a4, l = [a0, a1, a2, a3, a4] := by
  match l, h with
  | [a0, a1, a2, a3, a4], _ => exact ⟨a0, a1, a2, a3, a4, rfl⟩
theorem lst6 {α : Type} {l : List α} (h : l.length = 6) : ∃ a0 a1 a2 a3 a4 a5, l = [a0, a1, a2, a3, a4, a5] := by
  match l, h with
  | [a0, a1, a2, a3, a4, a5], _ => exact ⟨a0, a1, a2, a3, a4, a5, rfl⟩
theorem lst7 {α : Type} {l : List α} (h : l.length = 7) : ∃ a0 a1 a2 a3 a4 a5 a6, l = [a0, a1, a2, a3, a4, a5, a6] := by
  match l, h with
  | [a0, a1, a2, a3, a4, a5, a6], _ => exact ⟨a0, a1, a2, a3, a4, a5, a6, rfl⟩
theorem lst8 {α : Type} {l : List α} (h : l.length = 8) : ∃ a0 a1 a2 a3 a4 a5 a6 a7, l = [a0, a1, a2, a3, a4, a5, a6, a7] := by
  match l, h with
  | [a0, a1, a2, a3, a4, a5, a6, a7], _ => exact ⟨a0, a1, a2, a3, a4, a5, a6, a7, rfl⟩
theorem lst9 {α : Type} {l : List α} (h : l.length = 9) : ∃ a0 a1 a2 a3 a4 a5 a6 a7 a8, l = [a0, a1, a2, a3, a4, a5, a6, a7, a8] := by
  match l, h with
  | [a0, a1, a2, a3, a4, a5, a6, a7, a8], _ => exact ⟨a0, a1, a2, a3, a4, a5, a6, a7, a8, rfl⟩
theorem lst10 {α : Type} {l : List α} (h : l.length = 10) : ∃ a0 a1 a2 a3 a4 a5 a6 a7 a8 a9, l = [a0, a1, a2, a3, a4, a5, a6, a7, a8, a9] := by
  match l, h with
  | [a0, a1, a2, a3, a4, a5, a6, a7, a8, a9], _ => exact ⟨a0, a1, a2, a3, a4, a5, a6, a7, a8, a9, rfl⟩
theorem lst11 {α : Type} {l : List α} (h : l.length = 11) : ∃ a0 a1 a2 a3 a4 a5 a6 a7 a8 a9 a10, l = [a0, a1, a2, a3, a4, a5, a6, a7, a8, a9, a10] := by
  match l, h with
  | [a0, a1, a2, a3, a4, a5, a6, a7, a8, a9, a10], _ => exact ⟨a0, a1, a2, a3, a4, a5, a6, a7, a8, a9, a10, rfl⟩
theorem lst12 {α : Type} {l : List α} (h : l.length = 12) : ∃ a0 a1 a2 a3 a4 a5 a6 a7 a8 a9 a10 a11, l = [a0, a1, a2, a3, a4, a5, a6, a7, a8, a9, a10, a11] := by
  match l, h with
  | [a0, a1, a2, a3, a4, a5, a6, a7, a8, a9, a10, a11], _ => exact ⟨a0, a1, a2, a3, a4, a5, a6, a7, a8, a9, a10, a11, rfl⟩
theorem lst13 {α : Type} {l : List α} (h : l.length = 13) : ∃ a0 a1 a2 a3 a4 a5 a6 a7 a8 a9 a10 a11 a12, l = [a0, a1, a2, a3, a4, a5, a6, a7, a8, a9, a10, a11, a12] := by
  match l, h with
  | [a0, a1, a2, a3, a4, a5, a6, a7, a8, a9, a10, a11, a12], _ => exact ⟨a0, a1, a2, a3, a4, a5, a6, a7, a8, a9, a10, a11, a12, rfl⟩
theorem lst14 {α : Type} {l : List α} (h : l.length = 14) : ∃ a0 a1 a2 a3 a4 a5 a6 a7 a8 a9 a10 a11 a12 a13, l = [a0, a1, a2, a3, a4, a5, a6, a7, a8, a9, a10, a11, a12, a13] := by
  match l, h with
  | [a0, a1, a2, a3, a4, a5, a6, a7, a8, a9, a10, a11, a12, a13], _ => exact ⟨a0, a1, a2, a3, a4, a5, a6, a7, a8, a9, a10, a11, a12, a13, rfl⟩
inductive TCset where
  | mk (Low : Int) (High : Int)
def TCset.D : TCset → List Dat
  | .mk x0 x1 => [.int x0, .int x1]
theorem TCset.D_mk {x0 : Int} {x1 : Int} : (TCset.mk x0 x1).D = [.int x0, .int x1] := by
  simp only [TCset.D]
theorem TCset.D_len : ∀ t : TCset, t.D.length = 2
  | .mk x0 x1 => by rw [TCset.D_mk]; rfl
theorem TCset.vals {w : World} {S : Nat → Prop} {x0 : Int} {x1 : Int} {vs : List Value} (h : Dat.HoldVals w S (TCset.mk x0 x1).D vs) : vs = [.int .i64 x0, .int .i64 x1] ∧ InI x0 ∧ InI x1 := by
  rw [TCset.D_mk] at h
  match vs, h with
  | [u0, u1], h =>
    obtain ⟨h0, h1, -⟩ := h
    obtain ⟨rfl, g0⟩ := Dat.holds_int.1 h0
    obtain ⟨rfl, g1⟩ := Dat.holds_int.1 h1
    exact ⟨rfl, g0, g1⟩
theorem TCset.vals_mk {w : World} {S : Nat → Prop} {x0 : Int} {x1 : Int} (h0 : InI x0) (h1 : InI x1) : Dat.HoldVals w S (TCset.mk x0 x1).D [.int .i64 x0, .int .i64 x1] := by
  rw [TCset.D_mk]
  exact ⟨Dat.holds_int.2 ⟨rfl, h0⟩, Dat.holds_int.2 ⟨rfl, h1⟩, trivial⟩
theorem TCset.at {w : World} {S : Nat → Prop} {A : Option Addr} {c : Nat} {l : List TCset} (h : Row w S 2 A c (l.map TCset.D)) (i : Nat) (hi : i < l.length) :
    ∃ b o x0 x1 , A = some ⟨b, o, none⟩ ∧ S b ∧ b < w.heap.size ∧ l[i] = .mk x0 x1 ∧ Dat.HoldVals w S l[i].D [.int .i64 x0, .int .i64 x1] ∧ InI x0 ∧ InI x1 ∧ w.cell? ⟨b, o + i * 2, none⟩ = some (.int .i64 x0) ∧ w.cell? ⟨b, o + i * 2 + 1, none⟩ = some (.int .i64 x1) := by
  obtain ⟨b, o, vs, hA, hS, hb, hv, hl, hc⟩ := Row.at h i (by simpa using hi)
  rw [List.getElem_map] at hv
  obtain ⟨x0, x1, hx⟩ : ∃ x0 x1, l[i] = .mk x0 x1 := by cases l[i]; exact ⟨_, _, rfl⟩
  have hv2 := hv
  rw [hx] at hv2
  obtain ⟨rfl, g0, g1⟩ := TCset.vals hv2
  exact ⟨b, o, _, _, hA, hS, hb, hx, hv, g0, g1, by simpa using hc 0 (by decide), by simpa using hc 1 (by decide)⟩

inductive TPattern where
  | mk (Op : Int) (Text : ByteArray) (Number : Int) (SetLow : Int) (SetHigh : Int) (Kids : List TPattern)
mutual
def TPattern.D : TPattern → List Dat
  | .mk x0 x1 x2 x3 x4 x5 => [.int x0, .str x1, .int x2, .int x3, .int x4, .row 6 (TPattern.Ds x5)]
def TPattern.Ds : List TPattern → List (List Dat)
  | [] => []
  | x :: r => TPattern.D x :: TPattern.Ds r
end
theorem TPattern.Ds_eq : ∀ l, TPattern.Ds l = l.map TPattern.D
  | [] => by simp [TPattern.Ds]
  | x :: r => by simp [TPattern.Ds, TPattern.Ds_eq r]
mutual
theorem TPattern.ind {P : TPattern → Prop} (h : ∀ x0 x1 x2 x3 x4 x5, (∀ (i : Nat) (hi : i < x5.length), P x5[i]) → P (.mk x0 x1 x2 x3 x4 x5)) : ∀ t, P t
  | .mk x0 x1 x2 x3 x4 x5 => h x0 x1 x2 x3 x4 x5 (TPattern.inds h x5)
theorem TPattern.inds {P : TPattern → Prop} (h : ∀ x0 x1 x2 x3 x4 x5, (∀ (i : Nat) (hi : i < x5.length), P x5[i]) → P (.mk x0 x1 x2 x3 x4 x5)) : ∀ (l : List TPattern) (i : Nat) (hi : i < l.length), P l[i]
  | [], i, hi => absurd hi (by simp)
  | x :: r, 0, _ => TPattern.ind h x
  | x :: r, i + 1, hi => TPattern.inds h r i (by simpa using hi)
end
theorem TPattern.D_mk {x0 : Int} {x1 : ByteArray} {x2 : Int} {x3 : Int} {x4 : Int} {x5 : List TPattern} : (TPattern.mk x0 x1 x2 x3 x4 x5).D = [.int x0, .str x1, .int x2, .int x3, .int x4, .row 6 (x5.map TPattern.D)] := by
  simp only [TPattern.D, TPattern.Ds_eq]
theorem TPattern.D_len : ∀ t : TPattern, t.D.length = 6
  | .mk x0 x1 x2 x3 x4 x5 => by rw [TPattern.D_mk]; rfl
theorem TPattern.vals {w : World} {S : Nat → Prop} {x0 : Int} {x1 : ByteArray} {x2 : Int} {x3 : Int} {x4 : Int} {x5 : List TPattern} {vs : List Value} (h : Dat.HoldVals w S (TPattern.mk x0 x1 x2 x3 x4 x5).D vs) : ∃ Ax5 cx5, vs = [.int .i64 x0, .string x1, .int .i64 x2, .int .i64 x3, .int .i64 x4, .slice Ax5 x5.length cx5] ∧ InI x0 ∧ x1.size ≤ maxLen ∧ InI x2 ∧ InI x3 ∧ InI x4 ∧ Row w S 6 Ax5 cx5 (x5.map TPattern.D) := by
  rw [TPattern.D_mk] at h
  match vs, h with
  | [u0, u1, u2, u3, u4, u5], h =>
    obtain ⟨h0, h1, h2, h3, h4, h5, -⟩ := h
    obtain ⟨rfl, g0⟩ := Dat.holds_int.1 h0
    obtain ⟨rfl, g1⟩ := Dat.holds_str.1 h1
    obtain ⟨rfl, g2⟩ := Dat.holds_int.1 h2
    obtain ⟨rfl, g3⟩ := Dat.holds_int.1 h3
    obtain ⟨rfl, g4⟩ := Dat.holds_int.1 h4
    obtain ⟨Ax5, cx5, rfl, g5⟩ := Dat.holds_row.1 h5
    exact ⟨Ax5, cx5, by simp only [List.length_map], g0, g1, g2, g3, g4, g5⟩
theorem TPattern.vals_mk {w : World} {S : Nat → Prop} {x0 : Int} {x1 : ByteArray} {x2 : Int} {x3 : Int} {x4 : Int} {x5 : List TPattern} {Ax5 : Option Addr} {cx5 : Nat} (h0 : InI x0) (h1 : x1.size ≤ maxLen) (h2 : InI x2) (h3 : InI x3) (h4 : InI x4) (h5 : Row w S 6 Ax5 cx5 (x5.map TPattern.D)) : Dat.HoldVals w S (TPattern.mk x0 x1 x2 x3 x4 x5).D [.int .i64 x0, .string x1, .int .i64 x2, .int .i64 x3, .int .i64 x4, .slice Ax5 x5.length cx5] := by
  rw [TPattern.D_mk]
  exact ⟨Dat.holds_int.2 ⟨rfl, h0⟩, Dat.holds_str.2 ⟨rfl, h1⟩, Dat.holds_int.2 ⟨rfl, h2⟩, Dat.holds_int.2 ⟨rfl, h3⟩, Dat.holds_int.2 ⟨rfl, h4⟩, Dat.holds_row.2 ⟨_, _, by simp only [List.length_map], h5⟩, trivial⟩
theorem TPattern.at {w : World} {S : Nat → Prop} {A : Option Addr} {c : Nat} {l : List TPattern} (h : Row w S 6 A c (l.map TPattern.D)) (i : Nat) (hi : i < l.length) :
    ∃ b o x0 x1 x2 x3 x4 x5 Ax5 cx5, A = some ⟨b, o, none⟩ ∧ S b ∧ b < w.heap.size ∧ l[i] = .mk x0 x1 x2 x3 x4 x5 ∧ Dat.HoldVals w S l[i].D [.int .i64 x0, .string x1, .int .i64 x2, .int .i64 x3, .int .i64 x4, .slice Ax5 x5.length cx5] ∧ InI x0 ∧ x1.size ≤ maxLen ∧ InI x2 ∧ InI x3 ∧ InI x4 ∧ Row w S 6 Ax5 cx5 (x5.map TPattern.D) ∧ w.cell? ⟨b, o + i * 6, none⟩ = some (.int .i64 x0) ∧ w.cell? ⟨b, o + i * 6 + 1, none⟩ = some (.string x1) ∧ w.cell? ⟨b, o + i * 6 + 2, none⟩ = some (.int .i64 x2) ∧ w.cell? ⟨b, o + i * 6 + 3, none⟩ = some (.int .i64 x3) ∧ w.cell? ⟨b, o + i * 6 + 4, none⟩ = some (.int .i64 x4) ∧ w.cell? ⟨b, o + i * 6 + 5, none⟩ = some (.slice Ax5 x5.length cx5) := by
  obtain ⟨b, o, vs, hA, hS, hb, hv, hl, hc⟩ := Row.at h i (by simpa using hi)
  rw [List.getElem_map] at hv
  obtain ⟨x0, x1, x2, x3, x4, x5, hx⟩ : ∃ x0 x1 x2 x3 x4 x5, l[i] = .mk x0 x1 x2 x3 x4 x5 := by cases l[i]; exact ⟨_, _, _, _, _, _, rfl⟩
  have hv2 := hv
  rw [hx] at hv2
  obtain ⟨Ax5, cx5, rfl, g0, g1, g2, g3, g4, g5⟩ := TPattern.vals hv2
  exact ⟨b, o, _, _, _, _, _, _, _, _, hA, hS, hb, hx, hv, g0, g1, g2, g3, g4, g5, by simpa using hc 0 (by decide), by simpa using hc 1 (by decide), by simpa using hc 2 (by decide), by simpa using hc 3 (by decide), by simpa using hc 4 (by decide), by simpa using hc 5 (by decide)⟩

inductive TCore where
  | mk (Kind : Int) (Op : Int) (Number : Int) (Line : Int) (Text : ByteArray) (Kids : List TCore)
mutual
def TCore.D : TCore → List Dat
  | .mk x0 x1 x2 x3 x4 x5 => [.int x0, .int x1, .int x2, .int x3, .str x4, .row 6 (TCore.Ds x5)]
def TCore.Ds : List TCore → List (List Dat)
  | [] => []
  | x :: r => TCore.D x :: TCore.Ds r
end
theorem TCore.Ds_eq : ∀ l, TCore.Ds l = l.map TCore.D
  | [] => by simp [TCore.Ds]
  | x :: r => by simp [TCore.Ds, TCore.Ds_eq r]
mutual
theorem TCore.ind {P : TCore → Prop} (h : ∀ x0 x1 x2 x3 x4 x5, (∀ (i : Nat) (hi : i < x5.length), P x5[i]) → P (.mk x0 x1 x2 x3 x4 x5)) : ∀ t, P t
  | .mk x0 x1 x2 x3 x4 x5 => h x0 x1 x2 x3 x4 x5 (TCore.inds h x5)
theorem TCore.inds {P : TCore → Prop} (h : ∀ x0 x1 x2 x3 x4 x5, (∀ (i : Nat) (hi : i < x5.length), P x5[i]) → P (.mk x0 x1 x2 x3 x4 x5)) : ∀ (l : List TCore) (i : Nat) (hi : i < l.length), P l[i]
  | [], i, hi => absurd hi (by simp)
  | x :: r, 0, _ => TCore.ind h x
  | x :: r, i + 1, hi => TCore.inds h r i (by simpa using hi)
end
theorem TCore.D_mk {x0 : Int} {x1 : Int} {x2 : Int} {x3 : Int} {x4 : ByteArray} {x5 : List TCore} : (TCore.mk x0 x1 x2 x3 x4 x5).D = [.int x0, .int x1, .int x2, .int x3, .str x4, .row 6 (x5.map TCore.D)] := by
  simp only [TCore.D, TCore.Ds_eq]
theorem TCore.D_len : ∀ t : TCore, t.D.length = 6
  | .mk x0 x1 x2 x3 x4 x5 => by rw [TCore.D_mk]; rfl
theorem TCore.vals {w : World} {S : Nat → Prop} {x0 : Int} {x1 : Int} {x2 : Int} {x3 : Int} {x4 : ByteArray} {x5 : List TCore} {vs : List Value} (h : Dat.HoldVals w S (TCore.mk x0 x1 x2 x3 x4 x5).D vs) : ∃ Ax5 cx5, vs = [.int .i64 x0, .int .i64 x1, .int .i64 x2, .int .i64 x3, .string x4, .slice Ax5 x5.length cx5] ∧ InI x0 ∧ InI x1 ∧ InI x2 ∧ InI x3 ∧ x4.size ≤ maxLen ∧ Row w S 6 Ax5 cx5 (x5.map TCore.D) := by
  rw [TCore.D_mk] at h
  match vs, h with
  | [u0, u1, u2, u3, u4, u5], h =>
    obtain ⟨h0, h1, h2, h3, h4, h5, -⟩ := h
    obtain ⟨rfl, g0⟩ := Dat.holds_int.1 h0
    obtain ⟨rfl, g1⟩ := Dat.holds_int.1 h1
    obtain ⟨rfl, g2⟩ := Dat.holds_int.1 h2
    obtain ⟨rfl, g3⟩ := Dat.holds_int.1 h3
    obtain ⟨rfl, g4⟩ := Dat.holds_str.1 h4
    obtain ⟨Ax5, cx5, rfl, g5⟩ := Dat.holds_row.1 h5
    exact ⟨Ax5, cx5, by simp only [List.length_map], g0, g1, g2, g3, g4, g5⟩
theorem TCore.vals_mk {w : World} {S : Nat → Prop} {x0 : Int} {x1 : Int} {x2 : Int} {x3 : Int} {x4 : ByteArray} {x5 : List TCore} {Ax5 : Option Addr} {cx5 : Nat} (h0 : InI x0) (h1 : InI x1) (h2 : InI x2) (h3 : InI x3) (h4 : x4.size ≤ maxLen) (h5 : Row w S 6 Ax5 cx5 (x5.map TCore.D)) : Dat.HoldVals w S (TCore.mk x0 x1 x2 x3 x4 x5).D [.int .i64 x0, .int .i64 x1, .int .i64 x2, .int .i64 x3, .string x4, .slice Ax5 x5.length cx5] := by
  rw [TCore.D_mk]
  exact ⟨Dat.holds_int.2 ⟨rfl, h0⟩, Dat.holds_int.2 ⟨rfl, h1⟩, Dat.holds_int.2 ⟨rfl, h2⟩, Dat.holds_int.2 ⟨rfl, h3⟩, Dat.holds_str.2 ⟨rfl, h4⟩, Dat.holds_row.2 ⟨_, _, by simp only [List.length_map], h5⟩, trivial⟩
theorem TCore.at {w : World} {S : Nat → Prop} {A : Option Addr} {c : Nat} {l : List TCore} (h : Row w S 6 A c (l.map TCore.D)) (i : Nat) (hi : i < l.length) :
    ∃ b o x0 x1 x2 x3 x4 x5 Ax5 cx5, A = some ⟨b, o, none⟩ ∧ S b ∧ b < w.heap.size ∧ l[i] = .mk x0 x1 x2 x3 x4 x5 ∧ Dat.HoldVals w S l[i].D [.int .i64 x0, .int .i64 x1, .int .i64 x2, .int .i64 x3, .string x4, .slice Ax5 x5.length cx5] ∧ InI x0 ∧ InI x1 ∧ InI x2 ∧ InI x3 ∧ x4.size ≤ maxLen ∧ Row w S 6 Ax5 cx5 (x5.map TCore.D) ∧ w.cell? ⟨b, o + i * 6, none⟩ = some (.int .i64 x0) ∧ w.cell? ⟨b, o + i * 6 + 1, none⟩ = some (.int .i64 x1) ∧ w.cell? ⟨b, o + i * 6 + 2, none⟩ = some (.int .i64 x2) ∧ w.cell? ⟨b, o + i * 6 + 3, none⟩ = some (.int .i64 x3) ∧ w.cell? ⟨b, o + i * 6 + 4, none⟩ = some (.string x4) ∧ w.cell? ⟨b, o + i * 6 + 5, none⟩ = some (.slice Ax5 x5.length cx5) := by
  obtain ⟨b, o, vs, hA, hS, hb, hv, hl, hc⟩ := Row.at h i (by simpa using hi)
  rw [List.getElem_map] at hv
  obtain ⟨x0, x1, x2, x3, x4, x5, hx⟩ : ∃ x0 x1 x2 x3 x4 x5, l[i] = .mk x0 x1 x2 x3 x4 x5 := by cases l[i]; exact ⟨_, _, _, _, _, _, rfl⟩
  have hv2 := hv
  rw [hx] at hv2
  obtain ⟨Ax5, cx5, rfl, g0, g1, g2, g3, g4, g5⟩ := TCore.vals hv2
  exact ⟨b, o, _, _, _, _, _, _, _, _, hA, hS, hb, hx, hv, g0, g1, g2, g3, g4, g5, by simpa using hc 0 (by decide), by simpa using hc 1 (by decide), by simpa using hc 2 (by decide), by simpa using hc 3 (by decide), by simpa using hc 4 (by decide), by simpa using hc 5 (by decide)⟩

theorem trodTCset {H : Type} {enc : TypeId × Value → H} {w : World} {spare : Nat → Bool} {held : Bool} : ∀ (fuel : Nat) (cs : List Value) (x : DataW H × List MemPlace), DataW.trod enc Try.prog w 0 spare held fuel 45 cs = some x → ∃ t : TCset, Dat.HoldVals w (fun _ => True) t.D cs := by
  intro fuel
  induction fuel using Nat.strongRecOn with
  | ind fuel ih =>
  intro cs x h
  obtain ⟨xs, n, rfl, hx, hl, hlen, hg⟩ := DataW.trod_struct Try.underlying45 h
  obtain ⟨c0, c1, rfl⟩ := lst2 (hl.trans (by kernel_rfl))
  obtain ⟨y0, y1, rfl⟩ := lst2 (hlen.trans (by kernel_rfl))
  have g0 := hg 0 _ rfl
  have g1 := hg 1 _ rfl
  obtain ⟨a0, e0, _, w0⟩ := DataW.trod_int (cs := [c0]) Try.underlying3 g0
  simp only [List.cons.injEq, and_true] at e0
  subst e0
  obtain ⟨a1, e1, _, w1⟩ := DataW.trod_int (cs := [c1]) Try.underlying3 g1
  simp only [List.cons.injEq, and_true] at e1
  subst e1
  exact ⟨.mk a0 a1, TCset.vals_mk (inI_of_wf w0) (inI_of_wf w1)⟩
theorem openTCset {H : Type} {enc : TypeId × Value → H} {w : World} {spare : Nat → Bool} {held : Bool} {r : Reach} {b0 : Nat} {v : Value} {d : DataW H} {p : List MemPlace} (hv : Value.okWide Try.prog w r b0 45 v) (h : DataW.Trod enc Try.prog w 0 spare held 45 v d p) :
    ∃ (t : TCset) (vs : List Value), v = .agg vs.toArray ∧ Dat.HoldVals w (fun _ => True) t.D vs := by
  obtain ⟨cs, rfl, hsz⟩ := okWide_struct Try.underlying45 hv
  obtain ⟨fuel, hf⟩ := h
  obtain ⟨t, h1⟩ := trodTCset fuel _ _ hf
  exact ⟨t, cs.toList, rfl, h1⟩
theorem trodTPattern {H : Type} {enc : TypeId × Value → H} {w : World} {spare : Nat → Bool} {held : Bool} : ∀ (fuel : Nat) (cs : List Value) (x : DataW H × List MemPlace), DataW.trod enc Try.prog w 0 spare held fuel 47 cs = some x → ∃ t : TPattern, Dat.HoldVals w (fun _ => True) t.D cs := by
  intro fuel
  induction fuel using Nat.strongRecOn with
  | ind fuel ih =>
  intro cs x h
  obtain ⟨xs, n, rfl, hx, hl, hlen, hg⟩ := DataW.trod_struct Try.underlying47 h
  obtain ⟨c0, c1, c2, c3, c4, c5, rfl⟩ := lst6 (hl.trans (by kernel_rfl))
  obtain ⟨y0, y1, y2, y3, y4, rfl⟩ := lst5 (hlen.trans (by kernel_rfl))
  have g0 := hg 0 _ rfl
  have g1 := hg 1 _ rfl
  have g2 := hg 2 _ rfl
  have g3 := hg 3 _ rfl
  have g4 := hg 4 _ rfl
  obtain ⟨a0, e0, _, w0⟩ := DataW.trod_int (cs := [c0]) Try.underlying3 g0
  simp only [List.cons.injEq, and_true] at e0
  subst e0
  obtain ⟨a1, e1, _, w1⟩ := DataW.trod_string (cs := [c1]) Try.underlying9 g1
  simp only [List.cons.injEq, and_true] at e1
  subst e1
  obtain ⟨a2, e2, _, w2⟩ := DataW.trod_int (cs := [c2]) Try.underlying3 g2
  simp only [List.cons.injEq, and_true] at e2
  subst e2
  obtain ⟨t3, h3⟩ := trodTCset n [c3, c4] _ g3
  obtain ⟨a3_0, a3_1⟩ := t3
  obtain ⟨e3, b3_0, b3_1⟩ := TCset.vals h3
  simp only [List.cons.injEq, and_true] at e3
  obtain ⟨rfl, rfl⟩ := e3
  obtain ⟨a4, A4, q4, e4, hR4⟩ := open_row TPattern.D (cs := [c5]) (k := 6) Try.underlying44 (by kernel_rfl) (by decide) TPattern.D_len (fun m hm cs x h => ih m (by omega) cs x h) g4
  simp only [List.cons.injEq, and_true] at e4
  subst e4
  exact ⟨.mk a0 a1 a2 a3_0 a3_1 a4, TPattern.vals_mk (inI_of_wf w0) w1 (inI_of_wf w2) b3_0 b3_1 hR4⟩
theorem openTPattern {H : Type} {enc : TypeId × Value → H} {w : World} {spare : Nat → Bool} {held : Bool} {r : Reach} {b0 : Nat} {v : Value} {d : DataW H} {p : List MemPlace} (hv : Value.okWide Try.prog w r b0 47 v) (h : DataW.Trod enc Try.prog w 0 spare held 47 v d p) :
    ∃ (t : TPattern) (vs : List Value), v = .agg vs.toArray ∧ Dat.HoldVals w (fun _ => True) t.D vs := by
  obtain ⟨cs, rfl, hsz⟩ := okWide_struct Try.underlying47 hv
  obtain ⟨fuel, hf⟩ := h
  obtain ⟨t, h1⟩ := trodTPattern fuel _ _ hf
  exact ⟨t, cs.toList, rfl, h1⟩
end Go.Proofs.Ytdjbfneniohaaaa
