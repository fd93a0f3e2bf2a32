/- The laws' helpers of Capture: what is left behind a datum, copies, comparison. -/
import Derived.Test.YtdjbfneniohaaaaPD
import Derived.Test.YtdjbfneniohaaaaPOw
namespace Go.Proofs.Ytdjbfneniohaaaa
set_option linter.unusedVariables false
set_option linter.unusedSimpArgs false
set_option maxRecDepth 100000
open Go.RowKit
theorem TCapture.vals_own {w : World} {L : List Nat} {x0 : Int} {x1 : Int} {x2 : Int} {vs : List Value} (h : Dat.OwnVals w L (TCapture.mk x0 x1 x2).D vs) : L = [] ∧ vs = [.int .i64 x0, .int .i64 x1, .int .i64 x2] ∧ InI x0 ∧ InI x1 ∧ InI x2 := by
 rw [TCapture.D_mk] at h
 have hl := h.length
 match vs, hl, h with
 | [u0, u1, u2], _, h =>
 simp only [Dat.OwnVals] at h
 obtain ⟨M0, N0, e0, h0, M1, N1, e1, h1, M2, N2, e2, h2, en⟩ := h
 subst en
 subst e2
 subst e1
 subst e0
 obtain ⟨rfl, rfl, g0⟩ := Dat.own_int.1 h0
 obtain ⟨rfl, rfl, g1⟩ := Dat.own_int.1 h1
 obtain ⟨rfl, rfl, g2⟩ := Dat.own_int.1 h2
 exact ⟨by simp only [List.nil_append, List.append_nil], by simp only [List.length_map], g0, g1, g2⟩
theorem TCapture.own_mk {w : World} {x0 : Int} {x1 : Int} {x2 : Int} (h0 : InI x0) (h1 : InI x1) (h2 : InI x2) : Dat.OwnVals w ([]) (TCapture.mk x0 x1 x2).D [.int .i64 x0, .int .i64 x1, .int .i64 x2] := by
 rw [TCapture.D_mk]
 exact ⟨[], _, (List.nil_append _).symm, Dat.own_int.2 ⟨rfl, rfl, h0⟩, ⟨[], _, (List.nil_append _).symm, Dat.own_int.2 ⟨rfl, rfl, h1⟩, ⟨[], _, (List.nil_append _).symm, Dat.own_int.2 ⟨rfl, rfl, h2⟩, rfl⟩⟩⟩
end Go.Proofs.Ytdjbfneniohaaaa
namespace Go.Proofs.Ytdjbfneniohaaaa
set_option linter.unusedVariables false
set_option linter.unusedSimpArgs false
set_option maxRecDepth 100000
open Go.RowKit
theorem TEnding.vals_own {w : World} {L : List Nat} {x0 : Int} {x1 : List TCapture} {vs : List Value} (h : Dat.OwnVals w L (TEnding.mk x0 x1).D vs) : ∃ A1 c1 L1, L = L1 ∧ vs = [.int .i64 x0, .slice A1 x1.length c1] ∧ InI x0 ∧ OwnRow w L1 3 A1 c1 (x1.map TCapture.D) := by
 rw [TEnding.D_mk] at h
 have hl := h.length
 match vs, hl, h with
 | [u0, u1], _, h =>
 simp only [Dat.OwnVals] at h
 obtain ⟨M0, N0, e0, h0, M1, N1, e1, h1, en⟩ := h
 subst en
 subst e1
 subst e0
 obtain ⟨rfl, rfl, g0⟩ := Dat.own_int.1 h0
 obtain ⟨A1, c1, rfl, g1⟩ := Dat.own_row.1 h1
 exact ⟨A1, c1, M1, by simp only [List.nil_append, List.append_nil], by simp only [List.length_map], g0, g1⟩
theorem TEnding.own_mk {w : World} {x0 : Int} {x1 : List TCapture} {A1 : Option Addr} {c1 : Nat} {L1 : List Nat} (h0 : InI x0) (h1 : OwnRow w L1 3 A1 c1 (x1.map TCapture.D)) : Dat.OwnVals w (L1) (TEnding.mk x0 x1).D [.int .i64 x0, .slice A1 x1.length c1] := by
 rw [TEnding.D_mk]
 exact ⟨[], _, (List.nil_append _).symm, Dat.own_int.2 ⟨rfl, rfl, h0⟩, ⟨L1, _, (List.append_nil _).symm, Dat.own_row.2 ⟨_, _, by simp only [List.length_map], h1⟩, rfl⟩⟩
end Go.Proofs.Ytdjbfneniohaaaa
