/- Own data of Pattern: copies, marks. -/
import Derived.Test.YtdjbfneniohaaaaPP1
import Derived.Test.YtdjbfneniohaaaaPOw
namespace Go.Proofs.Ytdjbfneniohaaaa
set_option linter.unusedVariables false
set_option linter.unusedSimpArgs false
set_option maxRecDepth 100000
open Go.RowKit
theorem TPattern.vals_own {w : World} {L : List Nat} {x0 : Int} {x1 : ByteArray} {x2 : Int} {x3 : Int} {x4 : Int} {x5 : List TPattern} {vs : List Value} (h : Dat.OwnVals w L (TPattern.mk x0 x1 x2 x3 x4 x5).D vs) : ∃ A5 c5 L5, L = L5 ∧ vs = [.int .i64 x0, .string x1, .int .i64 x2, .int .i64 x3, .int .i64 x4, .slice A5 x5.length c5] ∧ InI x0 ∧ x1.size ≤ maxLen ∧ InI x2 ∧ InI x3 ∧ InI x4 ∧ OwnRow w L5 6 A5 c5 (x5.map TPattern.D) := by
 rw [TPattern.D_mk] at h
 have hl := h.length
 match vs, hl, h with
 | [u0, u1, u2, u3, u4, u5], _, h =>
 simp only [Dat.OwnVals] at h
 obtain ⟨M0, N0, e0, h0, M1, N1, e1, h1, M2, N2, e2, h2, M3, N3, e3, h3, M4, N4, e4, h4, M5, N5, e5, h5, en⟩ := h
 subst en
 subst e5
 subst e4
 subst e3
 subst e2
 subst e1
 subst e0
 obtain ⟨rfl, rfl, g0⟩ := Dat.own_int.1 h0
 obtain ⟨rfl, rfl, g1⟩ := Dat.own_str.1 h1
 obtain ⟨rfl, rfl, g2⟩ := Dat.own_int.1 h2
 obtain ⟨rfl, rfl, g3⟩ := Dat.own_int.1 h3
 obtain ⟨rfl, rfl, g4⟩ := Dat.own_int.1 h4
 obtain ⟨A5, c5, rfl, g5⟩ := Dat.own_row.1 h5
 exact ⟨A5, c5, M5, by simp only [List.nil_append, List.append_nil], by simp only [List.length_map], g0, g1, g2, g3, g4, g5⟩
theorem TPattern.own_mk {w : World} {x0 : Int} {x1 : ByteArray} {x2 : Int} {x3 : Int} {x4 : Int} {x5 : List TPattern} {A5 : Option Addr} {c5 : Nat} {L5 : List Nat} (h0 : InI x0) (h1 : x1.size ≤ maxLen) (h2 : InI x2) (h3 : InI x3) (h4 : InI x4) (h5 : OwnRow w L5 6 A5 c5 (x5.map TPattern.D)) : Dat.OwnVals w (L5) (TPattern.mk x0 x1 x2 x3 x4 x5).D [.int .i64 x0, .string x1, .int .i64 x2, .int .i64 x3, .int .i64 x4, .slice A5 x5.length c5] := by
 rw [TPattern.D_mk]
 exact ⟨[], _, (List.nil_append _).symm, Dat.own_int.2 ⟨rfl, rfl, h0⟩, ⟨[], _, (List.nil_append _).symm, Dat.own_str.2 ⟨rfl, rfl, h1⟩, ⟨[], _, (List.nil_append _).symm, Dat.own_int.2 ⟨rfl, rfl, h2⟩, ⟨[], _, (List.nil_append _).symm, Dat.own_int.2 ⟨rfl, rfl, h3⟩, ⟨[], _, (List.nil_append _).symm, Dat.own_int.2 ⟨rfl, rfl, h4⟩, ⟨L5, _, (List.append_nil _).symm, Dat.own_row.2 ⟨_, _, by simp only [List.length_map], h5⟩, rfl⟩⟩⟩⟩⟩⟩
def TPattern.kids : TPattern → List TPattern | .mk x0 x1 x2 x3 x4 x5 => x5
end Go.Proofs.Ytdjbfneniohaaaa
