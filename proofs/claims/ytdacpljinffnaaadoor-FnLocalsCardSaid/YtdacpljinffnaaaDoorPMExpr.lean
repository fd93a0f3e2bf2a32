/- Own data of Expr: copies, marks. -/
import Derived.Test.YtdacpljinffnaaaDoorPHExpr
import Derived.Test.YtdacpljinffnaaaDoorPOw
import Derived.Deep.RegionHeld3
namespace Go.Proofs.YtdacpljinffnaaaDoor
set_option linter.unusedVariables false
set_option linter.unusedSimpArgs false
set_option maxRecDepth 100000
open Go.RowKit
theorem TExpr.vals_own {w : World} {L : List Nat} {x0 : Int} {x1 : ByteArray} {x2 : Int} {x3 : Int} {x4 : List TExpr} {vs : List Value} (h : Dat.OwnVals w L (TExpr.mk x0 x1 x2 x3 x4).D vs) : ∃ A4 c4 L4, L = L4 ∧ vs = [.int .i64 x0, .string x1, .int .i64 x2, .int .i64 x3, .slice A4 x4.length c4] ∧ InI x0 ∧ x1.size ≤ maxLen ∧ InI x2 ∧ InI x3 ∧ OwnRow w L4 5 A4 c4 (x4.map TExpr.D) := by
 rw [TExpr.D_mk] at h
 have hl := h.length
 match vs, hl, h with
 | [u0, u1, u2, u3, u4], _, h =>
 simp only [Dat.OwnVals] at h
 obtain ⟨M0, N0, e0, h0, M1, N1, e1, h1, M2, N2, e2, h2, M3, N3, e3, h3, M4, N4, e4, h4, en⟩ := h
 subst en
 subst e4
 subst e3
 subst e2
 subst e1
 subst e0
 obtain ⟨rfl, rfl, g0⟩ := Dat.own_int.1 h0
 obtain ⟨rfl, rfl, g1⟩ := Dat.own_str.1 h1
 obtain ⟨rfl, rfl, g2⟩ := Dat.own_int.1 h2
 obtain ⟨rfl, rfl, g3⟩ := Dat.own_int.1 h3
 obtain ⟨A4, c4, rfl, g4⟩ := Dat.own_row.1 h4
 exact ⟨A4, c4, M4, by simp only [List.nil_append, List.append_nil], by simp only [List.length_map], g0, g1, g2, g3, g4⟩
theorem TExpr.own_mk {w : World} {x0 : Int} {x1 : ByteArray} {x2 : Int} {x3 : Int} {x4 : List TExpr} {A4 : Option Addr} {c4 : Nat} {L4 : List Nat} (h0 : InI x0) (h1 : x1.size ≤ maxLen) (h2 : InI x2) (h3 : InI x3) (h4 : OwnRow w L4 5 A4 c4 (x4.map TExpr.D)) : Dat.OwnVals w (L4) (TExpr.mk x0 x1 x2 x3 x4).D [.int .i64 x0, .string x1, .int .i64 x2, .int .i64 x3, .slice A4 x4.length c4] := by
 rw [TExpr.D_mk]
 exact ⟨[], _, (List.nil_append _).symm, Dat.own_int.2 ⟨rfl, rfl, h0⟩, ⟨[], _, (List.nil_append _).symm, Dat.own_str.2 ⟨rfl, rfl, h1⟩, ⟨[], _, (List.nil_append _).symm, Dat.own_int.2 ⟨rfl, rfl, h2⟩, ⟨[], _, (List.nil_append _).symm, Dat.own_int.2 ⟨rfl, rfl, h3⟩, ⟨L4, _, (List.append_nil _).symm, Dat.own_row.2 ⟨_, _, by simp only [List.length_map], h4⟩, rfl⟩⟩⟩⟩⟩
def TExpr.kids : TExpr → List TExpr | .mk x0 x1 x2 x3 x4 => x4
end Go.Proofs.YtdacpljinffnaaaDoor
namespace Go.Proofs.YtdacpljinffnaaaDoor
set_option linter.unusedVariables false
set_option linter.unusedSimpArgs false
set_option maxRecDepth 100000
open Go.RowKit
set_option maxHeartbeats 4000000 in
theorem TProcedure.vals_own {w : World} {L : List Nat} {x0 : ByteArray} {x1 : List ByteArray} {x2 : List ByteArray} {x3 : Int} {x4 : ByteArray} {x5 : Int} {x6 : Int} {x7 : List TExpr} {x8 : Int} {vs : List Value} (h : Dat.OwnVals w L (TProcedure.mk x0 x1 x2 x3 x4 x5 x6 x7 x8).D vs) : ∃ A1 c1 L1 A2 c2 L2 A7 c7 L7, L = L1 ++ (L2 ++ L7) ∧ vs = [.string x0, .slice A1 x1.length c1, .slice A2 x2.length c2, .int .i64 x3, .string x4, .int .i64 x5, .int .i64 x6, .slice A7 x7.length c7, .int .i64 x8] ∧ x0.size ≤ maxLen ∧ OwnRow w L1 1 A1 c1 (x1.map (fun x => [Dat.str x])) ∧ OwnRow w L2 1 A2 c2 (x2.map (fun x => [Dat.str x])) ∧ InI x3 ∧ x4.size ≤ maxLen ∧ InI x5 ∧ InI x6 ∧ OwnRow w L7 5 A7 c7 (x7.map TExpr.D) ∧ InI x8 := by
 rw [TProcedure.D_mk] at h
 have hl := h.length
 obtain ⟨u0, u1, u2, u3, u4, u5, u6, u7, u8, rfl⟩ := lst9 (hl.trans rfl)
 clear hl
 simp only [Dat.OwnVals] at h
 obtain ⟨M0, N0, e0, h0, M1, N1, e1, h1, M2, N2, e2, h2, M3, N3, e3, h3, M4, N4, e4, h4, M5, N5, e5, h5, M6, N6, e6, h6, M7, N7, e7, h7, M8, N8, e8, h8, en⟩ := h
 subst en
 subst e8
 subst e7
 subst e6
 subst e5
 subst e4
 subst e3
 subst e2
 subst e1
 subst e0
 obtain ⟨rfl, rfl, g0⟩ := Dat.own_str.1 h0
 obtain ⟨A1, c1, rfl, g1⟩ := Dat.own_row.1 h1
 obtain ⟨A2, c2, rfl, g2⟩ := Dat.own_row.1 h2
 obtain ⟨rfl, rfl, g3⟩ := Dat.own_int.1 h3
 obtain ⟨rfl, rfl, g4⟩ := Dat.own_str.1 h4
 obtain ⟨rfl, rfl, g5⟩ := Dat.own_int.1 h5
 obtain ⟨rfl, rfl, g6⟩ := Dat.own_int.1 h6
 obtain ⟨A7, c7, rfl, g7⟩ := Dat.own_row.1 h7
 obtain ⟨rfl, rfl, g8⟩ := Dat.own_int.1 h8
 exact ⟨A1, c1, M1, A2, c2, M2, A7, c7, M7, by simp only [List.nil_append, List.append_nil], by simp only [List.length_map], g0, g1, g2, g3, g4, g5, g6, g7, g8⟩
theorem TProcedure.own_mk {w : World} {x0 : ByteArray} {x1 : List ByteArray} {x2 : List ByteArray} {x3 : Int} {x4 : ByteArray} {x5 : Int} {x6 : Int} {x7 : List TExpr} {x8 : Int} {A1 : Option Addr} {c1 : Nat} {L1 : List Nat} {A2 : Option Addr} {c2 : Nat} {L2 : List Nat} {A7 : Option Addr} {c7 : Nat} {L7 : List Nat} (h0 : x0.size ≤ maxLen) (h1 : OwnRow w L1 1 A1 c1 (x1.map (fun x => [Dat.str x]))) (h2 : OwnRow w L2 1 A2 c2 (x2.map (fun x => [Dat.str x]))) (h3 : InI x3) (h4 : x4.size ≤ maxLen) (h5 : InI x5) (h6 : InI x6) (h7 : OwnRow w L7 5 A7 c7 (x7.map TExpr.D)) (h8 : InI x8) : Dat.OwnVals w (L1 ++ (L2 ++ L7)) (TProcedure.mk x0 x1 x2 x3 x4 x5 x6 x7 x8).D [.string x0, .slice A1 x1.length c1, .slice A2 x2.length c2, .int .i64 x3, .string x4, .int .i64 x5, .int .i64 x6, .slice A7 x7.length c7, .int .i64 x8] := by
 rw [TProcedure.D_mk]
 exact ⟨[], _, (List.nil_append _).symm, Dat.own_str.2 ⟨rfl, rfl, h0⟩, ⟨L1, _, rfl, Dat.own_row.2 ⟨_, _, by simp only [List.length_map], h1⟩, ⟨L2, _, rfl, Dat.own_row.2 ⟨_, _, by simp only [List.length_map], h2⟩, ⟨[], _, (List.nil_append _).symm, Dat.own_int.2 ⟨rfl, rfl, h3⟩, ⟨[], _, (List.nil_append _).symm, Dat.own_str.2 ⟨rfl, rfl, h4⟩, ⟨[], _, (List.nil_append _).symm, Dat.own_int.2 ⟨rfl, rfl, h5⟩, ⟨[], _, (List.nil_append _).symm, Dat.own_int.2 ⟨rfl, rfl, h6⟩, ⟨L7, _, (List.append_nil _).symm, Dat.own_row.2 ⟨_, _, by simp only [List.length_map], h7⟩, ⟨[], _, (List.nil_append _).symm, Dat.own_int.2 ⟨rfl, rfl, h8⟩, rfl⟩⟩⟩⟩⟩⟩⟩⟩⟩
end Go.Proofs.YtdacpljinffnaaaDoor
namespace Go.Proofs.YtdacpljinffnaaaDoor
set_option linter.unusedVariables false
set_option linter.unusedSimpArgs false
set_option maxRecDepth 100000
open Go.RowKit
theorem TRecordType.vals_own {w : World} {L : List Nat} {x0 : ByteArray} {x1 : List ByteArray} {x2 : Int} {vs : List Value} (h : Dat.OwnVals w L (TRecordType.mk x0 x1 x2).D vs) : ∃ A1 c1 L1, L = L1 ∧ vs = [.string x0, .slice A1 x1.length c1, .int .i64 x2] ∧ x0.size ≤ maxLen ∧ OwnRow w L1 1 A1 c1 (x1.map (fun x => [Dat.str x])) ∧ InI x2 := by
 rw [TRecordType.D_mk] at h
 have hl := h.length
 match vs, hl, h with
 | [u0, u1, u2], _, h =>
 simp only [Dat.OwnVals] at h
 obtain ⟨M0, N0, e0, h0, M1, N1, e1, h1, M2, N2, e2, h2, en⟩ := h
 subst en
 subst e2
 subst e1
 subst e0
 obtain ⟨rfl, rfl, g0⟩ := Dat.own_str.1 h0
 obtain ⟨A1, c1, rfl, g1⟩ := Dat.own_row.1 h1
 obtain ⟨rfl, rfl, g2⟩ := Dat.own_int.1 h2
 exact ⟨A1, c1, M1, by simp only [List.nil_append, List.append_nil], by simp only [List.length_map], g0, g1, g2⟩
theorem TRecordType.own_mk {w : World} {x0 : ByteArray} {x1 : List ByteArray} {x2 : Int} {A1 : Option Addr} {c1 : Nat} {L1 : List Nat} (h0 : x0.size ≤ maxLen) (h1 : OwnRow w L1 1 A1 c1 (x1.map (fun x => [Dat.str x]))) (h2 : InI x2) : Dat.OwnVals w (L1) (TRecordType.mk x0 x1 x2).D [.string x0, .slice A1 x1.length c1, .int .i64 x2] := by
 rw [TRecordType.D_mk]
 exact ⟨[], _, (List.nil_append _).symm, Dat.own_str.2 ⟨rfl, rfl, h0⟩, ⟨L1, _, (List.append_nil _).symm, Dat.own_row.2 ⟨_, _, by simp only [List.length_map], h1⟩, ⟨[], _, (List.nil_append _).symm, Dat.own_int.2 ⟨rfl, rfl, h2⟩, rfl⟩⟩⟩
end Go.Proofs.YtdacpljinffnaaaDoor
namespace Go.Proofs.YtdacpljinffnaaaDoor
set_option linter.unusedVariables false
set_option linter.unusedSimpArgs false
set_option maxRecDepth 100000
open Go.RowKit
theorem TUnit.vals_own {w : World} {L : List Nat} {x0 : List TRecordType} {x1 : List ByteArray} {x2 : List TProcedure} {vs : List Value} (h : Dat.OwnVals w L (TUnit.mk x0 x1 x2).D vs) : ∃ A0 c0 L0 A1 c1 L1 A2 c2 L2, L = L0 ++ (L1 ++ L2) ∧ vs = [.slice A0 x0.length c0, .slice A1 x1.length c1, .slice A2 x2.length c2] ∧ OwnRow w L0 3 A0 c0 (x0.map TRecordType.D) ∧ OwnRow w L1 1 A1 c1 (x1.map (fun x => [Dat.str x])) ∧ OwnRow w L2 9 A2 c2 (x2.map TProcedure.D) := by
 rw [TUnit.D_mk] at h
 have hl := h.length
 match vs, hl, h with
 | [u0, u1, u2], _, h =>
 simp only [Dat.OwnVals] at h
 obtain ⟨M0, N0, e0, h0, M1, N1, e1, h1, M2, N2, e2, h2, en⟩ := h
 subst en
 subst e2
 subst e1
 subst e0
 obtain ⟨A0, c0, rfl, g0⟩ := Dat.own_row.1 h0
 obtain ⟨A1, c1, rfl, g1⟩ := Dat.own_row.1 h1
 obtain ⟨A2, c2, rfl, g2⟩ := Dat.own_row.1 h2
 exact ⟨A0, c0, M0, A1, c1, M1, A2, c2, M2, by simp only [List.nil_append, List.append_nil], by simp only [List.length_map], g0, g1, g2⟩
theorem TUnit.own_mk {w : World} {x0 : List TRecordType} {x1 : List ByteArray} {x2 : List TProcedure} {A0 : Option Addr} {c0 : Nat} {L0 : List Nat} {A1 : Option Addr} {c1 : Nat} {L1 : List Nat} {A2 : Option Addr} {c2 : Nat} {L2 : List Nat} (h0 : OwnRow w L0 3 A0 c0 (x0.map TRecordType.D)) (h1 : OwnRow w L1 1 A1 c1 (x1.map (fun x => [Dat.str x]))) (h2 : OwnRow w L2 9 A2 c2 (x2.map TProcedure.D)) : Dat.OwnVals w (L0 ++ (L1 ++ L2)) (TUnit.mk x0 x1 x2).D [.slice A0 x0.length c0, .slice A1 x1.length c1, .slice A2 x2.length c2] := by
 rw [TUnit.D_mk]
 exact ⟨L0, _, rfl, Dat.own_row.2 ⟨_, _, by simp only [List.length_map], h0⟩, ⟨L1, _, rfl, Dat.own_row.2 ⟨_, _, by simp only [List.length_map], h1⟩, ⟨L2, _, (List.append_nil _).symm, Dat.own_row.2 ⟨_, _, by simp only [List.length_map], h2⟩, rfl⟩⟩⟩
end Go.Proofs.YtdacpljinffnaaaDoor
