/- The data of further types of the program (Routine, Program). -/
import Derived.Test.YtgahehipgabhpaaDoorTV
namespace Go.Proofs.YtgahehipgabhpaaDoor
set_option linter.unusedVariables false
set_option linter.unusedSimpArgs false
set_option maxRecDepth 100000
open Go.ChangeShapes Go.WideShapes Go.RowKit Go.Deep

inductive TRoutine where
  | mk (Name : ByteArray) (Params : Int) (Slots : List ByteArray) (BodyKind : Int) (BodyOp : Int) (BodyNumber : Int) (BodyLine : Int) (BodyText : ByteArray) (BodyKids : List TCore)
def TRoutine.D : TRoutine → List Dat
  | .mk x0 x1 x2 x3 x4 x5 x6 x7 x8 => [.str x0, .int x1, .row 1 (x2.map fun x => [.str x]), .int x3, .int x4, .int x5, .int x6, .str x7, .row 6 (x8.map TCore.D)]
theorem TRoutine.D_mk {x0 : ByteArray} {x1 : Int} {x2 : List ByteArray} {x3 : Int} {x4 : Int} {x5 : Int} {x6 : Int} {x7 : ByteArray} {x8 : List TCore} : (TRoutine.mk x0 x1 x2 x3 x4 x5 x6 x7 x8).D = [.str x0, .int x1, .row 1 (x2.map fun x => [.str x]), .int x3, .int x4, .int x5, .int x6, .str x7, .row 6 (x8.map TCore.D)] := by
  simp only [TRoutine.D]
theorem TRoutine.D_len : ∀ t : TRoutine, t.D.length = 9
  | .mk x0 x1 x2 x3 x4 x5 x6 x7 x8 => by rw [TRoutine.D_mk]; rfl
set_option maxHeartbeats 4000000 in
theorem TRoutine.vals {w : World} {S : Nat → Prop} {x0 : ByteArray} {x1 : Int} {x2 : List ByteArray} {x3 : Int} {x4 : Int} {x5 : Int} {x6 : Int} {x7 : ByteArray} {x8 : List TCore} {vs : List Value} (h : Dat.HoldVals w S (TRoutine.mk x0 x1 x2 x3 x4 x5 x6 x7 x8).D vs) : ∃ Ax2 cx2 Ax8 cx8, vs = [.string x0, .int .i64 x1, .slice Ax2 x2.length cx2, .int .i64 x3, .int .i64 x4, .int .i64 x5, .int .i64 x6, .string x7, .slice Ax8 x8.length cx8] ∧ x0.size ≤ maxLen ∧ InI x1 ∧ Row w S 1 Ax2 cx2 (x2.map fun x => [.str x]) ∧ InI x3 ∧ InI x4 ∧ InI x5 ∧ InI x6 ∧ x7.size ≤ maxLen ∧ Row w S 6 Ax8 cx8 (x8.map TCore.D) := by
  rw [TRoutine.D_mk] at h
  have hl := h.length
  obtain ⟨u0, u1, u2, u3, u4, u5, u6, u7, u8, rfl⟩ := lst9 (hl.trans rfl)
  clear hl
  simp only [Dat.HoldVals] at h
  · obtain ⟨h0, h1, h2, h3, h4, h5, h6, h7, h8, -⟩ := h
    obtain ⟨rfl, g0⟩ := Dat.holds_str.1 h0
    obtain ⟨rfl, g1⟩ := Dat.holds_int.1 h1
    obtain ⟨Ax2, cx2, rfl, g2⟩ := Dat.holds_row.1 h2
    obtain ⟨rfl, g3⟩ := Dat.holds_int.1 h3
    obtain ⟨rfl, g4⟩ := Dat.holds_int.1 h4
    obtain ⟨rfl, g5⟩ := Dat.holds_int.1 h5
    obtain ⟨rfl, g6⟩ := Dat.holds_int.1 h6
    obtain ⟨rfl, g7⟩ := Dat.holds_str.1 h7
    obtain ⟨Ax8, cx8, rfl, g8⟩ := Dat.holds_row.1 h8
    exact ⟨Ax2, cx2, Ax8, cx8, by simp only [List.length_map], g0, g1, g2, g3, g4, g5, g6, g7, g8⟩
theorem TRoutine.vals_mk {w : World} {S : Nat → Prop} {x0 : ByteArray} {x1 : Int} {x2 : List ByteArray} {x3 : Int} {x4 : Int} {x5 : Int} {x6 : Int} {x7 : ByteArray} {x8 : List TCore} {Ax2 : Option Addr} {cx2 : Nat} {Ax8 : Option Addr} {cx8 : Nat} (h0 : x0.size ≤ maxLen) (h1 : InI x1) (h2 : Row w S 1 Ax2 cx2 (x2.map fun x => [.str x])) (h3 : InI x3) (h4 : InI x4) (h5 : InI x5) (h6 : InI x6) (h7 : x7.size ≤ maxLen) (h8 : Row w S 6 Ax8 cx8 (x8.map TCore.D)) : Dat.HoldVals w S (TRoutine.mk x0 x1 x2 x3 x4 x5 x6 x7 x8).D [.string x0, .int .i64 x1, .slice Ax2 x2.length cx2, .int .i64 x3, .int .i64 x4, .int .i64 x5, .int .i64 x6, .string x7, .slice Ax8 x8.length cx8] := by
  rw [TRoutine.D_mk]
  exact ⟨Dat.holds_str.2 ⟨rfl, h0⟩, Dat.holds_int.2 ⟨rfl, h1⟩, Dat.holds_row.2 ⟨_, _, by simp only [List.length_map], h2⟩, Dat.holds_int.2 ⟨rfl, h3⟩, Dat.holds_int.2 ⟨rfl, h4⟩, Dat.holds_int.2 ⟨rfl, h5⟩, Dat.holds_int.2 ⟨rfl, h6⟩, Dat.holds_str.2 ⟨rfl, h7⟩, Dat.holds_row.2 ⟨_, _, by simp only [List.length_map], h8⟩, trivial⟩
set_option maxHeartbeats 4000000 in
theorem TRoutine.at {w : World} {S : Nat → Prop} {A : Option Addr} {c : Nat} {l : List TRoutine} (h : Row w S 9 A c (l.map TRoutine.D)) (i : Nat) (hi : i < l.length) :
    ∃ b o x0 x1 x2 x3 x4 x5 x6 x7 x8 Ax2 cx2 Ax8 cx8, A = some ⟨b, o, none⟩ ∧ S b ∧ b < w.heap.size ∧ l[i] = .mk x0 x1 x2 x3 x4 x5 x6 x7 x8 ∧ Dat.HoldVals w S l[i].D [.string x0, .int .i64 x1, .slice Ax2 x2.length cx2, .int .i64 x3, .int .i64 x4, .int .i64 x5, .int .i64 x6, .string x7, .slice Ax8 x8.length cx8] ∧ x0.size ≤ maxLen ∧ InI x1 ∧ Row w S 1 Ax2 cx2 (x2.map fun x => [.str x]) ∧ InI x3 ∧ InI x4 ∧ InI x5 ∧ InI x6 ∧ x7.size ≤ maxLen ∧ Row w S 6 Ax8 cx8 (x8.map TCore.D) ∧ w.cell? ⟨b, o + i * 9, none⟩ = some (.string x0) ∧ w.cell? ⟨b, o + i * 9 + 1, none⟩ = some (.int .i64 x1) ∧ w.cell? ⟨b, o + i * 9 + 2, none⟩ = some (.slice Ax2 x2.length cx2) ∧ w.cell? ⟨b, o + i * 9 + 3, none⟩ = some (.int .i64 x3) ∧ w.cell? ⟨b, o + i * 9 + 4, none⟩ = some (.int .i64 x4) ∧ w.cell? ⟨b, o + i * 9 + 5, none⟩ = some (.int .i64 x5) ∧ w.cell? ⟨b, o + i * 9 + 6, none⟩ = some (.int .i64 x6) ∧ w.cell? ⟨b, o + i * 9 + 7, none⟩ = some (.string x7) ∧ w.cell? ⟨b, o + i * 9 + 8, none⟩ = some (.slice Ax8 x8.length cx8) := by
  obtain ⟨b, o, vs, hA, hS, hb, hv, hl, hc⟩ := Row.at h i (by simpa using hi)
  rw [List.getElem_map] at hv
  obtain ⟨x0, x1, x2, x3, x4, x5, x6, x7, x8, hx⟩ : ∃ x0 x1 x2 x3 x4 x5 x6 x7 x8, l[i] = .mk x0 x1 x2 x3 x4 x5 x6 x7 x8 := by cases l[i]; exact ⟨_, _, _, _, _, _, _, _, _, rfl⟩
  have hv2 := hv
  rw [hx] at hv2
  obtain ⟨Ax2, cx2, Ax8, cx8, rfl, g0, g1, g2, g3, g4, g5, g6, g7, g8⟩ := TRoutine.vals hv2
  exact ⟨b, o, _, _, _, _, _, _, _, _, _, _, _, _, _, hA, hS, hb, hx, hv, g0, g1, g2, g3, g4, g5, g6, g7, g8, by simpa using hc 0 (by decide), by simpa using hc 1 (by decide), by simpa using hc 2 (by decide), by simpa using hc 3 (by decide), by simpa using hc 4 (by decide), by simpa using hc 5 (by decide), by simpa using hc 6 (by decide), by simpa using hc 7 (by decide), by simpa using hc 8 (by decide)⟩

inductive TProgram where
  | mk (Routines : List TRoutine) (Records : List TRecordType) (Globals : List ByteArray) (Main : Int)
def TProgram.D : TProgram → List Dat
  | .mk x0 x1 x2 x3 => [.row 9 (x0.map TRoutine.D), .row 3 (x1.map TRecordType.D), .row 1 (x2.map fun x => [.str x]), .int x3]
theorem TProgram.D_mk {x0 : List TRoutine} {x1 : List TRecordType} {x2 : List ByteArray} {x3 : Int} : (TProgram.mk x0 x1 x2 x3).D = [.row 9 (x0.map TRoutine.D), .row 3 (x1.map TRecordType.D), .row 1 (x2.map fun x => [.str x]), .int x3] := by
  simp only [TProgram.D]
theorem TProgram.D_len : ∀ t : TProgram, t.D.length = 4
  | .mk x0 x1 x2 x3 => by rw [TProgram.D_mk]; rfl
theorem TProgram.vals {w : World} {S : Nat → Prop} {x0 : List TRoutine} {x1 : List TRecordType} {x2 : List ByteArray} {x3 : Int} {vs : List Value} (h : Dat.HoldVals w S (TProgram.mk x0 x1 x2 x3).D vs) : ∃ Ax0 cx0 Ax1 cx1 Ax2 cx2, vs = [.slice Ax0 x0.length cx0, .slice Ax1 x1.length cx1, .slice Ax2 x2.length cx2, .int .i64 x3] ∧ Row w S 9 Ax0 cx0 (x0.map TRoutine.D) ∧ Row w S 3 Ax1 cx1 (x1.map TRecordType.D) ∧ Row w S 1 Ax2 cx2 (x2.map fun x => [.str x]) ∧ InI x3 := by
  rw [TProgram.D_mk] at h
  match vs, h with
  | [u0, u1, u2, u3], h =>
    obtain ⟨h0, h1, h2, h3, -⟩ := h
    obtain ⟨Ax0, cx0, rfl, g0⟩ := Dat.holds_row.1 h0
    obtain ⟨Ax1, cx1, rfl, g1⟩ := Dat.holds_row.1 h1
    obtain ⟨Ax2, cx2, rfl, g2⟩ := Dat.holds_row.1 h2
    obtain ⟨rfl, g3⟩ := Dat.holds_int.1 h3
    exact ⟨Ax0, cx0, Ax1, cx1, Ax2, cx2, by simp only [List.length_map], g0, g1, g2, g3⟩
theorem TProgram.vals_mk {w : World} {S : Nat → Prop} {x0 : List TRoutine} {x1 : List TRecordType} {x2 : List ByteArray} {x3 : Int} {Ax0 : Option Addr} {cx0 : Nat} {Ax1 : Option Addr} {cx1 : Nat} {Ax2 : Option Addr} {cx2 : Nat} (h0 : Row w S 9 Ax0 cx0 (x0.map TRoutine.D)) (h1 : Row w S 3 Ax1 cx1 (x1.map TRecordType.D)) (h2 : Row w S 1 Ax2 cx2 (x2.map fun x => [.str x])) (h3 : InI x3) : Dat.HoldVals w S (TProgram.mk x0 x1 x2 x3).D [.slice Ax0 x0.length cx0, .slice Ax1 x1.length cx1, .slice Ax2 x2.length cx2, .int .i64 x3] := by
  rw [TProgram.D_mk]
  exact ⟨Dat.holds_row.2 ⟨_, _, by simp only [List.length_map], h0⟩, Dat.holds_row.2 ⟨_, _, by simp only [List.length_map], h1⟩, Dat.holds_row.2 ⟨_, _, by simp only [List.length_map], h2⟩, Dat.holds_int.2 ⟨rfl, h3⟩, trivial⟩
theorem TProgram.at {w : World} {S : Nat → Prop} {A : Option Addr} {c : Nat} {l : List TProgram} (h : Row w S 4 A c (l.map TProgram.D)) (i : Nat) (hi : i < l.length) :
    ∃ b o x0 x1 x2 x3 Ax0 cx0 Ax1 cx1 Ax2 cx2, A = some ⟨b, o, none⟩ ∧ S b ∧ b < w.heap.size ∧ l[i] = .mk x0 x1 x2 x3 ∧ Dat.HoldVals w S l[i].D [.slice Ax0 x0.length cx0, .slice Ax1 x1.length cx1, .slice Ax2 x2.length cx2, .int .i64 x3] ∧ Row w S 9 Ax0 cx0 (x0.map TRoutine.D) ∧ Row w S 3 Ax1 cx1 (x1.map TRecordType.D) ∧ Row w S 1 Ax2 cx2 (x2.map fun x => [.str x]) ∧ InI x3 ∧ w.cell? ⟨b, o + i * 4, none⟩ = some (.slice Ax0 x0.length cx0) ∧ w.cell? ⟨b, o + i * 4 + 1, none⟩ = some (.slice Ax1 x1.length cx1) ∧ w.cell? ⟨b, o + i * 4 + 2, none⟩ = some (.slice Ax2 x2.length cx2) ∧ w.cell? ⟨b, o + i * 4 + 3, none⟩ = some (.int .i64 x3) := by
  obtain ⟨b, o, vs, hA, hS, hb, hv, hl, hc⟩ := Row.at h i (by simpa using hi)
  rw [List.getElem_map] at hv
  obtain ⟨x0, x1, x2, x3, hx⟩ : ∃ x0 x1 x2 x3, l[i] = .mk x0 x1 x2 x3 := by cases l[i]; exact ⟨_, _, _, _, rfl⟩
  have hv2 := hv
  rw [hx] at hv2
  obtain ⟨Ax0, cx0, Ax1, cx1, Ax2, cx2, rfl, g0, g1, g2, g3⟩ := TProgram.vals hv2
  exact ⟨b, o, _, _, _, _, _, _, _, _, _, _, hA, hS, hb, hx, hv, g0, g1, g2, g3, by simpa using hc 0 (by decide), by simpa using hc 1 (by decide), by simpa using hc 2 (by decide), by simpa using hc 3 (by decide)⟩

set_option maxHeartbeats 4000000 in
theorem trodTRoutine {H : Type} {enc : TypeId × Value → H} {w : World} {spare : Nat → Bool} {held : Bool} : ∀ (fuel : Nat) (cs : List Value) (x : DataW H × List MemPlace), DataW.trod enc Tryd.prog w 0 spare held fuel 68 cs = some x → ∃ t : TRoutine, Dat.HoldVals w (fun _ => True) t.D cs := by
  intro fuel
  induction fuel using Nat.strongRecOn with
  | ind fuel ih =>
  intro cs x h
  obtain ⟨xs, n, rfl, hx, hl, hlen, hg⟩ := DataW.trod_struct Tryd.underlying68 h
  obtain ⟨c0, c1, c2, c3, c4, c5, c6, c7, c8, rfl⟩ := lst9 (hl.trans (by kernel_rfl))
  obtain ⟨y0, y1, y2, y3, rfl⟩ := lst4 (hlen.trans (by kernel_rfl))
  have g0 := hg 0 _ rfl
  have g1 := hg 1 _ rfl
  have g2 := hg 2 _ rfl
  have g3 := hg 3 _ rfl
  obtain ⟨a0, e0, _, w0⟩ := DataW.trod_string (cs := [c0]) Tryd.underlying9 g0
  simp only [List.cons.injEq, and_true] at e0
  subst e0
  obtain ⟨a1, e1, _, w1⟩ := DataW.trod_int (cs := [c1]) Tryd.underlying3 g1
  simp only [List.cons.injEq, and_true] at e1
  subst e1
  obtain ⟨a2, A2, q2, e2, hR2⟩ := open_row (fun x => [Dat.str x]) (cs := [c2]) (k := 1) Tryd.underlying24 (by kernel_rfl) (by decide) (fun _ => rfl) (fun m hm cs x h => by obtain ⟨a, e, _, w⟩ := DataW.trod_string Tryd.underlying9 h; exact ⟨a, by rw [e]; exact ⟨Dat.holds_str.2 ⟨rfl, w⟩, trivial⟩⟩) g2
  simp only [List.cons.injEq, and_true] at e2
  subst e2
  obtain ⟨t3, h3⟩ := trodTCore n [c3, c4, c5, c6, c7, c8] _ g3
  obtain ⟨a3_0, a3_1, a3_2, a3_3, a3_4, a3_5⟩ := t3
  obtain ⟨A3_5, q3_5, e3, b3_0, b3_1, b3_2, b3_3, b3_4, b3_5⟩ := TCore.vals h3
  simp only [List.cons.injEq, and_true] at e3
  obtain ⟨rfl, rfl, rfl, rfl, rfl, rfl⟩ := e3
  exact ⟨.mk a0 a1 a2 a3_0 a3_1 a3_2 a3_3 a3_4 a3_5, TRoutine.vals_mk w0 (inI_of_wf w1) hR2 b3_0 b3_1 b3_2 b3_3 b3_4 b3_5⟩
theorem openTRoutine {H : Type} {enc : TypeId × Value → H} {w : World} {spare : Nat → Bool} {held : Bool} {r : Reach} {b0 : Nat} {v : Value} {d : DataW H} {p : List MemPlace} (hv : Value.okWide Tryd.prog w r b0 68 v) (h : DataW.Trod enc Tryd.prog w 0 spare held 68 v d p) :
    ∃ (t : TRoutine) (vs : List Value), v = .agg vs.toArray ∧ Dat.HoldVals w (fun _ => True) t.D vs := by
  obtain ⟨cs, rfl, hsz⟩ := okWide_struct Tryd.underlying68 hv
  obtain ⟨fuel, hf⟩ := h
  obtain ⟨t, h1⟩ := trodTRoutine fuel _ _ hf
  exact ⟨t, cs.toList, rfl, h1⟩
theorem trodTProgram {H : Type} {enc : TypeId × Value → H} {w : World} {spare : Nat → Bool} {held : Bool} : ∀ (fuel : Nat) (cs : List Value) (x : DataW H × List MemPlace), DataW.trod enc Tryd.prog w 0 spare held fuel 26 cs = some x → ∃ t : TProgram, Dat.HoldVals w (fun _ => True) t.D cs := by
  intro fuel
  induction fuel using Nat.strongRecOn with
  | ind fuel ih =>
  intro cs x h
  obtain ⟨xs, n, rfl, hx, hl, hlen, hg⟩ := DataW.trod_struct Tryd.underlying26 h
  obtain ⟨c0, c1, c2, c3, rfl⟩ := lst4 (hl.trans (by kernel_rfl))
  obtain ⟨y0, y1, y2, y3, rfl⟩ := lst4 (hlen.trans (by kernel_rfl))
  have g0 := hg 0 _ rfl
  have g1 := hg 1 _ rfl
  have g2 := hg 2 _ rfl
  have g3 := hg 3 _ rfl
  obtain ⟨a0, A0, q0, e0, hR0⟩ := open_row TRoutine.D (cs := [c0]) (k := 9) Tryd.underlying22 (by kernel_rfl) (by decide) TRoutine.D_len (fun m _ cs x h => trodTRoutine m cs x h) g0
  simp only [List.cons.injEq, and_true] at e0
  subst e0
  obtain ⟨a1, A1, q1, e1, hR1⟩ := open_row TRecordType.D (cs := [c1]) (k := 3) Tryd.underlying23 (by kernel_rfl) (by decide) TRecordType.D_len (fun m _ cs x h => trodTRecordType m cs x h) g1
  simp only [List.cons.injEq, and_true] at e1
  subst e1
  obtain ⟨a2, A2, q2, e2, hR2⟩ := open_row (fun x => [Dat.str x]) (cs := [c2]) (k := 1) Tryd.underlying24 (by kernel_rfl) (by decide) (fun _ => rfl) (fun m hm cs x h => by obtain ⟨a, e, _, w⟩ := DataW.trod_string Tryd.underlying9 h; exact ⟨a, by rw [e]; exact ⟨Dat.holds_str.2 ⟨rfl, w⟩, trivial⟩⟩) g2
  simp only [List.cons.injEq, and_true] at e2
  subst e2
  obtain ⟨a3, e3, _, w3⟩ := DataW.trod_int (cs := [c3]) Tryd.underlying3 g3
  simp only [List.cons.injEq, and_true] at e3
  subst e3
  exact ⟨.mk a0 a1 a2 a3, TProgram.vals_mk hR0 hR1 hR2 (inI_of_wf w3)⟩
theorem openTProgram {H : Type} {enc : TypeId × Value → H} {w : World} {spare : Nat → Bool} {held : Bool} {r : Reach} {b0 : Nat} {v : Value} {d : DataW H} {p : List MemPlace} (hv : Value.okWide Tryd.prog w r b0 26 v) (h : DataW.Trod enc Tryd.prog w 0 spare held 26 v d p) :
    ∃ (t : TProgram) (vs : List Value), v = .agg vs.toArray ∧ Dat.HoldVals w (fun _ => True) t.D vs := by
  obtain ⟨cs, rfl, hsz⟩ := okWide_struct Tryd.underlying26 hv
  obtain ⟨fuel, hf⟩ := h
  obtain ⟨t, h1⟩ := trodTProgram fuel _ _ hf
  exact ⟨t, cs.toList, rfl, h1⟩
theorem openSRoutine {H : Type} {enc : TypeId × Value → H} {w : World} {spare : Nat → Bool} {held : Bool} {r : Reach} {b0 : Nat} {v : Value} {d : DataW H} {p : List MemPlace} (hv : Value.okWide Tryd.prog w r b0 22 v) (h : DataW.Trod enc Tryd.prog w 0 spare held 22 v d p) :
    ∃ (l : List TRoutine) (A : Option Addr) (c : Nat), v = .slice A l.length c ∧ Row w (fun _ => True) 9 A c (l.map TRoutine.D) := by
  obtain ⟨A, m, c, rfl⟩ := okWide_slice Tryd.underlying22 hv
  obtain ⟨fuel, hf⟩ := h
  obtain ⟨l, A2, c2, e, hR⟩ := open_row TRoutine.D (k := 9) Tryd.underlying22 (by kernel_rfl) (by decide) TRoutine.D_len (fun m _ cs x h => trodTRoutine m cs x h) hf
  simp only [Value.cells, List.cons.injEq, and_true] at e
  exact ⟨l, A2, c2, e, hR⟩
end Go.Proofs.YtgahehipgabhpaaDoor
