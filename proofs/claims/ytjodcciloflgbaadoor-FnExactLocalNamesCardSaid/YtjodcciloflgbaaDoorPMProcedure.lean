/- Own data of Procedure: copies, marks. -/
import Derived.Test.YtjodcciloflgbaaDoorPHProcedure
import Derived.Test.YtjodcciloflgbaaDoorPOw
import Derived.Test.YtjodcciloflgbaaDoorPMExpr
namespace Go.Proofs.YtjodcciloflgbaaDoor
set_option linter.unusedVariables false
set_option linter.unusedSimpArgs false
set_option maxRecDepth 100000
open Go.RowKit
set_option maxHeartbeats 4000000 in
theorem TProcedure.vals_own {w : World} {L : List Nat} {x0 : ByteArray} {x1 : List ByteArray} {x2 : List ByteArray} {x3 : Int} {x4 : ByteArray} {x5 : Int} {x6 : Int} {x7 : List TExpr} {x8 : Int} {vs : List Value} (h : Dat.OwnVals w L (TProcedure.mk x0 x1 x2 x3 x4 x5 x6 x7 x8).D vs) : ∃ A1 c1 L1 A2 c2 L2 A7 c7 L7, L = L1 ++ (L2 ++ L7) ∧ vs = [.string x0, .slice A1 x1.length c1, .slice A2 x2.length c2, .int .i64 x3, .string x4, .int .i64 x5, .int .i64 x6, .slice A7 x7.length c7, .int .i64 x8] ∧ x0.size ≤ maxLen ∧ OwnRow w L1 1 A1 c1 (x1.map (fun x => [Dat.str x])) ∧ OwnRow w L2 1 A2 c2 (x2.map (fun x => [Dat.str x])) ∧ InI x3 ∧ x4.size ≤ maxLen ∧ InI x5 ∧ InI x6 ∧ OwnRow w L7 5 A7 c7 (x7.map TExpr.D) ∧ InI x8 := by
 rw [TProcedure.D_mk] at h
 have hl := h.length
 obtain ⟨u0, u1, u2, u3, u4, u5, u6, u7, u8, rfl⟩ := lst9 (hl.trans rfl)
 clear hl
 simp only [Dat.OwnVals] at h
 obtain ⟨M0, N0, e0, h0, M1, N1, e1, h1, M2, N2, e2, h2, M3, N3, e3, h3, M4, N4, e4, h4, M5, N5, e5, h5, M6, N6, e6, h6, M7, N7, e7, h7, M8, N8, e8, h8, en⟩ := h
 subst en
 subst e8
 subst e7
 subst e6
 subst e5
 subst e4
 subst e3
 subst e2
 subst e1
 subst e0
 obtain ⟨rfl, rfl, g0⟩ := Dat.own_str.1 h0
 obtain ⟨A1, c1, rfl, g1⟩ := Dat.own_row.1 h1
 obtain ⟨A2, c2, rfl, g2⟩ := Dat.own_row.1 h2
 obtain ⟨rfl, rfl, g3⟩ := Dat.own_int.1 h3
 obtain ⟨rfl, rfl, g4⟩ := Dat.own_str.1 h4
 obtain ⟨rfl, rfl, g5⟩ := Dat.own_int.1 h5
 obtain ⟨rfl, rfl, g6⟩ := Dat.own_int.1 h6
 obtain ⟨A7, c7, rfl, g7⟩ := Dat.own_row.1 h7
 obtain ⟨rfl, rfl, g8⟩ := Dat.own_int.1 h8
 exact ⟨A1, c1, M1, A2, c2, M2, A7, c7, M7, by simp only [List.nil_append, List.append_nil], by simp only [List.length_map], g0, g1, g2, g3, g4, g5, g6, g7, g8⟩
theorem TProcedure.own_mk {w : World} {x0 : ByteArray} {x1 : List ByteArray} {x2 : List ByteArray} {x3 : Int} {x4 : ByteArray} {x5 : Int} {x6 : Int} {x7 : List TExpr} {x8 : Int} {A1 : Option Addr} {c1 : Nat} {L1 : List Nat} {A2 : Option Addr} {c2 : Nat} {L2 : List Nat} {A7 : Option Addr} {c7 : Nat} {L7 : List Nat} (h0 : x0.size ≤ maxLen) (h1 : OwnRow w L1 1 A1 c1 (x1.map (fun x => [Dat.str x]))) (h2 : OwnRow w L2 1 A2 c2 (x2.map (fun x => [Dat.str x]))) (h3 : InI x3) (h4 : x4.size ≤ maxLen) (h5 : InI x5) (h6 : InI x6) (h7 : OwnRow w L7 5 A7 c7 (x7.map TExpr.D)) (h8 : InI x8) : Dat.OwnVals w (L1 ++ (L2 ++ L7)) (TProcedure.mk x0 x1 x2 x3 x4 x5 x6 x7 x8).D [.string x0, .slice A1 x1.length c1, .slice A2 x2.length c2, .int .i64 x3, .string x4, .int .i64 x5, .int .i64 x6, .slice A7 x7.length c7, .int .i64 x8] := by
 rw [TProcedure.D_mk]
 exact ⟨[], _, (List.nil_append _).symm, Dat.own_str.2 ⟨rfl, rfl, h0⟩, ⟨L1, _, rfl, Dat.own_row.2 ⟨_, _, by simp only [List.length_map], h1⟩, ⟨L2, _, rfl, Dat.own_row.2 ⟨_, _, by simp only [List.length_map], h2⟩, ⟨[], _, (List.nil_append _).symm, Dat.own_int.2 ⟨rfl, rfl, h3⟩, ⟨[], _, (List.nil_append _).symm, Dat.own_str.2 ⟨rfl, rfl, h4⟩, ⟨[], _, (List.nil_append _).symm, Dat.own_int.2 ⟨rfl, rfl, h5⟩, ⟨[], _, (List.nil_append _).symm, Dat.own_int.2 ⟨rfl, rfl, h6⟩, ⟨L7, _, (List.append_nil _).symm, Dat.own_row.2 ⟨_, _, by simp only [List.length_map], h7⟩, ⟨[], _, (List.nil_append _).symm, Dat.own_int.2 ⟨rfl, rfl, h8⟩, rfl⟩⟩⟩⟩⟩⟩⟩⟩⟩
def ToProcedureL (t : TProcedure) : Prop := ∀ (S : Nat → Prop) (w : World) (vs : List Value), Dat.HoldVals w S t.D vs → Dat.wtL t.D ≤ 1048576 →
 Calls Tryd.prog 51 #[.agg vs.toArray] w (MadeVL w t.D)
set_option maxHeartbeats 800000 in
theorem toProcedureS_ofL (ks : List TProcedure) (IH : ∀ (i : Nat) (hi : i < ks.length), ToProcedureL ks[i]) (S : Nat → Prop) (w : World) (A : Option Addr) (c : Nat) (hR : Row w S 9 A c (ks.map TProcedure.D)) (hwt : ks.length + Dat.wtR (ks.map TProcedure.D) ≤ 1048576) :
    Calls Tryd.prog 27 #[.slice A ks.length c] w (MadeRL w 9 (ks.map TProcedure.D)) := by
  have IH' := hide IH
  have HR := hide hR
  have hlen := hR.1
  have hcm := hR.2.1
  simp only [List.length_map] at hlen
  unfold maxLen at hcm
  clear IH hR
  obtain ⟨cur, hcur, hmk⟩ := make_rows (P := Tryd.prog) (t := 31) (e := 62) (k := 9) ks.length (by omega) Tryd.underlying31 (by kernel_rfl)
  have HC := hide hcur
  clear hcur
  have HW := hide hwt
  clear hwt
  go_enter Tryd.func27, Tryd.ntmps27
  go_wp2_with (fail)
  have HF := hide (FillO.start w 62 9 ks.length HC.out)
  clear hmk
  go_loopw [4] (fun iv wr => ∃ k : Nat, k ≤ ks.length ∧ iv = .int .i64 k ∧ FillO wr w.heap.size 62 9 ks.length ((ks.map TProcedure.D).take k) ∧ Bel w wr) (fun iv _ => ks.length - (intOf iv).toNat)
  case atStart => exact ⟨0, Nat.zero_le _, rfl, HF.out, bl⟩
  case round =>
    obtain ⟨k, hk, rfl, hF, hbw⟩ := hrel
    have HF1 := hide hF
    have hgl := hF.lt
    clear hF HF
    rcases Nat.lt_or_ge k ks.length with hlt | hge
    · have hd : decide ((k : Int) < (ks.length : Int)) = true := by simp; omega
      have hi0 : 0 ≤ (k : Int) := by omega
      have hi1 : (k : Int) < (ks.length : Int) := by omega
      (obtain ⟨b1, o1, x1_0, x1_1, x1_2, x1_3, x1_4, x1_5, x1_6, x1_7, x1_8, A1_1, C1_1, A1_2, C1_2, A1_7, C1_7, hA1, hS1, hl1, hx1, hv1, g1_0, g1_1, g1_2, g1_3, g1_4, g1_5, g1_6, g1_7, g1_8, c1_0, c1_1, c1_2, c1_3, c1_4, c1_5, c1_6, c1_7, c1_8⟩ := TProcedure.at HR.out k hlt; subst hA1; have HV1 := hide (Dat.HoldVals.bel hbw hv1); have hh1 := hbw.box b1 hl1; have hw1 := Nat.lt_of_lt_of_le hl1 (Bel.size hbw); replace c1_0 := (hh1 _).trans c1_0; replace c1_1 := (hh1 _).trans c1_1; replace c1_2 := (hh1 _).trans c1_2; replace c1_3 := (hh1 _).trans c1_3; replace c1_4 := (hh1 _).trans c1_4; replace c1_5 := (hh1 _).trans c1_5; replace c1_6 := (hh1 _).trans c1_6; replace c1_7 := (hh1 _).trans c1_7; replace c1_8 := (hh1 _).trans c1_8; have HX1 := hide hx1; have GR1_1 := hide g1_1; have GR1_2 := hide g1_2; have GR1_7 := hide g1_7; clear hh1 hv1 hx1 hS1 g1_1 g1_2 g1_7)
      have hw := hide (Dat.wtR_take (ks.map TProcedure.D) k (by simpa using hlt))
      have hw' := hide (Dat.wtR_le (ks.map TProcedure.D) (k + 1))
      have hwk : Dat.wtL ks[k].D ≤ 1048576 := by have a := hw.out; have b := hw'.out; have c := HW.out; rw [List.getElem_map] at a; omega
      go_wp2_with (fail)
      refine (IH'.out k hlt S _ _ (Dat.HoldVals.bel bl HV1.out) hwk).mono ?_
      rintro e w1 ⟨vs', L', rfl, hv', hnd', hlo', hb1⟩
      have HN' := hide hnd'
      have HL' := hide hlo'
      clear hnd' hlo'
      have HV' := hide hv'
      rw [HX1.out] at hv'
      obtain ⟨A1, c1, A2, c2, A7, c7, rfl, -⟩ := TProcedure.vals (Dat.OwnVals.vals (S := fun _ => True) (fun _ _ => trivial) hv')
      clear hv'
      obtain ⟨y0, e0⟩ := (FillO.bel HF1.out (show Bel _ w1 from bl)).cell (i := k * 9) (by omega)
      obtain ⟨y1, e1⟩ := (FillO.bel HF1.out (show Bel _ w1 from bl)).cell (i := k * 9 + 1) (by omega)
      obtain ⟨y2, e2⟩ := (FillO.bel HF1.out (show Bel _ w1 from bl)).cell (i := k * 9 + 2) (by omega)
      obtain ⟨y3, e3⟩ := (FillO.bel HF1.out (show Bel _ w1 from bl)).cell (i := k * 9 + 3) (by omega)
      obtain ⟨y4, e4⟩ := (FillO.bel HF1.out (show Bel _ w1 from bl)).cell (i := k * 9 + 4) (by omega)
      obtain ⟨y5, e5⟩ := (FillO.bel HF1.out (show Bel _ w1 from bl)).cell (i := k * 9 + 5) (by omega)
      obtain ⟨y6, e6⟩ := (FillO.bel HF1.out (show Bel _ w1 from bl)).cell (i := k * 9 + 6) (by omega)
      obtain ⟨y7, e7⟩ := (FillO.bel HF1.out (show Bel _ w1 from bl)).cell (i := k * 9 + 7) (by omega)
      obtain ⟨y8, e8⟩ := (FillO.bel HF1.out (show Bel _ w1 from bl)).cell (i := k * 9 + 8) (by omega)
      have f0 := (FillO.bel HF1.out (show Bel _ w1 from bl)).free (k * 9)
      have f1 := (FillO.bel HF1.out (show Bel _ w1 from bl)).free (k * 9 + 1)
      have f2 := (FillO.bel HF1.out (show Bel _ w1 from bl)).free (k * 9 + 2)
      have f3 := (FillO.bel HF1.out (show Bel _ w1 from bl)).free (k * 9 + 3)
      have f4 := (FillO.bel HF1.out (show Bel _ w1 from bl)).free (k * 9 + 4)
      have f5 := (FillO.bel HF1.out (show Bel _ w1 from bl)).free (k * 9 + 5)
      have f6 := (FillO.bel HF1.out (show Bel _ w1 from bl)).free (k * 9 + 6)
      have f7 := (FillO.bel HF1.out (show Bel _ w1 from bl)).free (k * 9 + 7)
      have f8 := (FillO.bel HF1.out (show Bel _ w1 from bl)).free (k * 9 + 8)
      go_wp2_with (fail)
      go_roundw
      case rel =>
       exact ⟨k + 1, by omega, by go_num, FillO.snoc9 HF1.out hlt rfl bl (Dat.OwnVals.bel bl HV'.out) HN'.out (fun b hb => HL'.out b hb), bl⟩
      case measure => simp [intOf]; omega
    · have hd : decide ((k : Int) < (ks.length : Int)) = false := by simp; omega
      go_wp2_with (fail)
      go_returns
      obtain ⟨L, q1, q2, q3⟩ := FillO.done HF1.out hge rfl (by unfold maxLen; omega)
      exact ⟨some ⟨w.heap.size, 0, none⟩, ks.length, L, by rw [List.length_map]; rfl, q1, q2, q3, hbw⟩
set_option maxHeartbeats 8000000 in
theorem toProcedureL_any : ∀ t : TProcedure, ToProcedureL t := by
 rintro ⟨x0, x1, x2, x3, x4, x5, x6, x7, x8⟩
 intro S w vs hv hwt
 obtain ⟨A1, c1, A2, c2, A7, c7, rfl, g0, hR1, hR2, g3, g4, g5, g6, hR7, g8⟩ := TProcedure.vals hv
 have R1 := hide hR1
 have R2 := hide hR2
 have R7 := hide hR7
 rw [TProcedure.D_mk] at hwt
 simp only [Dat.wtL, Dat.wt, List.length_map] at hwt
 have hw1 : x1.length + Dat.wtR (x1.map (fun x => [Dat.str x])) ≤ 1048576 := by omega
 have hw2 : x2.length + Dat.wtR (x2.map (fun x => [Dat.str x])) ≤ 1048576 := by omega
 have hw3 : Dat.wtL (TExpr.mk x3 x4 x5 x6 x7).D ≤ 1048576 := by rw [TExpr.D_mk]; simp only [Dat.wtL, Dat.wt, List.length_map]; omega
 clear hv hwt hR1 hR2 hR7
 unfold maxLen at g0
 unfold maxLen at g4
 go_enter Tryd.func51, Tryd.ntmps51
 go_wp2_with (fail)
 refine (toStringSL_any x1 S _ _ _ (Row.bel bl R1.out) hw1).mono ?_
 rintro e w1 ⟨B1, d1, L1, rfl, hQ1, hN1, hL1, hb1⟩
 (have hz1 := hb1.sz; obtain ⟨hk1_0, hf1_0, hl1_0, hn1_0⟩ := hb1.lay (w.heap.size); obtain ⟨hk1_1, hf1_1, hl1_1, hn1_1⟩ := hb1.lay (w.heap.size + 1); obtain ⟨hk1_2, hf1_2, hl1_2, hn1_2⟩ := hb1.lay (w.heap.size + 1 + 1))
 have N1 := hide hN1
 have V1 := hide (show ∀ b, b ∈ L1 → w.heap.size + 2 < b from fun b hb => by have := hL1 b hb; (try simp only [World.size_alloc, World.size_setCell, World.size_drew, World.heap_drewN] at this); omega)
 have U1 := hide hL1
 have T1 := hide (hQ1.lt)
 have Q1 := hide hQ1
 clear hQ1 hN1 hL1
 go_wp2_with (fail)
 refine Calls.named fun W1 hW1 => ?_
 have hB1 : Bel w W1 := by rw [← hW1]; exact bl
 have hZ1 := hB1.size
 have hY1 : w.heap.size + 1 + 1 < W1.heap.size := by rw [← hW1]; simp; omega
 have hV1 : w1.heap.size ≤ W1.heap.size := by rw [← hW1]; simp
 have ka1_2 : W1.cell? ⟨w.heap.size, 2, none⟩ = some (.slice A2 x2.length c2) := by rw [← hW1]; simp [hk1_0, go_sem] <;> rfl
 have ka1_3 : W1.cell? ⟨w.heap.size, 3, none⟩ = some (.int .i64 x3) := by rw [← hW1]; simp [hk1_0, go_sem] <;> rfl
 have ka1_4 : W1.cell? ⟨w.heap.size, 4, none⟩ = some (.string x4) := by rw [← hW1]; simp [hk1_0, go_sem] <;> rfl
 have ka1_5 : W1.cell? ⟨w.heap.size, 5, none⟩ = some (.int .i64 x5) := by rw [← hW1]; simp [hk1_0, go_sem] <;> rfl
 have ka1_6 : W1.cell? ⟨w.heap.size, 6, none⟩ = some (.int .i64 x6) := by rw [← hW1]; simp [hk1_0, go_sem] <;> rfl
 have ka1_7 : W1.cell? ⟨w.heap.size, 7, none⟩ = some (.slice A7 x7.length c7) := by rw [← hW1]; simp [hk1_0, go_sem] <;> rfl
 have ka1_8 : W1.cell? ⟨w.heap.size, 8, none⟩ = some (.int .i64 x8) := by rw [← hW1]; simp [hk1_0, go_sem] <;> rfl
 have fa1 : ∀ o, W1.frozen? ⟨w.heap.size, o, none⟩ = false := by intro o; rw [← hW1]; simp [hf1_0, go_sem]
 have kr1_0 : W1.cell? ⟨w.heap.size + 1, 0, none⟩ = some (.string ByteArray.empty) := by rw [← hW1]; simp [hk1_1, go_sem] <;> rfl
 have kr1_1 : W1.cell? ⟨w.heap.size + 1, 1, none⟩ = some (.slice none 0 0) := by rw [← hW1]; simp [hk1_1, go_sem] <;> rfl
 have kr1_2 : W1.cell? ⟨w.heap.size + 1, 2, none⟩ = some (.slice none 0 0) := by rw [← hW1]; simp [hk1_1, go_sem] <;> rfl
 have kr1_3 : W1.cell? ⟨w.heap.size + 1, 3, none⟩ = some (.int .i64 0) := by rw [← hW1]; simp [hk1_1, go_sem] <;> rfl
 have kr1_4 : W1.cell? ⟨w.heap.size + 1, 4, none⟩ = some (.string ByteArray.empty) := by rw [← hW1]; simp [hk1_1, go_sem] <;> rfl
 have kr1_5 : W1.cell? ⟨w.heap.size + 1, 5, none⟩ = some (.int .i64 0) := by rw [← hW1]; simp [hk1_1, go_sem] <;> rfl
 have kr1_6 : W1.cell? ⟨w.heap.size + 1, 6, none⟩ = some (.int .i64 0) := by rw [← hW1]; simp [hk1_1, go_sem] <;> rfl
 have kr1_7 : W1.cell? ⟨w.heap.size + 1, 7, none⟩ = some (.slice none 0 0) := by rw [← hW1]; simp [hk1_1, go_sem] <;> rfl
 have kr1_8 : W1.cell? ⟨w.heap.size + 1, 8, none⟩ = some (.int .i64 0) := by rw [← hW1]; simp [hk1_1, go_sem] <;> rfl
 have fr1 : ∀ o, W1.frozen? ⟨w.heap.size + 1, o, none⟩ = false := by intro o; rw [← hW1]; simp [hf1_1, go_sem]
 have ko1_0 : W1.cell? ⟨w.heap.size + 1 + 1, 0, none⟩ = some (.string x0) := by rw [← hW1]; simp [hk1_2, go_sem] <;> rfl
 have ko1_1 : W1.cell? ⟨w.heap.size + 1 + 1, 1, none⟩ = some (.slice B1 x1.length d1) := by rw [← hW1]; simp [hk1_2, go_sem] <;> rfl
 have ko1_2 : W1.cell? ⟨w.heap.size + 1 + 1, 2, none⟩ = some (.slice none 0 0) := by rw [← hW1]; simp [hk1_2, go_sem] <;> rfl
 have ko1_3 : W1.cell? ⟨w.heap.size + 1 + 1, 3, none⟩ = some (.int .i64 0) := by rw [← hW1]; simp [hk1_2, go_sem] <;> rfl
 have ko1_4 : W1.cell? ⟨w.heap.size + 1 + 1, 4, none⟩ = some (.string ByteArray.empty) := by rw [← hW1]; simp [hk1_2, go_sem] <;> rfl
 have ko1_5 : W1.cell? ⟨w.heap.size + 1 + 1, 5, none⟩ = some (.int .i64 0) := by rw [← hW1]; simp [hk1_2, go_sem] <;> rfl
 have ko1_6 : W1.cell? ⟨w.heap.size + 1 + 1, 6, none⟩ = some (.int .i64 0) := by rw [← hW1]; simp [hk1_2, go_sem] <;> rfl
 have ko1_7 : W1.cell? ⟨w.heap.size + 1 + 1, 7, none⟩ = some (.slice none 0 0) := by rw [← hW1]; simp [hk1_2, go_sem] <;> rfl
 have ko1_8 : W1.cell? ⟨w.heap.size + 1 + 1, 8, none⟩ = some (.int .i64 0) := by rw [← hW1]; simp [hk1_2, go_sem] <;> rfl
 have fo1 : ∀ o, W1.frozen? ⟨w.heap.size + 1 + 1, o, none⟩ = false := by intro o; rw [← hW1]; simp [hf1_2, go_sem]
 replace Q1 := hide (OwnRow.offS (show OffS (fun b => w.heap.size + 2 < b) _ W1 by rw [← hW1]; exact osl) (fun b hb => V1.out b hb) Q1.out)
 clear hW1 hk1_0 hk1_1 hk1_2 hf1_0 hf1_1 hf1_2 hb1
 refine (toStringSL_any x2 S _ _ _ (Row.bel bl R2.out) hw2).mono ?_
 rintro e w2 ⟨B2, d2, L2, rfl, hQ2, hN2, hL2, hb2⟩
 (have hz2 := hb2.sz; obtain ⟨hk2_0, hf2_0, hl2_0, hn2_0⟩ := hb2.lay (w.heap.size); obtain ⟨hk2_1, hf2_1, hl2_1, hn2_1⟩ := hb2.lay (w.heap.size + 1); obtain ⟨hk2_2, hf2_2, hl2_2, hn2_2⟩ := hb2.lay (w.heap.size + 1 + 1))
 have N2 := hide hN2
 have V2 := hide (show ∀ b, b ∈ L2 → w.heap.size + 2 < b from fun b hb => by have := hL2 b hb; (try simp only [World.size_alloc, World.size_setCell, World.size_drew, World.heap_drewN] at this); omega)
 have U2 := hide (show ∀ b, b ∈ L2 → w1.heap.size ≤ b from fun b hb => by have := hL2 b hb; (try simp only [World.size_alloc, World.size_setCell, World.size_drew, World.heap_drewN] at this); omega)
 have T2 := hide (hQ2.lt)
 have Q2 := hide hQ2
 clear hQ2 hN2 hL2
 go_wp2_with (fail)
 refine Calls.named fun W2 hW2 => ?_
 have hB2 : Bel w W2 := by rw [← hW2]; exact bl
 have hZ2 := hB2.size
 have hY2 : w.heap.size + 1 + 1 < W2.heap.size := by rw [← hW2]; simp; omega
 have hV2 : w2.heap.size ≤ W2.heap.size := by rw [← hW2]; simp
 have ka2_3 : W2.cell? ⟨w.heap.size, 3, none⟩ = some (.int .i64 x3) := by rw [← hW2]; simp [hk2_0, go_sem, ka1_3] <;> rfl
 have ka2_4 : W2.cell? ⟨w.heap.size, 4, none⟩ = some (.string x4) := by rw [← hW2]; simp [hk2_0, go_sem, ka1_4] <;> rfl
 have ka2_5 : W2.cell? ⟨w.heap.size, 5, none⟩ = some (.int .i64 x5) := by rw [← hW2]; simp [hk2_0, go_sem, ka1_5] <;> rfl
 have ka2_6 : W2.cell? ⟨w.heap.size, 6, none⟩ = some (.int .i64 x6) := by rw [← hW2]; simp [hk2_0, go_sem, ka1_6] <;> rfl
 have ka2_7 : W2.cell? ⟨w.heap.size, 7, none⟩ = some (.slice A7 x7.length c7) := by rw [← hW2]; simp [hk2_0, go_sem, ka1_7] <;> rfl
 have ka2_8 : W2.cell? ⟨w.heap.size, 8, none⟩ = some (.int .i64 x8) := by rw [← hW2]; simp [hk2_0, go_sem, ka1_8] <;> rfl
 have fa2 : ∀ o, W2.frozen? ⟨w.heap.size, o, none⟩ = false := by intro o; rw [← hW2]; simp [hf2_0, go_sem, fa1]
 have kr2_0 : W2.cell? ⟨w.heap.size + 1, 0, none⟩ = some (.string ByteArray.empty) := by rw [← hW2]; simp [hk2_1, go_sem, kr1_0] <;> rfl
 have kr2_1 : W2.cell? ⟨w.heap.size + 1, 1, none⟩ = some (.slice none 0 0) := by rw [← hW2]; simp [hk2_1, go_sem, kr1_1] <;> rfl
 have kr2_2 : W2.cell? ⟨w.heap.size + 1, 2, none⟩ = some (.slice none 0 0) := by rw [← hW2]; simp [hk2_1, go_sem, kr1_2] <;> rfl
 have kr2_3 : W2.cell? ⟨w.heap.size + 1, 3, none⟩ = some (.int .i64 0) := by rw [← hW2]; simp [hk2_1, go_sem, kr1_3] <;> rfl
 have kr2_4 : W2.cell? ⟨w.heap.size + 1, 4, none⟩ = some (.string ByteArray.empty) := by rw [← hW2]; simp [hk2_1, go_sem, kr1_4] <;> rfl
 have kr2_5 : W2.cell? ⟨w.heap.size + 1, 5, none⟩ = some (.int .i64 0) := by rw [← hW2]; simp [hk2_1, go_sem, kr1_5] <;> rfl
 have kr2_6 : W2.cell? ⟨w.heap.size + 1, 6, none⟩ = some (.int .i64 0) := by rw [← hW2]; simp [hk2_1, go_sem, kr1_6] <;> rfl
 have kr2_7 : W2.cell? ⟨w.heap.size + 1, 7, none⟩ = some (.slice none 0 0) := by rw [← hW2]; simp [hk2_1, go_sem, kr1_7] <;> rfl
 have kr2_8 : W2.cell? ⟨w.heap.size + 1, 8, none⟩ = some (.int .i64 0) := by rw [← hW2]; simp [hk2_1, go_sem, kr1_8] <;> rfl
 have fr2 : ∀ o, W2.frozen? ⟨w.heap.size + 1, o, none⟩ = false := by intro o; rw [← hW2]; simp [hf2_1, go_sem, fr1]
 have ko2_0 : W2.cell? ⟨w.heap.size + 1 + 1, 0, none⟩ = some (.string x0) := by rw [← hW2]; simp [hk2_2, go_sem, ko1_0] <;> rfl
 have ko2_1 : W2.cell? ⟨w.heap.size + 1 + 1, 1, none⟩ = some (.slice B1 x1.length d1) := by rw [← hW2]; simp [hk2_2, go_sem, ko1_1] <;> rfl
 have ko2_2 : W2.cell? ⟨w.heap.size + 1 + 1, 2, none⟩ = some (.slice B2 x2.length d2) := by rw [← hW2]; simp [hk2_2, go_sem, ko1_2] <;> rfl
 have ko2_3 : W2.cell? ⟨w.heap.size + 1 + 1, 3, none⟩ = some (.int .i64 0) := by rw [← hW2]; simp [hk2_2, go_sem, ko1_3] <;> rfl
 have ko2_4 : W2.cell? ⟨w.heap.size + 1 + 1, 4, none⟩ = some (.string ByteArray.empty) := by rw [← hW2]; simp [hk2_2, go_sem, ko1_4] <;> rfl
 have ko2_5 : W2.cell? ⟨w.heap.size + 1 + 1, 5, none⟩ = some (.int .i64 0) := by rw [← hW2]; simp [hk2_2, go_sem, ko1_5] <;> rfl
 have ko2_6 : W2.cell? ⟨w.heap.size + 1 + 1, 6, none⟩ = some (.int .i64 0) := by rw [← hW2]; simp [hk2_2, go_sem, ko1_6] <;> rfl
 have ko2_7 : W2.cell? ⟨w.heap.size + 1 + 1, 7, none⟩ = some (.slice none 0 0) := by rw [← hW2]; simp [hk2_2, go_sem, ko1_7] <;> rfl
 have ko2_8 : W2.cell? ⟨w.heap.size + 1 + 1, 8, none⟩ = some (.int .i64 0) := by rw [← hW2]; simp [hk2_2, go_sem, ko1_8] <;> rfl
 have fo2 : ∀ o, W2.frozen? ⟨w.heap.size + 1 + 1, o, none⟩ = false := by intro o; rw [← hW2]; simp [hf2_2, go_sem, fo1]
 replace Q1 := hide (OwnRow.offS (show OffS (fun b => w.heap.size + 2 < b) _ W2 by rw [← hW2]; exact osl) (fun b hb => V1.out b hb) Q1.out)
 replace Q2 := hide (OwnRow.offS (show OffS (fun b => w.heap.size + 2 < b) _ W2 by rw [← hW2]; exact osl) (fun b hb => V2.out b hb) Q2.out)
 clear hW2 hk2_0 hk2_1 hk2_2 hf2_0 hf2_1 hf2_2 hb2 hB1 hY1 fa1 fr1 fo1 kr1_0 kr1_1 kr1_2 kr1_3 kr1_4 kr1_5 kr1_6 kr1_7 kr1_8 ko1_0 ko1_1 ko1_2 ko1_3 ko1_4 ko1_5 ko1_6 ko1_7 ko1_8 ka1_2 ka1_3 ka1_4 ka1_5 ka1_6 ka1_7 ka1_8
 refine (toExprL_any (.mk x3 x4 x5 x6 x7) S _ _ (TExpr.vals_mk g3 (by unfold maxLen; omega) g5 g6 (Row.bel bl R7.out)) hw3).mono ?_
 rintro e w3 ⟨vs3, LL3, rfl, hv3, hN3, hL3, hb3⟩
 obtain ⟨B7, d7, L7, hLL, rfl, -, -, -, -, hQ7⟩ := TExpr.vals_own hv3
 have hLL2 := hLL.symm
 clear hLL
 subst hLL2
 (have hz3 := hb3.sz; obtain ⟨hk3_0, hf3_0, hl3_0, hn3_0⟩ := hb3.lay (w.heap.size); obtain ⟨hk3_1, hf3_1, hl3_1, hn3_1⟩ := hb3.lay (w.heap.size + 1); obtain ⟨hk3_2, hf3_2, hl3_2, hn3_2⟩ := hb3.lay (w.heap.size + 1 + 1))
 have N7 := hide hN3
 have V7 := hide (show ∀ b, b ∈ L7 → w.heap.size + 2 < b from fun b hb => by have := hL3 b hb; (try simp only [World.size_alloc, World.size_setCell, World.size_drew, World.heap_drewN] at this); omega)
 have U7 := hide (show ∀ b, b ∈ L7 → w2.heap.size ≤ b from fun b hb => by have := hL3 b hb; (try simp only [World.size_alloc, World.size_setCell, World.size_drew, World.heap_drewN] at this); omega)
 have T7 := hide (hQ7.lt)
 have Q7 := hide hQ7
 clear hQ7 hN3 hL3 hv3
 go_upto_region 6 with (fail)
 refine wp_named fun W3 hW3 => ?_
 have hB3 : Bel w W3 := by rw [← hW3]; exact bl
 have hZ3 := hB3.size
 have hY3 : w.heap.size + 1 + 1 < W3.heap.size := by rw [← hW3]; simp; omega
 have hV3 : w3.heap.size ≤ W3.heap.size := by rw [← hW3]; simp
 have ka3_8 : W3.cell? ⟨w.heap.size, 8, none⟩ = some (.int .i64 x8) := by rw [← hW3]; simp [hk3_0, go_sem, ka2_8] <;> rfl
 have fa3 : ∀ o, W3.frozen? ⟨w.heap.size, o, none⟩ = false := by intro o; rw [← hW3]; simp [hf3_0, go_sem, fa2]
 have kr3_0 : W3.cell? ⟨w.heap.size + 1, 0, none⟩ = some (.string ByteArray.empty) := by rw [← hW3]; simp [hk3_1, go_sem, kr2_0] <;> rfl
 have kr3_1 : W3.cell? ⟨w.heap.size + 1, 1, none⟩ = some (.slice none 0 0) := by rw [← hW3]; simp [hk3_1, go_sem, kr2_1] <;> rfl
 have kr3_2 : W3.cell? ⟨w.heap.size + 1, 2, none⟩ = some (.slice none 0 0) := by rw [← hW3]; simp [hk3_1, go_sem, kr2_2] <;> rfl
 have kr3_3 : W3.cell? ⟨w.heap.size + 1, 3, none⟩ = some (.int .i64 0) := by rw [← hW3]; simp [hk3_1, go_sem, kr2_3] <;> rfl
 have kr3_4 : W3.cell? ⟨w.heap.size + 1, 4, none⟩ = some (.string ByteArray.empty) := by rw [← hW3]; simp [hk3_1, go_sem, kr2_4] <;> rfl
 have kr3_5 : W3.cell? ⟨w.heap.size + 1, 5, none⟩ = some (.int .i64 0) := by rw [← hW3]; simp [hk3_1, go_sem, kr2_5] <;> rfl
 have kr3_6 : W3.cell? ⟨w.heap.size + 1, 6, none⟩ = some (.int .i64 0) := by rw [← hW3]; simp [hk3_1, go_sem, kr2_6] <;> rfl
 have kr3_7 : W3.cell? ⟨w.heap.size + 1, 7, none⟩ = some (.slice none 0 0) := by rw [← hW3]; simp [hk3_1, go_sem, kr2_7] <;> rfl
 have kr3_8 : W3.cell? ⟨w.heap.size + 1, 8, none⟩ = some (.int .i64 0) := by rw [← hW3]; simp [hk3_1, go_sem, kr2_8] <;> rfl
 have fr3 : ∀ o, W3.frozen? ⟨w.heap.size + 1, o, none⟩ = false := by intro o; rw [← hW3]; simp [hf3_1, go_sem, fr2]
 have ko3_0 : W3.cell? ⟨w.heap.size + 1 + 1, 0, none⟩ = some (.string x0) := by rw [← hW3]; simp [hk3_2, go_sem, ko2_0] <;> rfl
 have ko3_1 : W3.cell? ⟨w.heap.size + 1 + 1, 1, none⟩ = some (.slice B1 x1.length d1) := by rw [← hW3]; simp [hk3_2, go_sem, ko2_1] <;> rfl
 have ko3_2 : W3.cell? ⟨w.heap.size + 1 + 1, 2, none⟩ = some (.slice B2 x2.length d2) := by rw [← hW3]; simp [hk3_2, go_sem, ko2_2] <;> rfl
 have ko3_3 : W3.cell? ⟨w.heap.size + 1 + 1, 3, none⟩ = some (.int .i64 x3) := by rw [← hW3]; simp [hk3_2, go_sem, ko2_3] <;> rfl
 have ko3_4 : W3.cell? ⟨w.heap.size + 1 + 1, 4, none⟩ = some (.string x4) := by rw [← hW3]; simp [hk3_2, go_sem, ko2_4] <;> rfl
 have ko3_5 : W3.cell? ⟨w.heap.size + 1 + 1, 5, none⟩ = some (.int .i64 x5) := by rw [← hW3]; simp [hk3_2, go_sem, ko2_5] <;> rfl
 have ko3_6 : W3.cell? ⟨w.heap.size + 1 + 1, 6, none⟩ = some (.int .i64 x6) := by rw [← hW3]; simp [hk3_2, go_sem, ko2_6] <;> rfl
 have ko3_7 : W3.cell? ⟨w.heap.size + 1 + 1, 7, none⟩ = some (.slice B7 x7.length d7) := by rw [← hW3]; simp [hk3_2, go_sem, ko2_7] <;> rfl
 have ko3_8 : W3.cell? ⟨w.heap.size + 1 + 1, 8, none⟩ = some (.int .i64 0) := by rw [← hW3]; simp [hk3_2, go_sem, ko2_8] <;> rfl
 have fo3 : ∀ o, W3.frozen? ⟨w.heap.size + 1 + 1, o, none⟩ = false := by intro o; rw [← hW3]; simp [hf3_2, go_sem, fo2]
 replace Q1 := hide (OwnRow.offS (show OffS (fun b => w.heap.size + 2 < b) _ W3 by rw [← hW3]; exact osl) (fun b hb => V1.out b hb) Q1.out)
 replace Q2 := hide (OwnRow.offS (show OffS (fun b => w.heap.size + 2 < b) _ W3 by rw [← hW3]; exact osl) (fun b hb => V2.out b hb) Q2.out)
 replace Q7 := hide (OwnRow.offS (show OffS (fun b => w.heap.size + 2 < b) _ W3 by rw [← hW3]; exact osl) (fun b hb => V7.out b hb) Q7.out)
 clear hW3 hk3_0 hk3_1 hk3_2 hf3_0 hf3_1 hf3_2 hb3 hB2 hY2 fa2 fr2 fo2 kr2_0 kr2_1 kr2_2 kr2_3 kr2_4 kr2_5 kr2_6 kr2_7 kr2_8 ko2_0 ko2_1 ko2_2 ko2_3 ko2_4 ko2_5 ko2_6 ko2_7 ko2_8 ka2_3 ka2_4 ka2_5 ka2_6 ka2_7 ka2_8
 go_wp2_with (fail)
 exact bodyPost_ret (v := .agg #[.string x0, .slice B1 x1.length d1, .slice B2 x2.length d2, .int .i64 x3, .string x4, .int .i64 x5, .int .i64 x6, .slice B7 x7.length d7, .int .i64 x8]) (by simp [results, Tryd.results51, go_sem, kr3_0, kr3_1, kr3_2, kr3_3, kr3_4, kr3_5, kr3_6, kr3_7, kr3_8, ko3_0, ko3_1, ko3_2, ko3_3, ko3_4, ko3_5, ko3_6, ko3_7, ko3_8, fr3, fo3]) rfl
  ⟨[.string x0, .slice B1 x1.length d1, .slice B2 x2.length d2, .int .i64 x3, .string x4, .int .i64 x5, .int .i64 x6, .slice B7 x7.length d7, .int .i64 x8], L1 ++ (L2 ++ L7), rfl, TProcedure.own_mk (by unfold maxLen; omega) (OwnRow.offS (S := fun b => w.heap.size + 2 < b) osl (fun b hb => V1.out b hb) Q1.out) (OwnRow.offS (S := fun b => w.heap.size + 2 < b) osl (fun b hb => V2.out b hb) Q2.out) g3 (by unfold maxLen; omega) g5 g6 (OwnRow.offS (S := fun b => w.heap.size + 2 < b) osl (fun b hb => V7.out b hb) Q7.out) g8, nodup_app_lt (n := w1.heap.size) N1.out (nodup_app_lt (n := w2.heap.size) N2.out (N7.out) (fun b hb => T2.out b hb) (fun b hb => by have := U7.out b hb; omega)) (fun b hb => T1.out b hb) (fun b hb => (List.mem_append.1 hb).elim (fun hb => by have := U2.out b hb; omega) (fun hb => by have := U7.out b hb; omega)), fun b hb => (List.mem_append.1 hb).elim (fun hb => by have := V1.out b hb; omega) (fun hb => (List.mem_append.1 hb).elim (fun hb => by have := V2.out b hb; omega) (fun hb => by have := V7.out b hb; omega)), bl⟩
theorem toProcedureSL_any (ks : List TProcedure) (S : Nat → Prop) (w : World) (A : Option Addr) (c : Nat) (hR : Row w S 9 A c (ks.map TProcedure.D)) (hwt : ks.length + Dat.wtR (ks.map TProcedure.D) ≤ 1048576) :
  Calls Tryd.prog 27 #[.slice A ks.length c] w (MadeRL w 9 (ks.map TProcedure.D)) := toProcedureS_ofL ks (fun _ _ => toProcedureL_any _) S w A c hR hwt
theorem TProcedure.cnt_mk {x0 : ByteArray} {x1 : List ByteArray} {x2 : List ByteArray} {x3 : Int} {x4 : ByteArray} {x5 : Int} {x6 : Int} {x7 : List TExpr} {x8 : Int} : Dat.cntC (TProcedure.mk x0 x1 x2 x3 x4 x5 x6 x7 x8).D = 6 + Dat.cntR (x1.map (fun x => [Dat.str x])) + Dat.cntR (x2.map (fun x => [Dat.str x])) + Dat.cntR (x7.map TExpr.D) := by
 simp only [TProcedure.D_mk, Dat.cntC, Dat.cnt]; (try omega)
theorem TProcedure.mark_own {w : World} {m : Int} {x0 : ByteArray} {x1 : List ByteArray} {x2 : List ByteArray} {x3 : Int} {x4 : ByteArray} {x5 : Int} {x6 : Int} {x7 : List TExpr} {x8 : Int} {A1 : Option Addr} {c1 : Nat} {L1 : List Nat} {A2 : Option Addr} {c2 : Nat} {L2 : List Nat} {A7 : Option Addr} {c7 : Nat} {L7 : List Nat} (h0 : 0 ≤ m) (hm : m + (6 + Dat.cntR (x1.map (fun x => [Dat.str x])) + Dat.cntR (x2.map (fun x => [Dat.str x])) + Dat.cntR (x7.map TExpr.D) : Nat) ≤ 4611686018427387904) (h1 : OwnRow w L1 1 A1 c1 (Dat.markR (m + 1) (x1.map (fun x => [Dat.str x])))) (h2 : OwnRow w L2 1 A2 c2 (Dat.markR (m + 1 + (Dat.cntR (x1.map (fun x => [Dat.str x])) : Nat)) (x2.map (fun x => [Dat.str x])))) (h7 : OwnRow w L7 5 A7 c7 (Dat.markR (m + 1 + (Dat.cntR (x1.map (fun x => [Dat.str x])) : Nat) + (Dat.cntR (x2.map (fun x => [Dat.str x])) : Nat) + 1 + 1 + 1 + 1) (x7.map TExpr.D))) : Dat.OwnVals w (L1 ++ (L2 ++ L7)) (Dat.markC m (TProcedure.mk x0 x1 x2 x3 x4 x5 x6 x7 x8).D) [.string (markT (m)), .slice A1 x1.length c1, .slice A2 x2.length c2, .int .i64 (m + 1 + (Dat.cntR (x1.map (fun x => [Dat.str x])) : Nat) + (Dat.cntR (x2.map (fun x => [Dat.str x])) : Nat)), .string (markT (m + 1 + (Dat.cntR (x1.map (fun x => [Dat.str x])) : Nat) + (Dat.cntR (x2.map (fun x => [Dat.str x])) : Nat) + 1)), .int .i64 (m + 1 + (Dat.cntR (x1.map (fun x => [Dat.str x])) : Nat) + (Dat.cntR (x2.map (fun x => [Dat.str x])) : Nat) + 1 + 1), .int .i64 (m + 1 + (Dat.cntR (x1.map (fun x => [Dat.str x])) : Nat) + (Dat.cntR (x2.map (fun x => [Dat.str x])) : Nat) + 1 + 1 + 1), .slice A7 x7.length c7, .int .i64 (m + 1 + (Dat.cntR (x1.map (fun x => [Dat.str x])) : Nat) + (Dat.cntR (x2.map (fun x => [Dat.str x])) : Nat) + 1 + 1 + 1 + 1 + (Dat.cntR (x7.map TExpr.D) : Nat))] := by
 have e : Dat.markC m (TProcedure.mk x0 x1 x2 x3 x4 x5 x6 x7 x8).D = [.str (markT (m)), .row 1 (Dat.markR (m + 1) (x1.map (fun x => [Dat.str x]))), .row 1 (Dat.markR (m + 1 + (Dat.cntR (x1.map (fun x => [Dat.str x])) : Nat)) (x2.map (fun x => [Dat.str x]))), .int (m + 1 + (Dat.cntR (x1.map (fun x => [Dat.str x])) : Nat) + (Dat.cntR (x2.map (fun x => [Dat.str x])) : Nat)), .str (markT (m + 1 + (Dat.cntR (x1.map (fun x => [Dat.str x])) : Nat) + (Dat.cntR (x2.map (fun x => [Dat.str x])) : Nat) + 1)), .int (m + 1 + (Dat.cntR (x1.map (fun x => [Dat.str x])) : Nat) + (Dat.cntR (x2.map (fun x => [Dat.str x])) : Nat) + 1 + 1), .int (m + 1 + (Dat.cntR (x1.map (fun x => [Dat.str x])) : Nat) + (Dat.cntR (x2.map (fun x => [Dat.str x])) : Nat) + 1 + 1 + 1), .row 5 (Dat.markR (m + 1 + (Dat.cntR (x1.map (fun x => [Dat.str x])) : Nat) + (Dat.cntR (x2.map (fun x => [Dat.str x])) : Nat) + 1 + 1 + 1 + 1) (x7.map TExpr.D)), .int (m + 1 + (Dat.cntR (x1.map (fun x => [Dat.str x])) : Nat) + (Dat.cntR (x2.map (fun x => [Dat.str x])) : Nat) + 1 + 1 + 1 + 1 + (Dat.cntR (x7.map TExpr.D) : Nat))] := by
  simp only [TProcedure.D_mk, Dat.markC, Dat.mark, Dat.cnt]
  first | done | rfl | (simp only [Nat.cast_one]; done) | (simp; done) | (push_cast; simp)
 rw [e]
 exact ⟨[], _, (List.nil_append _).symm, Dat.own_str.2 ⟨rfl, rfl, Nat.le_trans (markT_size _) (by unfold maxLen; omega)⟩, ⟨L1, _, rfl, Dat.own_row.2 ⟨_, _, by simp only [Dat.markR_length, List.length_map], h1⟩, ⟨L2, _, rfl, Dat.own_row.2 ⟨_, _, by simp only [Dat.markR_length, List.length_map], h2⟩, ⟨[], _, (List.nil_append _).symm, Dat.own_int.2 ⟨rfl, rfl, InI.of_le (by omega) (by omega)⟩, ⟨[], _, (List.nil_append _).symm, Dat.own_str.2 ⟨rfl, rfl, Nat.le_trans (markT_size _) (by unfold maxLen; omega)⟩, ⟨[], _, (List.nil_append _).symm, Dat.own_int.2 ⟨rfl, rfl, InI.of_le (by omega) (by omega)⟩, ⟨[], _, (List.nil_append _).symm, Dat.own_int.2 ⟨rfl, rfl, InI.of_le (by omega) (by omega)⟩, ⟨L7, _, (List.append_nil _).symm, Dat.own_row.2 ⟨_, _, by simp only [Dat.markR_length, List.length_map], h7⟩, ⟨[], _, (List.nil_append _).symm, Dat.own_int.2 ⟨rfl, rfl, InI.of_le (by omega) (by omega)⟩, rfl⟩⟩⟩⟩⟩⟩⟩⟩⟩
theorem TProcedure.mcnt_le : ∀ t : TProcedure, Dat.cntC t.D ≤ 16 + 16 * Dat.wtL t.D := by
 rintro ⟨x0, x1, x2, x3, x4, x5, x6, x7, x8⟩
 have r1 := cntR_le_of (fun x => [Dat.str x]) x1 (fun i hi => by simp [Dat.cntC, Dat.cnt]; omega)
 have r2 := cntR_le_of (fun x => [Dat.str x]) x2 (fun i hi => by simp [Dat.cntC, Dat.cnt]; omega)
 have r7 := cntR_le_of TExpr.D x7 (fun i hi => TExpr.mcnt_le x7[i])
 rw [TProcedure.cnt_mk, TProcedure.D_mk]
 simp only [Dat.wtL, Dat.wt, List.length_map]
 omega
theorem TProcedure.mark_vals {w : World} {S : Nat → Prop} {m : Int} {x0 : ByteArray} {x1 : List ByteArray} {x2 : List ByteArray} {x3 : Int} {x4 : ByteArray} {x5 : Int} {x6 : Int} {x7 : List TExpr} {x8 : Int} {vs : List Value} (h : Dat.HoldVals w S (Dat.markC m (TProcedure.mk x0 x1 x2 x3 x4 x5 x6 x7 x8).D) vs) : ∃ A1 c1 A2 c2 A7 c7, vs = [.string (markT (m)), .slice A1 x1.length c1, .slice A2 x2.length c2, .int .i64 (m + 1 + (Dat.cntR (x1.map (fun x => [Dat.str x])) : Nat) + (Dat.cntR (x2.map (fun x => [Dat.str x])) : Nat)), .string (markT (m + 1 + (Dat.cntR (x1.map (fun x => [Dat.str x])) : Nat) + (Dat.cntR (x2.map (fun x => [Dat.str x])) : Nat) + 1)), .int .i64 (m + 1 + (Dat.cntR (x1.map (fun x => [Dat.str x])) : Nat) + (Dat.cntR (x2.map (fun x => [Dat.str x])) : Nat) + 1 + 1), .int .i64 (m + 1 + (Dat.cntR (x1.map (fun x => [Dat.str x])) : Nat) + (Dat.cntR (x2.map (fun x => [Dat.str x])) : Nat) + 1 + 1 + 1), .slice A7 x7.length c7, .int .i64 (m + 1 + (Dat.cntR (x1.map (fun x => [Dat.str x])) : Nat) + (Dat.cntR (x2.map (fun x => [Dat.str x])) : Nat) + 1 + 1 + 1 + 1 + (Dat.cntR (x7.map TExpr.D) : Nat))] ∧ Row w S 1 A1 c1 (Dat.markR (m + 1) (x1.map (fun x => [Dat.str x]))) ∧ Row w S 1 A2 c2 (Dat.markR (m + 1 + (Dat.cntR (x1.map (fun x => [Dat.str x])) : Nat)) (x2.map (fun x => [Dat.str x]))) ∧ Row w S 5 A7 c7 (Dat.markR (m + 1 + (Dat.cntR (x1.map (fun x => [Dat.str x])) : Nat) + (Dat.cntR (x2.map (fun x => [Dat.str x])) : Nat) + 1 + 1 + 1 + 1) (x7.map TExpr.D)) := by
 have e : Dat.markC m (TProcedure.mk x0 x1 x2 x3 x4 x5 x6 x7 x8).D = [.str (markT (m)), .row 1 (Dat.markR (m + 1) (x1.map (fun x => [Dat.str x]))), .row 1 (Dat.markR (m + 1 + (Dat.cntR (x1.map (fun x => [Dat.str x])) : Nat)) (x2.map (fun x => [Dat.str x]))), .int (m + 1 + (Dat.cntR (x1.map (fun x => [Dat.str x])) : Nat) + (Dat.cntR (x2.map (fun x => [Dat.str x])) : Nat)), .str (markT (m + 1 + (Dat.cntR (x1.map (fun x => [Dat.str x])) : Nat) + (Dat.cntR (x2.map (fun x => [Dat.str x])) : Nat) + 1)), .int (m + 1 + (Dat.cntR (x1.map (fun x => [Dat.str x])) : Nat) + (Dat.cntR (x2.map (fun x => [Dat.str x])) : Nat) + 1 + 1), .int (m + 1 + (Dat.cntR (x1.map (fun x => [Dat.str x])) : Nat) + (Dat.cntR (x2.map (fun x => [Dat.str x])) : Nat) + 1 + 1 + 1), .row 5 (Dat.markR (m + 1 + (Dat.cntR (x1.map (fun x => [Dat.str x])) : Nat) + (Dat.cntR (x2.map (fun x => [Dat.str x])) : Nat) + 1 + 1 + 1 + 1) (x7.map TExpr.D)), .int (m + 1 + (Dat.cntR (x1.map (fun x => [Dat.str x])) : Nat) + (Dat.cntR (x2.map (fun x => [Dat.str x])) : Nat) + 1 + 1 + 1 + 1 + (Dat.cntR (x7.map TExpr.D) : Nat))] := by
  simp only [TProcedure.D_mk, Dat.markC, Dat.mark, Dat.cnt]
  first | done | rfl | (simp only [Nat.cast_one]; done) | (simp; done) | (push_cast; simp)
 rw [e] at h
 have hl := h.length
 obtain ⟨u0, u1, u2, u3, u4, u5, u6, u7, u8, rfl⟩ := lst9 (hl.trans rfl)
 clear hl
 simp only [Dat.HoldVals] at h
 obtain ⟨h0, h1, h2, h3, h4, h5, h6, h7, h8, -⟩ := h
 obtain ⟨rfl, -⟩ := Dat.holds_str.1 h0
 obtain ⟨A1, c1, rfl, g1⟩ := Dat.holds_row.1 h1
 obtain ⟨A2, c2, rfl, g2⟩ := Dat.holds_row.1 h2
 obtain ⟨rfl, -⟩ := Dat.holds_int.1 h3
 obtain ⟨rfl, -⟩ := Dat.holds_str.1 h4
 obtain ⟨rfl, -⟩ := Dat.holds_int.1 h5
 obtain ⟨rfl, -⟩ := Dat.holds_int.1 h6
 obtain ⟨A7, c7, rfl, g7⟩ := Dat.holds_row.1 h7
 obtain ⟨rfl, -⟩ := Dat.holds_int.1 h8
 exact ⟨A1, c1, A2, c2, A7, c7, by simp only [Dat.markR_length, List.length_map], g1, g2, g7⟩
set_option maxHeartbeats 2000000 in
theorem markProcedureS_any (ks : List TProcedure) (L : List Nat) (w : World) (A : Option Addr) (c : Nat) (k : Int) (hR : OwnRow w L 9 A c (ks.map TProcedure.D)) (hnd : L.Nodup) (h0 : 0 ≤ k) (hb : k + (Dat.cntR (ks.map TProcedure.D) : Nat) ≤ 4611686018427387904) :
    Calls Tryd.prog 43 #[.slice A ks.length c, .int .i64 k] w (Marked w L 9 A c k (ks.map TProcedure.D)) := by
  have HR := hide hR
  have HN := hide hnd
  have hlen := hR.1
  have hcm := hR.2.1
  simp only [List.length_map] at hlen
  unfold maxLen at hcm
  clear hR hnd
  go_enter Tryd.func43, Tryd.ntmps43
  go_wp2_with (fail)
  go_loopw [1, 5] (fun kv iv wr => ∃ i : Nat, i ≤ ks.length ∧ iv = .int .i64 i ∧ kv = .int .i64 (k + (Dat.cntR ((ks.map TProcedure.D).take i) : Nat)) ∧ Hid (OwnRow wr L 9 A c (Dat.markTo k i (ks.map TProcedure.D))) ∧ OffS (fun x => x ∉ L) w wr) (fun _ iv _ => ks.length - (intOf iv).toNat)
  case atStart => exact ⟨0, Nat.zero_le _, rfl, by simp [Dat.cntR], (by rw [Dat.markTo_zero]; exact HR.out), osl⟩
  case round =>
    obtain ⟨i, hi, rfl, rfl, hO, hoff⟩ := hrel
    rcases Nat.lt_or_ge i ks.length with hlt | hge
    · have hd : decide ((i : Int) < (ks.length : Int)) = true := by simp; omega
      have hi0 : 0 ≤ (i : Int) := by omega
      have hi1 : (i : Int) < (ks.length : Int) := by omega
      obtain ⟨x0, x1, x2, x3, x4, x5, x6, x7, x8, hx⟩ : ∃ x0 x1 x2 x3 x4 x5 x6 x7 x8, ks[i] = .mk x0 x1 x2 x3 x4 x5 x6 x7 x8 := by cases ks[i]; exact ⟨_, _, _, _, _, _, _, _, _, rfl⟩
      have HX := hide hx
      have ht := Dat.cntR_take (ks.map TProcedure.D) i (by simpa using hlt)
      have hle := Dat.cntR_le (ks.map TProcedure.D) (i + 1)
      simp only [List.getElem_map, hx, TProcedure.cnt_mk] at ht
      obtain ⟨q1, hq1⟩ : ∃ q, Dat.cntR (x1.map (fun x => [Dat.str x])) = q := ⟨_, rfl⟩
      obtain ⟨q2, hq2⟩ : ∃ q, Dat.cntR (x2.map (fun x => [Dat.str x])) = q := ⟨_, rfl⟩
      obtain ⟨q7, hq7⟩ : ∃ q, Dat.cntR (x7.map TExpr.D) = q := ⟨_, rfl⟩
      simp only [hq1, hq2, hq7] at ht
      obtain ⟨m, hm⟩ : ∃ m : Int, k + (Dat.cntR ((ks.map TProcedure.D).take i) : Nat) = m := ⟨_, rfl⟩
      have hm0 : 0 ≤ m := by omega
      have hm1 : m + 6 + (q1 : Nat) + (q2 : Nat) + (q7 : Nat) ≤ 4611686018427387904 := by omega
      have HE := hide (show k + (Dat.cntR ((ks.map TProcedure.D).take (i + 1)) : Nat) = m + 6 + (q1 : Nat) + (q2 : Nat) + (q7 : Nat) by omega)
      rw [hm]
      have HM := hide hm
      have HQ1 := hide hq1
      have HQ2 := hide hq2
      have HQ7 := hide hq7
      obtain ⟨b, o, L1, Le, L2, vs, rfl, hb1, hf1, hLe, hv, hvl, hc, hput⟩ := OwnRow.at hO.out i (by rw [Dat.markTo_length]; simpa using hlt)
      rw [Dat.markTo_get k i _ (by simpa using hlt), List.getElem_map, hx] at hv
      obtain ⟨A1, c1, L_1, A2, c2, L_2, A7, c7, L_7, hEL, rfl, g0, g1, g2, g3, g4, g5, g6, g7, g8⟩ := TProcedure.vals_own hv
      have hEL2 := hEL.symm
      clear hEL
      subst hEL2
      have z0 : wr.cell? ⟨b, o + i * 9, none⟩ = some (.string x0) := by simpa using hc 0 (by decide)
      have z1 : wr.cell? ⟨b, o + i * 9 + 1, none⟩ = some (.slice A1 x1.length c1) := by simpa using hc 1 (by decide)
      have z2 : wr.cell? ⟨b, o + i * 9 + 2, none⟩ = some (.slice A2 x2.length c2) := by simpa using hc 2 (by decide)
      have z3 : wr.cell? ⟨b, o + i * 9 + 3, none⟩ = some (.int .i64 x3) := by simpa using hc 3 (by decide)
      have z4 : wr.cell? ⟨b, o + i * 9 + 4, none⟩ = some (.string x4) := by simpa using hc 4 (by decide)
      have z5 : wr.cell? ⟨b, o + i * 9 + 5, none⟩ = some (.int .i64 x5) := by simpa using hc 5 (by decide)
      have z6 : wr.cell? ⟨b, o + i * 9 + 6, none⟩ = some (.int .i64 x6) := by simpa using hc 6 (by decide)
      have z7 : wr.cell? ⟨b, o + i * 9 + 7, none⟩ = some (.slice A7 x7.length c7) := by simpa using hc 7 (by decide)
      have z8 : wr.cell? ⟨b, o + i * 9 + 8, none⟩ = some (.int .i64 x8) := by simpa using hc 8 (by decide)
      obtain ⟨hbL, hLeL, hbLe, hnLe, hrest⟩ := own_parts hLe HN.out
      have hNN := hnLe
      have HNL1 := hide (List.nodup_append.1 hnLe).1
      have hdd1 := (List.nodup_append.1 hnLe).2.2
      have hnn1 := (List.nodup_append.1 hnLe).2.1
      have HNL2 := hide (List.nodup_append.1 hnn1).1
      have hdd2 := (List.nodup_append.1 hnn1).2.2
      have hnn2 := (List.nodup_append.1 hnn1).2.1
      have HNL7 := hide hnn2
      have HI1 := hide (show ∀ x, x ∈ L_1 → x ∈ (L_1 ++ (L_2 ++ L_7)) from fun x h => by simp [h])
      have hb_1 : b ∉ L_1 := fun h => hbLe (HI1.out b h)
      have HI2 := hide (show ∀ x, x ∈ L_2 → x ∈ (L_1 ++ (L_2 ++ L_7)) from fun x h => by simp [h])
      have hb_2 : b ∉ L_2 := fun h => hbLe (HI2.out b h)
      have HI7 := hide (show ∀ x, x ∈ L_7 → x ∈ (L_1 ++ (L_2 ++ L_7)) from fun x h => by simp [h])
      have hb_7 : b ∉ L_7 := fun h => hbLe (HI7.out b h)
      have HD1_2 := hide (show ∀ x, x ∈ L_1 → x ∉ L_2 from fun x h h2 => hdd1 x h x (by simp [h2]) rfl)
      have HD2_1 := hide (show ∀ x, x ∈ L_2 → x ∉ L_1 from fun x h h2 => HD1_2.out x h2 h)
      have HD1_7 := hide (show ∀ x, x ∈ L_1 → x ∉ L_7 from fun x h h2 => hdd1 x h x (by simp [h2]) rfl)
      have HD7_1 := hide (show ∀ x, x ∈ L_7 → x ∉ L_1 from fun x h h2 => HD1_7.out x h2 h)
      have HD2_7 := hide (show ∀ x, x ∈ L_2 → x ∉ L_7 from fun x h h2 => hdd2 x h x (by simp [h2]) rfl)
      have HD7_2 := hide (show ∀ x, x ∈ L_7 → x ∉ L_2 from fun x h h2 => HD2_7.out x h2 h)
      have G1 := hide g1
      have G2 := hide g2
      have G7 := hide g7
      unfold maxLen at g0
      unfold maxLen at g4
      have HP := hide hput
      have HLe := hide hLe
      have HL2 := hide hLeL
      have HRS := hide hrest
      clear hv hc hx ht hle hm hq1 hq2 hq7 hdd1 hnn1 hdd2 hnn2 hNN hnLe g1 g2 g7 hput hLe hLeL hrest
      go_wp2_with (fail)
      refine (markText_any _ _ (by omega) (by omega)).mono ?_
      rintro e w1 ⟨rfl, hb101⟩
      have hz1 := hb101.size
      (try simp only [World.size_alloc, World.size_setCell, World.size_drew, World.heap_drewN] at hz1)
      have hk1 := hb101.box b (by first | (simp; done) | (simp; omega) | omega)
      have hf_1 := hb101.boxf b (by first | (simp; done) | (simp; omega) | omega)
      have hl1 : b < w1.heap.size := by omega
      go_wp2_with (fail)
      refine (markStringS_any x1 L_1 _ A1 c1 _ (OwnRow.offS (S := fun x => x ∈ L_1) (w := wr) osl (fun x hx => hx) G1.out) HNL1.out (by omega) (by rw [HQ1.out]; omega)).mono ?_
      rintro e w2 ⟨rfl, hO1, ho2⟩
      rw [HQ1.out]
      have HO1 := hide hO1
      clear hO1
      have hz2 := ho2.size
      (try simp only [World.size_alloc, World.size_setCell, World.size_drew, World.heap_drewN] at hz2)
      have hss2 := ho2.same b hb_1 (by first | (simp; done) | (simp; omega) | omega)
      have hk2 := hss2.1
      have hf_2 := hss2.2
      have hl2 : b < w2.heap.size := by omega
      have hoL2 := OffS.narrow (S' := fun x => x ∉ L) ho2 (fun x hx h => hx (HL2.out x (HI1.out x h)))
      have hoE2 := OffS.narrow (S' := fun x => x ∉ (L_1 ++ (L_2 ++ L_7)) ∧ x ≠ b) ho2 (fun x hx h => hx.1 (HI1.out x h))
      have ho2_2 := OffS.narrow (S' := fun x => x ∈ L_2) ho2 (fun x hx => HD2_1.out x hx)
      have ho2_7 := OffS.narrow (S' := fun x => x ∈ L_7) ho2 (fun x hx => HD7_1.out x hx)
      clear hss2 ho2
      go_wp2_with (fail)
      refine (markStringS_any x2 L_2 _ A2 c2 _ (OwnRow.offS (S := fun x => x ∈ L_2) (w := wr) osl (fun x hx => hx) G2.out) HNL2.out (by omega) (by rw [HQ2.out]; omega)).mono ?_
      rintro e w3 ⟨rfl, hO2, ho3⟩
      rw [HQ2.out]
      have HO2 := hide hO2
      clear hO2
      have hz3 := ho3.size
      (try simp only [World.size_alloc, World.size_setCell, World.size_drew, World.heap_drewN] at hz3)
      have hss3 := ho3.same b hb_2 (by first | (simp; done) | (simp; omega) | omega)
      have hk3 := hss3.1
      have hf_3 := hss3.2
      have hl3 : b < w3.heap.size := by omega
      have hoL3 := OffS.narrow (S' := fun x => x ∉ L) ho3 (fun x hx h => hx (HL2.out x (HI2.out x h)))
      have hoE3 := OffS.narrow (S' := fun x => x ∉ (L_1 ++ (L_2 ++ L_7)) ∧ x ≠ b) ho3 (fun x hx h => hx.1 (HI2.out x h))
      have ho3_1 := OffS.narrow (S' := fun x => x ∈ L_1) ho3 (fun x hx => HD1_2.out x hx)
      have ho3_7 := OffS.narrow (S' := fun x => x ∈ L_7) ho3 (fun x hx => HD7_2.out x hx)
      clear hss3 ho3
      go_wp2_with (fail)
      refine (markText_any _ _ (by omega) (by omega)).mono ?_
      rintro e w4 ⟨rfl, hb104⟩
      have hz4 := hb104.size
      (try simp only [World.size_alloc, World.size_setCell, World.size_drew, World.heap_drewN] at hz4)
      have hk4 := hb104.box b (by first | (simp; done) | (simp; omega) | omega)
      have hf_4 := hb104.boxf b (by first | (simp; done) | (simp; omega) | omega)
      have hl4 : b < w4.heap.size := by omega
      go_wp2_with (fail)
      refine (markExprS_any x7 L_7 _ A7 c7 _ (OwnRow.offS (S := fun x => x ∈ L_7) (w := wr) osl (fun x hx => hx) G7.out) HNL7.out (by omega) (by rw [HQ7.out]; omega)).mono ?_
      rintro e w5 ⟨rfl, hO7, ho5⟩
      rw [HQ7.out]
      have HO7 := hide hO7
      clear hO7
      have hz5 := ho5.size
      (try simp only [World.size_alloc, World.size_setCell, World.size_drew, World.heap_drewN] at hz5)
      have hss5 := ho5.same b hb_7 (by first | (simp; done) | (simp; omega) | omega)
      have hk5 := hss5.1
      have hf_5 := hss5.2
      have hl5 : b < w5.heap.size := by omega
      have hoL5 := OffS.narrow (S' := fun x => x ∉ L) ho5 (fun x hx h => hx (HL2.out x (HI7.out x h)))
      have hoE5 := OffS.narrow (S' := fun x => x ∉ (L_1 ++ (L_2 ++ L_7)) ∧ x ≠ b) ho5 (fun x hx h => hx.1 (HI7.out x h))
      have ho5_1 := OffS.narrow (S' := fun x => x ∈ L_1) ho5 (fun x hx => HD1_7.out x hx)
      have ho5_2 := OffS.narrow (S' := fun x => x ∈ L_2) ho5 (fun x hx => HD2_7.out x hx)
      clear hss5 ho5
      go_wp2_with (fail)
      go_roundw
      case rel =>
       refine ⟨i + 1, by omega, by go_num, by rw [HE.out]; first | done | go_num, ?_, osl⟩
       rw [← Dat.markTo_succ k i _ (by simpa using hlt)]
       refine hide ?_
       rw [List.getElem_map, HX.out, HM.out]
       refine HP.out _ _ [.string (markT (m)), .slice A1 x1.length c1, .slice A2 x2.length c2, .int .i64 (m + 1 + (q1 : Nat) + (q2 : Nat)), .string (markT (m + 1 + (q1 : Nat) + (q2 : Nat) + 1)), .int .i64 (m + 1 + (q1 : Nat) + (q2 : Nat) + 1 + 1), .int .i64 (m + 1 + (q1 : Nat) + (q2 : Nat) + 1 + 1 + 1), .slice A7 x7.length c7, .int .i64 (m + 1 + (q1 : Nat) + (q2 : Nat) + 1 + 1 + 1 + 1 + (q7 : Nat))] (by (try simp only [← HQ1.out, ← HQ2.out, ← HQ7.out]); exact TProcedure.mark_own (m := m) (x0 := x0) (x1 := x1) (x2 := x2) (x3 := x3) (x4 := x4) (x5 := x5) (x6 := x6) (x7 := x7) (x8 := x8) (A1 := A1) (c1 := c1) (L1 := L_1) (A2 := A2) (c2 := c2) (L2 := L_2) (A7 := A7) (c7 := c7) (L7 := L_7) hm0 (by (try simp only [HQ1.out, HQ2.out, HQ7.out]); omega) (by (try simp only [HQ1.out, HQ2.out, HQ7.out]); exact OwnRow.offS (S := fun x => x ∈ L_1) (w := w2) osl (fun x hx => hx) HO1.out) (by (try simp only [HQ1.out, HQ2.out, HQ7.out]); exact OwnRow.offS (S := fun x => x ∈ L_2) (w := w3) osl (fun x hx => hx) HO2.out) (by (try simp only [HQ1.out, HQ2.out, HQ7.out]); exact OwnRow.offS (S := fun x => x ∈ L_7) (w := w5) osl (fun x hx => hx) HO7.out)) rfl (by (try simp only [World.size_alloc, World.size_setCell, World.size_drew, World.heap_drewN]); omega) (fun z hz => ?_) (fun z => by simp [go_sem, hk1, hf_1, hk2, hf_2, hk3, hf_3, hk4, hf_4, hk5, hf_5, hf1]) (fun z hz => ?_) (cells_of9 (by simp [go_sem, hk1, hf_1, hk2, hf_2, hk3, hf_3, hk4, hf_4, hk5, hf_5, z0, z1, z2, z3, z4, z5, z6, z7, z8]) (by simp [go_sem, hk1, hf_1, hk2, hf_2, hk3, hf_3, hk4, hf_4, hk5, hf_5, z0, z1, z2, z3, z4, z5, z6, z7, z8]) (by simp [go_sem, hk1, hf_1, hk2, hf_2, hk3, hf_3, hk4, hf_4, hk5, hf_5, z0, z1, z2, z3, z4, z5, z6, z7, z8]) (by simp [go_sem, hk1, hf_1, hk2, hf_2, hk3, hf_3, hk4, hf_4, hk5, hf_5, z0, z1, z2, z3, z4, z5, z6, z7, z8]) (by simp [go_sem, hk1, hf_1, hk2, hf_2, hk3, hf_3, hk4, hf_4, hk5, hf_5, z0, z1, z2, z3, z4, z5, z6, z7, z8]) (by simp [go_sem, hk1, hf_1, hk2, hf_2, hk3, hf_3, hk4, hf_4, hk5, hf_5, z0, z1, z2, z3, z4, z5, z6, z7, z8]) (by simp [go_sem, hk1, hf_1, hk2, hf_2, hk3, hf_3, hk4, hf_4, hk5, hf_5, z0, z1, z2, z3, z4, z5, z6, z7, z8]) (by simp [go_sem, hk1, hf_1, hk2, hf_2, hk3, hf_3, hk4, hf_4, hk5, hf_5, z0, z1, z2, z3, z4, z5, z6, z7, z8]) (by simp [go_sem, hk1, hf_1, hk2, hf_2, hk3, hf_3, hk4, hf_4, hk5, hf_5, z0, z1, z2, z3, z4, z5, z6, z7, z8]))
       · exact OffS.same (S := fun x => x ∉ (L_1 ++ (L_2 ++ L_7)) ∧ x ≠ b) (w := wr) osl z ⟨(HRS.out z hz).1, (HRS.out z hz).2.1⟩ (hO.out.lt z (HRS.out z hz).2.2)
       · have n0 : z ≠ o + i * 9 := by omega
         have n1 : z ≠ o + i * 9 + 1 := by omega
         have n2 : z ≠ o + i * 9 + 2 := by omega
         have n3 : z ≠ o + i * 9 + 3 := by omega
         have n4 : z ≠ o + i * 9 + 4 := by omega
         have n5 : z ≠ o + i * 9 + 5 := by omega
         have n6 : z ≠ o + i * 9 + 6 := by omega
         have n7 : z ≠ o + i * 9 + 7 := by omega
         have n8 : z ≠ o + i * 9 + 8 := by omega
         simp [go_sem, hk1, hf_1, hk2, hf_2, hk3, hf_3, hk4, hf_4, hk5, hf_5, n0, n1, n2, n3, n4, n5, n6, n7, n8]
      case measure => simp [intOf]; omega
    · have hd : decide ((i : Int) < (ks.length : Int)) = false := by simp; omega
      obtain rfl : i = ks.length := by omega
      have HO2 := hide (show OwnRow wr L 9 A c (Dat.markR k (ks.map TProcedure.D)) from by have := hO.out; rw [Dat.markTo_all _ _ _ (by simp)] at this; exact this)
      go_wp2_with (fail)
      go_returns
      rw [List.take_of_length_le (by simp)]
      exact ⟨rfl, HO2.out, hoff⟩
end Go.Proofs.YtjodcciloflgbaaDoor
