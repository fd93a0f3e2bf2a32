/- Own data of Unit: copies, marks. -/
import Derived.Test.YtjodcciloflgbaaDoorPHUnit
import Derived.Test.YtjodcciloflgbaaDoorPOw
import Derived.Test.YtjodcciloflgbaaDoorPMProcedure
import Derived.Test.YtjodcciloflgbaaDoorPMExpr
namespace Go.Proofs.YtjodcciloflgbaaDoor
set_option linter.unusedVariables false
set_option linter.unusedSimpArgs false
set_option maxRecDepth 100000
open Go.RowKit
theorem TUnit.vals_own {w : World} {L : List Nat} {x0 : List TRecordType} {x1 : List ByteArray} {x2 : List TProcedure} {vs : List Value} (h : Dat.OwnVals w L (TUnit.mk x0 x1 x2).D vs) : ∃ A0 c0 L0 A1 c1 L1 A2 c2 L2, L = L0 ++ (L1 ++ L2) ∧ vs = [.slice A0 x0.length c0, .slice A1 x1.length c1, .slice A2 x2.length c2] ∧ OwnRow w L0 3 A0 c0 (x0.map TRecordType.D) ∧ OwnRow w L1 1 A1 c1 (x1.map (fun x => [Dat.str x])) ∧ OwnRow w L2 9 A2 c2 (x2.map TProcedure.D) := by
 rw [TUnit.D_mk] at h
 have hl := h.length
 match vs, hl, h with
 | [u0, u1, u2], _, h =>
 simp only [Dat.OwnVals] at h
 obtain ⟨M0, N0, e0, h0, M1, N1, e1, h1, M2, N2, e2, h2, en⟩ := h
 subst en
 subst e2
 subst e1
 subst e0
 obtain ⟨A0, c0, rfl, g0⟩ := Dat.own_row.1 h0
 obtain ⟨A1, c1, rfl, g1⟩ := Dat.own_row.1 h1
 obtain ⟨A2, c2, rfl, g2⟩ := Dat.own_row.1 h2
 exact ⟨A0, c0, M0, A1, c1, M1, A2, c2, M2, by simp only [List.nil_append, List.append_nil], by simp only [List.length_map], g0, g1, g2⟩
theorem TUnit.own_mk {w : World} {x0 : List TRecordType} {x1 : List ByteArray} {x2 : List TProcedure} {A0 : Option Addr} {c0 : Nat} {L0 : List Nat} {A1 : Option Addr} {c1 : Nat} {L1 : List Nat} {A2 : Option Addr} {c2 : Nat} {L2 : List Nat} (h0 : OwnRow w L0 3 A0 c0 (x0.map TRecordType.D)) (h1 : OwnRow w L1 1 A1 c1 (x1.map (fun x => [Dat.str x]))) (h2 : OwnRow w L2 9 A2 c2 (x2.map TProcedure.D)) : Dat.OwnVals w (L0 ++ (L1 ++ L2)) (TUnit.mk x0 x1 x2).D [.slice A0 x0.length c0, .slice A1 x1.length c1, .slice A2 x2.length c2] := by
 rw [TUnit.D_mk]
 exact ⟨L0, _, rfl, Dat.own_row.2 ⟨_, _, by simp only [List.length_map], h0⟩, ⟨L1, _, rfl, Dat.own_row.2 ⟨_, _, by simp only [List.length_map], h1⟩, ⟨L2, _, (List.append_nil _).symm, Dat.own_row.2 ⟨_, _, by simp only [List.length_map], h2⟩, rfl⟩⟩⟩
def ToUnitL (t : TUnit) : Prop := ∀ (S : Nat → Prop) (w : World) (vs : List Value), Dat.HoldVals w S t.D vs → Dat.wtL t.D ≤ 1048576 →
 Calls Tryd.prog 8 #[.agg vs.toArray] w (MadeVL w t.D)
set_option maxHeartbeats 2000000 in
theorem toUnitL_any : ∀ t : TUnit, ToUnitL t := by
 rintro ⟨x0, x1, x2⟩
 intro S w vs hv hwt
 obtain ⟨A0, c0, A1, c1, A2, c2, rfl, hR0, hR1, hR2⟩ := TUnit.vals hv
 have R0 := hide hR0
 have R1 := hide hR1
 have R2 := hide hR2
 rw [TUnit.D_mk] at hwt
 simp only [Dat.wtL, Dat.wt, List.length_map] at hwt
 have hw0 : x0.length + Dat.wtR (x0.map TRecordType.D) ≤ 1048576 := by omega
 have hw1 : x1.length + Dat.wtR (x1.map (fun x => [Dat.str x])) ≤ 1048576 := by omega
 have hw2 : x2.length + Dat.wtR (x2.map TProcedure.D) ≤ 1048576 := by omega
 clear hv hwt hR0 hR1 hR2
 go_enter Tryd.func8, Tryd.ntmps8
 go_wp2_with (fail)
 refine (toRecordTypeSL_any x0 S _ _ _ (Row.bel bl R0.out) hw0).mono ?_
 rintro e w1 ⟨B0, d0, L0, rfl, hQ0, hN0, hL0, hb1⟩
 (have hz1 := hb1.sz; obtain ⟨hk1_0, hf1_0, hl1_0, hn1_0⟩ := hb1.lay (w.heap.size); obtain ⟨hk1_1, hf1_1, hl1_1, hn1_1⟩ := hb1.lay (w.heap.size + 1); obtain ⟨hk1_2, hf1_2, hl1_2, hn1_2⟩ := hb1.lay (w.heap.size + 1 + 1))
 have N0 := hide hN0
 have V0 := hide (show ∀ b, b ∈ L0 → w.heap.size + 2 < b from fun b hb => by have := hL0 b hb; (try simp only [World.size_alloc, World.size_setCell, World.size_drew, World.heap_drewN] at this); omega)
 have U0 := hide hL0
 have T0 := hide (hQ0.lt)
 have Q0 := hide hQ0
 clear hQ0 hN0 hL0
 go_wp2_with (fail)
 refine (toStringSL_any x1 S _ _ _ (Row.bel bl R1.out) hw1).mono ?_
 rintro e w2 ⟨B1, d1, L1, rfl, hQ1, hN1, hL1, hb2⟩
 (have hz2 := hb2.sz; obtain ⟨hk2_0, hf2_0, hl2_0, hn2_0⟩ := hb2.lay (w.heap.size); obtain ⟨hk2_1, hf2_1, hl2_1, hn2_1⟩ := hb2.lay (w.heap.size + 1); obtain ⟨hk2_2, hf2_2, hl2_2, hn2_2⟩ := hb2.lay (w.heap.size + 1 + 1))
 have N1 := hide hN1
 have V1 := hide (show ∀ b, b ∈ L1 → w.heap.size + 2 < b from fun b hb => by have := hL1 b hb; (try simp only [World.size_alloc, World.size_setCell, World.size_drew, World.heap_drewN] at this); omega)
 have U1 := hide (show ∀ b, b ∈ L1 → w1.heap.size ≤ b from fun b hb => by have := hL1 b hb; (try simp only [World.size_alloc, World.size_setCell, World.size_drew, World.heap_drewN] at this); omega)
 have T1 := hide (hQ1.lt)
 have Q1 := hide hQ1
 clear hQ1 hN1 hL1
 go_wp2_with (fail)
 refine (toProcedureSL_any x2 S _ _ _ (Row.bel bl R2.out) hw2).mono ?_
 rintro e w3 ⟨B2, d2, L2, rfl, hQ2, hN2, hL2, hb3⟩
 (have hz3 := hb3.sz; obtain ⟨hk3_0, hf3_0, hl3_0, hn3_0⟩ := hb3.lay (w.heap.size); obtain ⟨hk3_1, hf3_1, hl3_1, hn3_1⟩ := hb3.lay (w.heap.size + 1); obtain ⟨hk3_2, hf3_2, hl3_2, hn3_2⟩ := hb3.lay (w.heap.size + 1 + 1))
 have N2 := hide hN2
 have V2 := hide (show ∀ b, b ∈ L2 → w.heap.size + 2 < b from fun b hb => by have := hL2 b hb; (try simp only [World.size_alloc, World.size_setCell, World.size_drew, World.heap_drewN] at this); omega)
 have U2 := hide (show ∀ b, b ∈ L2 → w2.heap.size ≤ b from fun b hb => by have := hL2 b hb; (try simp only [World.size_alloc, World.size_setCell, World.size_drew, World.heap_drewN] at this); omega)
 have T2 := hide (hQ2.lt)
 have Q2 := hide hQ2
 clear hQ2 hN2 hL2
 go_wp2_with (fail)
 exact bodyPost_ret (v := .agg #[.slice B0 x0.length d0, .slice B1 x1.length d1, .slice B2 x2.length d2]) (by simp [results, Tryd.results8, go_sem, hk1_1, hf1_1, hk1_2, hf1_2, hk2_1, hf2_1, hk2_2, hf2_2, hk3_1, hf3_1, hk3_2, hf3_2]) rfl
  ⟨[.slice B0 x0.length d0, .slice B1 x1.length d1, .slice B2 x2.length d2], L0 ++ (L1 ++ L2), rfl, TUnit.own_mk (OwnRow.offS (S := fun b => w.heap.size + 2 < b) osl (fun b hb => V0.out b hb) Q0.out) (OwnRow.offS (S := fun b => w.heap.size + 2 < b) osl (fun b hb => V1.out b hb) Q1.out) (OwnRow.offS (S := fun b => w.heap.size + 2 < b) osl (fun b hb => V2.out b hb) Q2.out), nodup_app_lt (n := w1.heap.size) N0.out (nodup_app_lt (n := w2.heap.size) N1.out (N2.out) (fun b hb => T1.out b hb) (fun b hb => by have := U2.out b hb; omega)) (fun b hb => T0.out b hb) (fun b hb => (List.mem_append.1 hb).elim (fun hb => by have := U1.out b hb; omega) (fun hb => by have := U2.out b hb; omega)), fun b hb => (List.mem_append.1 hb).elim (fun hb => by have := V0.out b hb; omega) (fun hb => (List.mem_append.1 hb).elim (fun hb => by have := V1.out b hb; omega) (fun hb => by have := V2.out b hb; omega)), bl⟩
theorem TUnit.cnt_mk {x0 : List TRecordType} {x1 : List ByteArray} {x2 : List TProcedure} : Dat.cntC (TUnit.mk x0 x1 x2).D = 0 + Dat.cntR (x0.map TRecordType.D) + Dat.cntR (x1.map (fun x => [Dat.str x])) + Dat.cntR (x2.map TProcedure.D) := by
 simp only [TUnit.D_mk, Dat.cntC, Dat.cnt]; (try omega)
theorem TUnit.mark_own {w : World} {m : Int} {x0 : List TRecordType} {x1 : List ByteArray} {x2 : List TProcedure} {A0 : Option Addr} {c0 : Nat} {L0 : List Nat} {A1 : Option Addr} {c1 : Nat} {L1 : List Nat} {A2 : Option Addr} {c2 : Nat} {L2 : List Nat} (h0 : 0 ≤ m) (hm : m + (0 + Dat.cntR (x0.map TRecordType.D) + Dat.cntR (x1.map (fun x => [Dat.str x])) + Dat.cntR (x2.map TProcedure.D) : Nat) ≤ 4611686018427387904) (h0 : OwnRow w L0 3 A0 c0 (Dat.markR (m) (x0.map TRecordType.D))) (h1 : OwnRow w L1 1 A1 c1 (Dat.markR (m + (Dat.cntR (x0.map TRecordType.D) : Nat)) (x1.map (fun x => [Dat.str x])))) (h2 : OwnRow w L2 9 A2 c2 (Dat.markR (m + (Dat.cntR (x0.map TRecordType.D) : Nat) + (Dat.cntR (x1.map (fun x => [Dat.str x])) : Nat)) (x2.map TProcedure.D))) : Dat.OwnVals w (L0 ++ (L1 ++ L2)) (Dat.markC m (TUnit.mk x0 x1 x2).D) [.slice A0 x0.length c0, .slice A1 x1.length c1, .slice A2 x2.length c2] := by
 have e : Dat.markC m (TUnit.mk x0 x1 x2).D = [.row 3 (Dat.markR (m) (x0.map TRecordType.D)), .row 1 (Dat.markR (m + (Dat.cntR (x0.map TRecordType.D) : Nat)) (x1.map (fun x => [Dat.str x]))), .row 9 (Dat.markR (m + (Dat.cntR (x0.map TRecordType.D) : Nat) + (Dat.cntR (x1.map (fun x => [Dat.str x])) : Nat)) (x2.map TProcedure.D))] := by
  simp only [TUnit.D_mk, Dat.markC, Dat.mark, Dat.cnt]
  first | done | rfl | (simp only [Nat.cast_one]; done) | (simp; done) | (push_cast; simp)
 rw [e]
 exact ⟨L0, _, rfl, Dat.own_row.2 ⟨_, _, by simp only [Dat.markR_length, List.length_map], h0⟩, ⟨L1, _, rfl, Dat.own_row.2 ⟨_, _, by simp only [Dat.markR_length, List.length_map], h1⟩, ⟨L2, _, (List.append_nil _).symm, Dat.own_row.2 ⟨_, _, by simp only [Dat.markR_length, List.length_map], h2⟩, rfl⟩⟩⟩
theorem TUnit.mcnt_le : ∀ t : TUnit, Dat.cntC t.D ≤ 16 + 16 * Dat.wtL t.D := by
 rintro ⟨x0, x1, x2⟩
 have r0 := cntR_le_of TRecordType.D x0 (fun i hi => TRecordType.mcnt_le x0[i])
 have r1 := cntR_le_of (fun x => [Dat.str x]) x1 (fun i hi => by simp [Dat.cntC, Dat.cnt]; omega)
 have r2 := cntR_le_of TProcedure.D x2 (fun i hi => TProcedure.mcnt_le x2[i])
 rw [TUnit.cnt_mk, TUnit.D_mk]
 simp only [Dat.wtL, Dat.wt, List.length_map]
 omega
theorem TUnit.mark_vals {w : World} {S : Nat → Prop} {m : Int} {x0 : List TRecordType} {x1 : List ByteArray} {x2 : List TProcedure} {vs : List Value} (h : Dat.HoldVals w S (Dat.markC m (TUnit.mk x0 x1 x2).D) vs) : ∃ A0 c0 A1 c1 A2 c2, vs = [.slice A0 x0.length c0, .slice A1 x1.length c1, .slice A2 x2.length c2] ∧ Row w S 3 A0 c0 (Dat.markR (m) (x0.map TRecordType.D)) ∧ Row w S 1 A1 c1 (Dat.markR (m + (Dat.cntR (x0.map TRecordType.D) : Nat)) (x1.map (fun x => [Dat.str x]))) ∧ Row w S 9 A2 c2 (Dat.markR (m + (Dat.cntR (x0.map TRecordType.D) : Nat) + (Dat.cntR (x1.map (fun x => [Dat.str x])) : Nat)) (x2.map TProcedure.D)) := by
 have e : Dat.markC m (TUnit.mk x0 x1 x2).D = [.row 3 (Dat.markR (m) (x0.map TRecordType.D)), .row 1 (Dat.markR (m + (Dat.cntR (x0.map TRecordType.D) : Nat)) (x1.map (fun x => [Dat.str x]))), .row 9 (Dat.markR (m + (Dat.cntR (x0.map TRecordType.D) : Nat) + (Dat.cntR (x1.map (fun x => [Dat.str x])) : Nat)) (x2.map TProcedure.D))] := by
  simp only [TUnit.D_mk, Dat.markC, Dat.mark, Dat.cnt]
  first | done | rfl | (simp only [Nat.cast_one]; done) | (simp; done) | (push_cast; simp)
 rw [e] at h
 match vs, h with
 | [u0, u1, u2], h =>
 simp only [Dat.HoldVals] at h
 obtain ⟨h0, h1, h2, -⟩ := h
 obtain ⟨A0, c0, rfl, g0⟩ := Dat.holds_row.1 h0
 obtain ⟨A1, c1, rfl, g1⟩ := Dat.holds_row.1 h1
 obtain ⟨A2, c2, rfl, g2⟩ := Dat.holds_row.1 h2
 exact ⟨A0, c0, A1, c1, A2, c2, by simp only [Dat.markR_length, List.length_map], g0, g1, g2⟩
set_option maxHeartbeats 2000000 in
theorem markUnit_any (t : TUnit) (L : List Nat) (w : World) (vs : List Value) (k : Int) (hv : Dat.OwnVals w L t.D vs) (hnd : L.Nodup) (h0 : 0 ≤ k) (hb : k + (Dat.cntC t.D : Nat) ≤ 4611686018427387904) :
  Calls Tryd.prog 16 #[.agg vs.toArray, .int .i64 k] w fun e w' => (∃ k' : Int, 0 ≤ k' ∧ e = .returned (.int .i64 k')) ∧ OffS (fun x => x ∉ L) w w' := by
 obtain ⟨x0, x1, x2⟩ := t
 rw [TUnit.cnt_mk] at hb
 obtain ⟨A0, c0, L_0, A1, c1, L_1, A2, c2, L_2, hLL, rfl, g0, g1, g2⟩ := TUnit.vals_own hv
 clear hv
 subst hLL
 obtain ⟨q0, hq0⟩ : ∃ q, Dat.cntR (x0.map TRecordType.D) = q := ⟨_, rfl⟩
 obtain ⟨q1, hq1⟩ : ∃ q, Dat.cntR (x1.map (fun x => [Dat.str x])) = q := ⟨_, rfl⟩
 obtain ⟨q2, hq2⟩ : ∃ q, Dat.cntR (x2.map TProcedure.D) = q := ⟨_, rfl⟩
 simp only [hq0, hq1, hq2] at hb
 have HNL0 := hide (List.nodup_append.1 hnd).1
 have hdd0 := (List.nodup_append.1 hnd).2.2
 have hnn0 := (List.nodup_append.1 hnd).2.1
 clear hnd
 have HNL1 := hide (List.nodup_append.1 hnn0).1
 have hdd1 := (List.nodup_append.1 hnn0).2.2
 have hnn1 := (List.nodup_append.1 hnn0).2.1
 clear hnn0
 have HNL2 := hide hnn1
 clear hnn1
 have HI0 := hide (show ∀ x, x ∈ L_0 → x ∈ (L_0 ++ (L_1 ++ L_2)) from fun x h => by simp [h])
 have hb_0 : w.heap.size ∉ L_0 := fun h => Nat.lt_irrefl _ (g0.lt _ h)
 have G0 := hide g0
 have HQ0 := hide hq0
 have HI1 := hide (show ∀ x, x ∈ L_1 → x ∈ (L_0 ++ (L_1 ++ L_2)) from fun x h => by simp [h])
 have hb_1 : w.heap.size ∉ L_1 := fun h => Nat.lt_irrefl _ (g1.lt _ h)
 have G1 := hide g1
 have HQ1 := hide hq1
 have HI2 := hide (show ∀ x, x ∈ L_2 → x ∈ (L_0 ++ (L_1 ++ L_2)) from fun x h => by simp [h])
 have hb_2 : w.heap.size ∉ L_2 := fun h => Nat.lt_irrefl _ (g2.lt _ h)
 have G2 := hide g2
 have HQ2 := hide hq2
 have HD0_1 := hide (show ∀ x, x ∈ L_0 → x ∉ L_1 from fun x h h2 => hdd0 x h x (by simp [h2]) rfl)
 have HD1_0 := hide (show ∀ x, x ∈ L_1 → x ∉ L_0 from fun x h h2 => HD0_1.out x h2 h)
 have HD0_2 := hide (show ∀ x, x ∈ L_0 → x ∉ L_2 from fun x h h2 => hdd0 x h x (by simp [h2]) rfl)
 have HD2_0 := hide (show ∀ x, x ∈ L_2 → x ∉ L_0 from fun x h h2 => HD0_2.out x h2 h)
 have HD1_2 := hide (show ∀ x, x ∈ L_1 → x ∉ L_2 from fun x h h2 => hdd1 x h x (by simp [h2]) rfl)
 have HD2_1 := hide (show ∀ x, x ∈ L_2 → x ∉ L_1 from fun x h h2 => HD1_2.out x h2 h)
 clear hdd0 hdd1 g0 g1 g2 hq0 hq1 hq2
 go_enter Tryd.func16, Tryd.ntmps16
 go_wp2_with (fail)
 refine (markRecordTypeS_any x0 L_0 _ A0 c0 _ (OwnRow.offS (S := fun x => x ∈ L_0) (w := w) osl (fun x hx => hx) G0.out) HNL0.out (by omega) (by rw [HQ0.out]; omega)).mono ?_
 rintro e w1 ⟨rfl, -, ho1⟩
 rw [HQ0.out]
 have hz1 := ho1.size
 (try simp only [World.size_alloc, World.size_setCell, World.size_drew, World.heap_drewN] at hz1)
 have hss1 := ho1.same w.heap.size hb_0 (by first | (simp; done) | (simp; omega) | omega)
 have hk1 := hss1.1
 have hf_1 := hss1.2
 have hl1 : w.heap.size < w1.heap.size := by omega
 have hoL1 := OffS.narrow (S' := fun x => x ∉ (L_0 ++ (L_1 ++ L_2))) ho1 (fun x hx h => hx (HI0.out x h))
 have ho1_1 := OffS.narrow (S' := fun x => x ∈ L_1) ho1 (fun x hx => HD1_0.out x hx)
 have ho1_2 := OffS.narrow (S' := fun x => x ∈ L_2) ho1 (fun x hx => HD2_0.out x hx)
 clear hss1 ho1
 go_wp2_with (fail)
 refine (markStringS_any x1 L_1 _ A1 c1 _ (OwnRow.offS (S := fun x => x ∈ L_1) (w := w) osl (fun x hx => hx) G1.out) HNL1.out (by omega) (by rw [HQ1.out]; omega)).mono ?_
 rintro e w2 ⟨rfl, -, ho2⟩
 rw [HQ1.out]
 have hz2 := ho2.size
 (try simp only [World.size_alloc, World.size_setCell, World.size_drew, World.heap_drewN] at hz2)
 have hss2 := ho2.same w.heap.size hb_1 (by first | (simp; done) | (simp; omega) | omega)
 have hk2 := hss2.1
 have hf_2 := hss2.2
 have hl2 : w.heap.size < w2.heap.size := by omega
 have hoL2 := OffS.narrow (S' := fun x => x ∉ (L_0 ++ (L_1 ++ L_2))) ho2 (fun x hx h => hx (HI1.out x h))
 have ho2_0 := OffS.narrow (S' := fun x => x ∈ L_0) ho2 (fun x hx => HD0_1.out x hx)
 have ho2_2 := OffS.narrow (S' := fun x => x ∈ L_2) ho2 (fun x hx => HD2_1.out x hx)
 clear hss2 ho2
 go_wp2_with (fail)
 refine (markProcedureS_any x2 L_2 _ A2 c2 _ (OwnRow.offS (S := fun x => x ∈ L_2) (w := w) osl (fun x hx => hx) G2.out) HNL2.out (by omega) (by rw [HQ2.out]; omega)).mono ?_
 rintro e w3 ⟨rfl, -, ho3⟩
 rw [HQ2.out]
 have hz3 := ho3.size
 (try simp only [World.size_alloc, World.size_setCell, World.size_drew, World.heap_drewN] at hz3)
 have hss3 := ho3.same w.heap.size hb_2 (by first | (simp; done) | (simp; omega) | omega)
 have hk3 := hss3.1
 have hf_3 := hss3.2
 have hl3 : w.heap.size < w3.heap.size := by omega
 have hoL3 := OffS.narrow (S' := fun x => x ∉ (L_0 ++ (L_1 ++ L_2))) ho3 (fun x hx h => hx (HI2.out x h))
 have ho3_0 := OffS.narrow (S' := fun x => x ∈ L_0) ho3 (fun x hx => HD0_2.out x hx)
 have ho3_1 := OffS.narrow (S' := fun x => x ∈ L_1) ho3 (fun x hx => HD1_2.out x hx)
 clear hss3 ho3
 go_wp2_with (fail)
 go_returns
 exact ⟨⟨_, by omega, rfl⟩, osl⟩
end Go.Proofs.YtjodcciloflgbaaDoor
