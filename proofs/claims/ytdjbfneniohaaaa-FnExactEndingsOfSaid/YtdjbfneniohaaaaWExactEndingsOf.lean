/- The walk of FnExactEndingsOf. -/
import Derived.Test.YtdjbfneniohaaaaJg
import Derived.Test.YtdjbfneniohaaaaP13
import Derived.Test.YtdjbfneniohaaaaMPattern
import Derived.Test.YtdjbfneniohaaaaMEnding
import Derived.Deep.RegionHeld3
namespace Go.Proofs.Ytdjbfneniohaaaa
set_option linter.unusedVariables false
set_option linter.unusedSimpArgs false
set_option maxRecDepth 100000
open Go.RowKit

theorem cntR_bound {α : Type} (D : α → List Dat) (n : Nat) : ∀ l : List α, (∀ x ∈ l, Dat.cntC (D x) ≤ n) → Dat.cntR (l.map D) ≤ l.length * n
  | [], _ => by simp [Dat.cntR]
  | x :: r, h => by
    have h1 := h x (by simp)
    have h2 := cntR_bound D n r (fun y hy => h y (by simp [hy]))
    simp only [List.map_cons, Dat.cntR, List.length_cons, Nat.succ_mul]
    omega
theorem endT_cnt (ds : List TPattern) (p : TPattern) (s : ByteArray) (a : Int) : Dat.cntR ((endT ds p s a).1.map TEnding.D) ≤ 30003000 := by
  unfold endT
  split
  · rename_i h
    obtain ⟨hp, hds⟩ := okD_parts h.1
    unfold endV
    cases he : endsE ds s 3000 3000 p a.toNat with
    | none => simp [Dat.cntR]
    | some y =>
      obtain ⟨l, st, g⟩ := y
      obtain ⟨h1, h2, h3⟩ := endsE_ok (s := s) hds 3000 3000 p a.toNat hp (by omega) l st g he
      refine Nat.le_trans (cntR_bound TEnding.D 10001 l fun x hx => ?_) (by
        have : l.length * 10001 ≤ 3000 * 10001 := Nat.mul_le_mul_right _ (by omega)
        omega)
      obtain ⟨k, -, -, -, h4, -⟩ := h3 x hx
      obtain ⟨x0, cs⟩ := x
      simp only [TEnding.cs] at h4
      have h5 := cntR_bound TCapture.D 3 cs (fun y _ => by obtain ⟨a, b, c⟩ := y; simp [TCapture.D_mk, Dat.cntC, Dat.cnt])
      simp only [TEnding.D_mk, Dat.cntC, Dat.cnt]
      omega
  · simp [Dat.cntR]
theorem pats_cnt (l : List TPattern) : Dat.cntR (l.map TPattern.D) ≤ 16 * l.length + 16 * Dat.wtR (l.map TPattern.D) := by
  induction l with
  | nil => simp [Dat.cntR]
  | cons x r ih =>
    have := TPattern.mcnt_le x
    simp only [List.map_cons, Dat.cntR, Dat.wtR, List.length_cons]
    omega
set_option maxRecDepth 8000 in
set_option maxHeartbeats 8000000 in
theorem FnExactEndingsOf_walk (l0 : List TPattern) (A0 : Option Addr) (c0 : Nat) (t1 : TPattern) (vs1 : List Value) (s2 : ByteArray) (n3 : Int) (w : World) (hv0 : Row w (fun _ => True) 6 A0 c0 (l0.map TPattern.D)) (hv1 : Dat.HoldVals w (fun _ => True) t1.D vs1) (hs2 : s2.size ≤ maxLen) (hn3 : InI n3) :
    Calls Try.prog 6 #[.slice A0 l0.length c0, .agg vs1.toArray, .string s2, .int .i64 n3] w fun e w' => e = .returned (.bool true) ∧ Bel w w' := by
  have HV0 := hide hv0
  have hcap0 := HV0.out.1
  have hcm0 := HV0.out.2.1
  simp only [List.length_map] at hcap0
  unfold maxLen at hcm0
  clear hv0
  obtain ⟨x1_0, x1_1, x1_2, x1_3, x1_4, x1_5⟩ := t1
  obtain ⟨A1_0, c1_0, rfl, -⟩ := TPattern.vals hv1
  have HV1 := hide hv1
  clear hv1
  have HS2 := hide hs2
  unfold maxLen at hs2
  obtain ⟨r, hr⟩ : ∃ r, endT l0 (TPattern.mk x1_0 x1_1 x1_2 x1_3 x1_4 x1_5) s2 n3 = r := ⟨_, rfl⟩
  have HCL := hide (show (1 : Int) + (Dat.cntR (r.1.map TEnding.D) : Nat) ≤ 4611686018427387904 by have := endT_cnt l0 (TPattern.mk x1_0 x1_1 x1_2 x1_3 x1_4 x1_5) s2 n3; rw [hr] at this; omega)
  obtain ⟨es, st, ok⟩ := r
  have HR := hide hr
  clear hr
  have hst : (st != st) = false := by simp
  have hok : (ok != ok) = false := by simp
  rcases Nat.lt_or_ge 1048576 s2.size with hz2 | hz2
  · have dz : decide ((1048576 : Int) < (s2.size : Int)) = true := by simp; omega
    go_enter Try.func6, Try.ntmps6
    go_wp2_with (fail)
    all_goals
      go_returns
      exact ⟨rfl, bl⟩
  have dz2 : decide ((1048576 : Int) < (s2.size : Int)) = false := by simp; omega
  obtain ⟨m0, hm0⟩ : ∃ m : Nat, m = (l0.length + Dat.wtR (l0.map TPattern.D)) := ⟨_, rfl⟩
  obtain ⟨m1, hm1⟩ : ∃ m : Nat, m = Dat.wtL (TPattern.mk x1_0 x1_1 x1_2 x1_3 x1_4 x1_5).D := ⟨_, rfl⟩
  rcases Int.lt_or_le ((1048576 : Int)) (m0 : Int) with hq0 | hq0
  · have HZ0 := hide (show szL ((l0.length + Dat.wtR (l0.map TPattern.D))) ((1048576 : Int)) = -1 from szL_no (by omega))
    clear hq0 hm0 hm1
    go_enter Try.func6, Try.ntmps6
    go_wp2_with (fail)
    refine (szPatternS_any l0 _ _ _ _ _ (Row.bel bl HV0.out) (by omega) (by omega)).mono ?_
    rintro e w1 ⟨rfl, hb1⟩
    rw [HZ0.out]
    (have hz1 := hb1.sz; obtain ⟨hk1_0, hf1_0, hl1_0, hn1_0⟩ := hb1.lay (w.heap.size))
    go_wp2_with (fail)
    all_goals
      go_returns
      exact ⟨rfl, bl⟩
  have HZ0 := hide (show szL ((l0.length + Dat.wtR (l0.map TPattern.D))) ((1048576 : Int)) = (1048576 : Int) - (m0 : Int) from by rw [szL_yes (by omega), hm0])
  have hs0 : (l0.length + Dat.wtR (l0.map TPattern.D)) ≤ 1048576 := by omega
  have HS0 := hide hs0
  have HCN0 := hide (show (1 : Int) + (Dat.cntR (l0.map TPattern.D) : Nat) ≤ 100000000 by have := pats_cnt l0; omega)
  have hlo0 : 0 ≤ (1048576 : Int) - (m0 : Int) := by omega
  have hle0 : (1048576 : Int) - (m0 : Int) ≤ 1048576 := by omega
  have HCS := hide (show ∀ (k : Nat) (h : k < l0.length), l0[k].cnt ≤ 2000000 from fun k h => by
    have h1 := TPattern.cnt_le l0[k]
    have h2 := Dat.wtR_take (l0.map TPattern.D) k (by simpa using h)
    have h3 := Dat.wtR_le (l0.map TPattern.D) (k + 1)
    rw [List.getElem_map] at h2
    omega)
  clear hm0 hs0
  rcases Int.lt_or_le ((1048576 : Int) - (m0 : Int)) (m1 : Int) with hq1 | hq1
  · have HZ1 := hide (show szL (Dat.wtL (TPattern.mk x1_0 x1_1 x1_2 x1_3 x1_4 x1_5).D) ((1048576 : Int) - (m0 : Int)) = -1 from szL_no (by omega))
    clear hq1 hm1
    go_enter Try.func6, Try.ntmps6
    go_wp2_with (fail)
    refine (szPatternS_any l0 _ _ _ _ _ (Row.bel bl HV0.out) (by omega) (by omega)).mono ?_
    rintro e w1 ⟨rfl, hb1⟩
    rw [HZ0.out]
    (have hz1 := hb1.sz; obtain ⟨hk1_0, hf1_0, hl1_0, hn1_0⟩ := hb1.lay (w.heap.size))
    go_wp2_with (fail)
    refine (szPattern_any _ _ _ _ _ (Dat.HoldVals.bel bl HV1.out) (by omega) (by omega)).mono ?_
    rintro e w2 ⟨rfl, hb2⟩
    rw [HZ1.out]
    (have hz2 := hb2.sz; obtain ⟨hk2_0, hf2_0, hl2_0, hn2_0⟩ := hb2.lay (w.heap.size))
    go_wp2_with (fail)
    all_goals
      go_returns
      exact ⟨rfl, bl⟩
  have HZ1 := hide (show szL (Dat.wtL (TPattern.mk x1_0 x1_1 x1_2 x1_3 x1_4 x1_5).D) ((1048576 : Int) - (m0 : Int)) = (1048576 : Int) - (m0 : Int) - (m1 : Int) from by rw [szL_yes (by omega), hm1])
  have hs1 : Dat.wtL (TPattern.mk x1_0 x1_1 x1_2 x1_3 x1_4 x1_5).D ≤ 1048576 := by omega
  have HS1 := hide hs1
  have HCN1 := hide (show (Dat.cntC (TPattern.mk x1_0 x1_1 x1_2 x1_3 x1_4 x1_5).D : Nat) ≤ 100000000 by have := TPattern.mcnt_le (TPattern.mk x1_0 x1_1 x1_2 x1_3 x1_4 x1_5); omega)
  have HCT := hide (show TPattern.cnt (TPattern.mk x1_0 x1_1 x1_2 x1_3 x1_4 x1_5) ≤ 2000000 by have := TPattern.cnt_le (TPattern.mk x1_0 x1_1 x1_2 x1_3 x1_4 x1_5); omega)
  have hlo1 : 0 ≤ (1048576 : Int) - (m0 : Int) - (m1 : Int) := by omega
  have hle1 : (1048576 : Int) - (m0 : Int) - (m1 : Int) ≤ 1048576 := by omega
  clear hm1 hs1 hq0 hq1
  go_enter Try.func6, Try.ntmps6
  go_wp2_with (fail)
  refine (szPatternS_any l0 _ _ _ _ _ (Row.bel bl HV0.out) (by omega) (by omega)).mono ?_
  rintro e w1 ⟨rfl, hb1⟩
  rw [HZ0.out]
  (have hz1 := hb1.sz; obtain ⟨hk1_0, hf1_0, hl1_0, hn1_0⟩ := hb1.lay (w.heap.size))
  go_wp2_with (fail)
  refine (szPattern_any _ _ _ _ _ (Dat.HoldVals.bel bl HV1.out) (by omega) (by omega)).mono ?_
  rintro e w2 ⟨rfl, hb2⟩
  rw [HZ1.out]
  (have hz2 := hb2.sz; obtain ⟨hk2_0, hf2_0, hl2_0, hn2_0⟩ := hb2.lay (w.heap.size))
  go_wp2_with (fail)
  go_region_held3 (fun w' => w'.cell? ⟨w.heap.size, 0, none⟩ = some (.int .i64 x1_0) ∧ w'.cell? ⟨w.heap.size, 1, none⟩ = some (.string x1_1) ∧ w'.cell? ⟨w.heap.size, 2, none⟩ = some (.int .i64 x1_2) ∧ w'.cell? ⟨w.heap.size, 3, none⟩ = some (.int .i64 x1_3) ∧ w'.cell? ⟨w.heap.size, 4, none⟩ = some (.int .i64 x1_4) ∧ w'.cell? ⟨w.heap.size, 5, none⟩ = some (.slice A1_0 x1_5.length c1_0)) (go_keep) (first
        | (go_at_call 18; refine (toPatternS_any l0 _ _ _ _ (Row.bel bl HV0.out) HS0.out).mono ?_; rintro e wa ⟨Aa, ca, rfl, hva, hba⟩; (try simp only [List.length_map]); have HVa := hide hva; clear hva; (have hza := hba.sz; obtain ⟨hka_0, hfa_0, hla_0, hna_0⟩ := hba.lay (w.heap.size)))
        | (go_at_call 19; refine (toPattern_any _ _ _ _ (Dat.HoldVals.bel bl HV1.out) HS1.out).mono ?_; rintro e wb ⟨vsb, rfl, hvb, hbb⟩; obtain ⟨Ab_5, cb_5, rfl, -⟩ := TPattern.vals hvb; have HVb := hide hvb; clear hvb; (have hzb := hbb.sz; obtain ⟨hkb_0, hfb_0, hlb_0, hnb_0⟩ := hbb.lay (w.heap.size)))
        | (go_at_call 10; refine (specEnds_any l0 (TPattern.mk x1_0 x1_1 x1_2 x1_3 x1_4 x1_5) s2 n3 _ _ _ _ _ _ (Row.bel bl HVa.out) (Dat.HoldVals.bel bl HVb.out) HS2.out hn3 HCT.out HCS.out).mono ?_; rw [HR.out]; rintro e w3 ⟨v3, L3, rfl, hO3, hB3, hb3⟩; obtain ⟨B3, d3, M3, hve3, hr3, hn3, hk3⟩ := hO3.ownRow; subst hve3; rw [List.length_map] at hk3 hB3; (try simp only [List.length_map]); have HR3 := hide hr3; have HN3 := hide hn3; have HM3 := hide (fun b hb => hB3 b (hk3 b hb)); clear hr3 hn3 hk3 hB3 hO3; (have hz3 := hb3.sz; obtain ⟨hk3_0, hf3_0, hl3_0, hn3_0⟩ := hb3.lay (w.heap.size))))
  go_wp2_with (fail)
  refine Calls.named fun wq4 hwq4 => ?_
  have HBQ4 : Hid (Bel w wq4) := by show Bel w wq4; rw [← hwq4]; exact bl
  have HR3b : Hid (OwnRow wq4 M3 2 B3 d3 (es.map TEnding.D)) := by show OwnRow _ _ _ _ _ _; rw [← hwq4]; exact OwnRow.bel bl HR3.out
  have hzz4 : w.heap.size < wq4.heap.size := by have h := HBQ4.out.size; rw [← hwq4]; (try simp only [World.size_alloc, World.size_setCell, World.size_drew, World.heap_drewN]); omega
  refine (toPatternSL_any l0 _ wq4 _ _ (by rw [← hwq4]; exact Row.bel bl HV0.out) HS0.out).mono ?_
  rintro e w4 ⟨A4, c4, X0, rfl, hr4, hn4, hlo4, hb4⟩
  (try simp only [List.length_map])
  have HX0 := hide hr4
  have HNX0 := hide hn4
  have HX03 := hide (show ∀ b, b ∈ M3 → b ∉ X0 from fun b hb h => by have h1 := HR3b.out.lt b hb; have h2 := hlo4 b h; omega)
  have HX0W := hide (show ∀ b, b ∈ X0 → w.heap.size < b from fun b hb => by have h2 := hlo4 b hb; omega)
  have hz4 := hb4.size
  clear hr4 hn4 hlo4 HR3b
  subst hwq4
  (have hz4 := hb4.sz; obtain ⟨hk4_0, hf4_0, hl4_0, hn4_0⟩ := hb4.lay (w.heap.size))
  go_wp2_with (fail)
  refine Calls.named fun wq5 hwq5 => ?_
  have HBQ5 : Hid (Bel w wq5) := by show Bel w wq5; rw [← hwq5]; exact bl
  have HR3b : Hid (OwnRow wq5 M3 2 B3 d3 (es.map TEnding.D)) := by show OwnRow _ _ _ _ _ _; rw [← hwq5]; exact OwnRow.bel bl HR3.out
  have HX0b : Hid (OwnRow wq5 X0 6 A4 c4 (l0.map TPattern.D)) := by show OwnRow _ _ _ _ _ _; rw [← hwq5]; exact OwnRow.bel bl HX0.out
  have hzz5 : w.heap.size < wq5.heap.size := by have h := HBQ5.out.size; rw [← hwq5]; (try simp only [World.size_alloc, World.size_setCell, World.size_drew, World.heap_drewN]); omega
  refine (toPatternL_any (TPattern.mk x1_0 x1_1 x1_2 x1_3 x1_4 x1_5) _ wq5 _ (by rw [← hwq5]; exact Dat.HoldVals.bel bl HV1.out) HS1.out).mono ?_
  rintro e w5 ⟨vs5, X1, rfl, hv5, hn5, hlo5, hb5⟩
  have HX1 := hide hv5
  have HNX1 := hide hn5
  have HX13 := hide (show ∀ b, b ∈ M3 → b ∉ X1 from fun b hb h => by have h1 := HR3b.out.lt b hb; have h2 := hlo5 b h; omega)
  have HX10 := hide (show ∀ b, b ∈ X0 → b ∉ X1 from fun b hb h => by have h1 := HX0b.out.lt b hb; have h2 := hlo5 b h; omega)
  have HX1W := hide (show ∀ b, b ∈ X1 → w.heap.size < b from fun b hb => by have h2 := hlo5 b hb; omega)
  have HX1T := hide (show ∀ b, b ∈ X1 → b < w5.heap.size from fun b hb => hv5.lt _ _ _ b hb)
  have HX0T := hide (show ∀ b, b ∈ X0 → b < w5.heap.size from fun b hb => by have h1 := HX0b.out.lt b hb; have h2 := hb5.size; omega)
  have hz5 := hb5.size
  obtain ⟨A4_5, c4_5, rfl, -⟩ := TPattern.vals (Dat.OwnVals.vals (S := fun _ => True) (fun _ _ => trivial) hv5)
  clear hv5 hn5 hlo5 HR3b HX0b
  subst hwq5
  (have hz5 := hb5.sz; obtain ⟨hk5_0, hf5_0, hl5_0, hn5_0⟩ := hb5.lay (w.heap.size))
  go_wp2_with (fail)
  refine Calls.named fun wq6 hwq6 => ?_
  have HBQ6 : Hid (Bel w wq6) := by show Bel w wq6; rw [← hwq6]; exact bl
  have HR3b : Hid (OwnRow wq6 M3 2 B3 d3 (es.map TEnding.D)) := by show OwnRow _ _ _ _ _ _; rw [← hwq6]; exact OwnRow.bel bl HR3.out
  have HX0b : Hid (OwnRow wq6 X0 6 A4 c4 (l0.map TPattern.D)) := by show OwnRow _ _ _ _ _ _; rw [← hwq6]; exact OwnRow.bel bl HX0.out
  have HX1b : Hid (Dat.OwnVals wq6 X1 (TPattern.mk x1_0 x1_1 x1_2 x1_3 x1_4 x1_5).D [.int .i64 x1_0, .string x1_1, .int .i64 x1_2, .int .i64 x1_3, .int .i64 x1_4, .slice A4_5 x1_5.length c4_5]) := by show Dat.OwnVals _ _ _ _; rw [← hwq6]; exact Dat.OwnVals.bel bl HX1.out
  refine (implEnds_any l0 (TPattern.mk x1_0 x1_1 x1_2 x1_3 x1_4 x1_5) s2 n3 wq6 (fun _ => True) (fun _ => True) _ _ _ (OwnRow.row (fun _ _ => trivial) HX0b.out) (Dat.OwnVals.vals (fun _ _ => trivial) HX1b.out) HS2.out hn3 HCT.out HCS.out).mono ?_
  rw [HR.out]
  rintro e w6 ⟨v6, L6, rfl, hO6, hB6, hb6⟩
  obtain ⟨B6, d6, M6, hve6, hr6, hn6, hk6⟩ := hO6.ownRow
  subst hve6
  rw [List.length_map] at hk6 hB6
  (try simp only [List.length_map])
  have HR6 := hide hr6
  have HN6 := hide hn6
  have hM6 : ∀ b, b ∈ M6 → wq6.heap.size ≤ b := fun b hb => hB6 b (hk6 b hb)
  have HX06 := hide (show ∀ b, b ∈ M6 → b ∉ X0 from fun b hb h => by have h1 := HX0b.out.lt b h; have h2 := hM6 b hb; omega)
  have HX16 := hide (show ∀ b, b ∈ M6 → b ∉ X1 from fun b hb h => by have h1 := HX1b.out.lt _ _ _ b h; have h2 := hM6 b hb; omega)
  have H36 := hide (show ∀ b, b ∈ M3 → b ∉ M6 from fun b hb h => by have h1 := HR3b.out.lt b hb; have h2 := hM6 b h; omega)
  have H6W := hide (show ∀ b, b ∈ M6 → w.heap.size < b from fun b hb => by have h2 := hM6 b hb; have h3 := HBQ6.out.size; have h4 : w5.heap.size < wq6.heap.size := (by rw [← hwq6]; (try simp only [World.size_alloc, World.size_setCell, World.size_drew, World.heap_drewN]); omega); omega)
  clear hr6 hn6 hk6 hB6 hO6 hM6 HR3b HX0b HX1b
  subst hwq6
  (have hz6 := hb6.sz; obtain ⟨hk6_0, hf6_0, hl6_0, hn6_0⟩ := hb6.lay (w.heap.size); obtain ⟨hk6_1, hf6_1, hl6_1, hn6_1⟩ := hb6.lay (w5.heap.size))
  go_wp2_with (fail)
  refine (eqEndingS_any es (fun _ => True) (fun _ => True) _ _ _ _ _ (OwnRow.row (fun _ _ => trivial) (OwnRow.bel bl HR6.out)) (OwnRow.row (fun _ _ => trivial) (OwnRow.bel bl HR3.out))).mono ?_
  rintro e w7 ⟨rfl, hb7⟩; (have hz7 := hb7.sz; obtain ⟨hk7_0, hf7_0, hl7_0, hn7_0⟩ := hb7.lay (w.heap.size); obtain ⟨hk7_1, hf7_1, hl7_1, hn7_1⟩ := hb7.lay (w5.heap.size))
  go_wp2_with (fail)
  refine (toPatternS_any l0 _ _ _ _ (Row.bel bl HV0.out) HS0.out).mono ?_
  rintro e w8 ⟨A8, c8, rfl, hv8, hb8⟩; (try simp only [List.length_map]); have HV8 := hide hv8; clear hv8; (have hz8 := hb8.sz; obtain ⟨hk8_0, hf8_0, hl8_0, hn8_0⟩ := hb8.lay (w.heap.size); obtain ⟨hk8_1, hf8_1, hl8_1, hn8_1⟩ := hb8.lay (w5.heap.size))
  go_wp2_with (fail)
  refine (eqPatternS_any l0 (fun _ => True) _ _ _ _ _ _ (OwnRow.row (fun _ _ => trivial) (OwnRow.bel bl HX0.out)) (Row.bel bl HV8.out)).mono ?_
  rintro e w9 ⟨rfl, hb9⟩; (have hz9 := hb9.sz; obtain ⟨hk9_0, hf9_0, hl9_0, hn9_0⟩ := hb9.lay (w.heap.size); obtain ⟨hk9_1, hf9_1, hl9_1, hn9_1⟩ := hb9.lay (w5.heap.size))
  go_wp2_with (fail)
  go_region_held3 (fun w' => w'.cell? ⟨w.heap.size, 0, none⟩ = some (.int .i64 x1_0) ∧ w'.cell? ⟨w.heap.size, 1, none⟩ = some (.string x1_1) ∧ w'.cell? ⟨w.heap.size, 2, none⟩ = some (.int .i64 x1_2) ∧ w'.cell? ⟨w.heap.size, 3, none⟩ = some (.int .i64 x1_3) ∧ w'.cell? ⟨w.heap.size, 4, none⟩ = some (.int .i64 x1_4) ∧ w'.cell? ⟨w.heap.size, 5, none⟩ = some (.slice A1_0 x1_5.length c1_0) ∧ w'.cell? ⟨w5.heap.size, 0, none⟩ = some (.int .i64 x1_0) ∧ w'.cell? ⟨w5.heap.size, 1, none⟩ = some (.string x1_1) ∧ w'.cell? ⟨w5.heap.size, 2, none⟩ = some (.int .i64 x1_2) ∧ w'.cell? ⟨w5.heap.size, 3, none⟩ = some (.int .i64 x1_3) ∧ w'.cell? ⟨w5.heap.size, 4, none⟩ = some (.int .i64 x1_4) ∧ w'.cell? ⟨w5.heap.size, 5, none⟩ = some (.slice A4_5 x1_5.length c4_5)) (go_keep) (first
        | (go_at_call 19; refine (toPattern_any _ _ _ _ (Dat.HoldVals.bel bl HV1.out) HS1.out).mono ?_; rintro e we ⟨vse, rfl, hve, hbe⟩; obtain ⟨Ae_5, ce_5, rfl, -⟩ := TPattern.vals hve; have HVe := hide hve; clear hve; (have hze := hbe.sz; obtain ⟨hke_0, hfe_0, hle_0, hne_0⟩ := hbe.lay (w.heap.size); obtain ⟨hke_1, hfe_1, hle_1, hne_1⟩ := hbe.lay (w5.heap.size)))
        | (go_at_call 22; refine (eqPattern_any _ (fun _ => True) _ _ _ _ (Dat.OwnVals.vals (fun _ _ => trivial) (Dat.OwnVals.bel bl HX1.out)) HVe.out).mono ?_; rintro e wf ⟨rfl, hbf⟩; (have hzf := hbf.sz; obtain ⟨hkf_0, hff_0, hlf_0, hnf_0⟩ := hbf.lay (w.heap.size); obtain ⟨hkf_1, hff_1, hlf_1, hnf_1⟩ := hbf.lay (w5.heap.size))))
  go_wp2_with (fail)
  refine Calls.named fun wq10 hwq10 => ?_
  have HBQ10 : Hid (Bel w wq10) := by show Bel w wq10; rw [← hwq10]; exact bl
  have HR3b : Hid (OwnRow wq10 M3 2 B3 d3 (es.map TEnding.D)) := by show OwnRow _ _ _ _ _ _; rw [← hwq10]; exact OwnRow.bel bl HR3.out
  have HR6b : Hid (OwnRow wq10 M6 2 B6 d6 (es.map TEnding.D)) := by show OwnRow _ _ _ _ _ _; rw [← hwq10]; exact OwnRow.bel bl HR6.out
  have HX0b : Hid (OwnRow wq10 X0 6 A4 c4 (l0.map TPattern.D)) := by show OwnRow _ _ _ _ _ _; rw [← hwq10]; exact OwnRow.bel bl HX0.out
  have HX1b : Hid (Dat.OwnVals wq10 X1 (TPattern.mk x1_0 x1_1 x1_2 x1_3 x1_4 x1_5).D [.int .i64 x1_0, .string x1_1, .int .i64 x1_2, .int .i64 x1_3, .int .i64 x1_4, .slice A4_5 x1_5.length c4_5]) := by show Dat.OwnVals _ _ _ _; rw [← hwq10]; exact Dat.OwnVals.bel bl HX1.out
  have hzq10 : w.heap.size < wq10.heap.size := by rw [← hwq10]; (try simp only [World.size_alloc, World.size_setCell, World.size_drew, World.heap_drewN]); omega
  have hzq10x : w5.heap.size < wq10.heap.size := by rw [← hwq10]; (try simp only [World.size_alloc, World.size_setCell, World.size_drew, World.heap_drewN]); omega
  have z10_0 : wq10.cell? ⟨w.heap.size, 0, none⟩ = some (.int .i64 x1_0) := by rw [← hwq10]; clear hwq10; simp [go_sem, *]
  have z10_1 : wq10.cell? ⟨w.heap.size, 1, none⟩ = some (.string x1_1) := by rw [← hwq10]; clear hwq10; simp [go_sem, *]
  have z10_2 : wq10.cell? ⟨w.heap.size, 2, none⟩ = some (.int .i64 x1_2) := by rw [← hwq10]; clear hwq10; simp [go_sem, *]
  have z10_3 : wq10.cell? ⟨w.heap.size, 3, none⟩ = some (.int .i64 x1_3) := by rw [← hwq10]; clear hwq10; simp [go_sem, *]
  have z10_4 : wq10.cell? ⟨w.heap.size, 4, none⟩ = some (.int .i64 x1_4) := by rw [← hwq10]; clear hwq10; simp [go_sem, *]
  have z10_5 : wq10.cell? ⟨w.heap.size, 5, none⟩ = some (.slice A1_0 x1_5.length c1_0) := by rw [← hwq10]; clear hwq10; simp [go_sem, *]
  have z10_6 : wq10.cell? ⟨w5.heap.size, 0, none⟩ = some (.int .i64 x1_0) := by rw [← hwq10]; clear hwq10; simp [go_sem, *]
  have z10_7 : wq10.cell? ⟨w5.heap.size, 1, none⟩ = some (.string x1_1) := by rw [← hwq10]; clear hwq10; simp [go_sem, *]
  have z10_8 : wq10.cell? ⟨w5.heap.size, 2, none⟩ = some (.int .i64 x1_2) := by rw [← hwq10]; clear hwq10; simp [go_sem, *]
  have z10_9 : wq10.cell? ⟨w5.heap.size, 3, none⟩ = some (.int .i64 x1_3) := by rw [← hwq10]; clear hwq10; simp [go_sem, *]
  have z10_10 : wq10.cell? ⟨w5.heap.size, 4, none⟩ = some (.int .i64 x1_4) := by rw [← hwq10]; clear hwq10; simp [go_sem, *]
  have z10_11 : wq10.cell? ⟨w5.heap.size, 5, none⟩ = some (.slice A4_5 x1_5.length c4_5) := by rw [← hwq10]; clear hwq10; simp [go_sem, *]
  clear hwq10 hb1 hb2 hb3 hb4 hb5 hb6 hb7 hb8 hb9
  refine (markPatternS_any l0 X0 wq10 A4 c4 1 HX0b.out HNX0.out (by omega) (by have := HCN0.out; omega)).mono ?_
  rintro e w10 ⟨rfl, -, ho10⟩
  have hb10 : Bel w w10 := ho10.toBel HBQ10.out (fun x hx h => by have := HX0W.out x h; omega)
  have HR3c := hide (OwnRow.offS ho10 (fun x hx => HX03.out x hx) HR3b.out)
  have HR6c := hide (OwnRow.offS ho10 (fun x hx => HX06.out x hx) HR6b.out)
  have HX1c := hide (Dat.OwnVals.offS ho10 (fun x hx h => HX10.out x h hx) HX1b.out)
  have hsa := (ho10.same w.heap.size (fun h => by have := HX0W.out _ h; omega) hzq10).1
  have hsb := (ho10.same w5.heap.size (fun h => by have := HX0T.out _ h; omega) hzq10x).1
  have y10_0 : w10.cell? ⟨w.heap.size, 0, none⟩ = some (.int .i64 x1_0) := (hsa 0).trans z10_0
  have y10_1 : w10.cell? ⟨w.heap.size, 1, none⟩ = some (.string x1_1) := (hsa 1).trans z10_1
  have y10_2 : w10.cell? ⟨w.heap.size, 2, none⟩ = some (.int .i64 x1_2) := (hsa 2).trans z10_2
  have y10_3 : w10.cell? ⟨w.heap.size, 3, none⟩ = some (.int .i64 x1_3) := (hsa 3).trans z10_3
  have y10_4 : w10.cell? ⟨w.heap.size, 4, none⟩ = some (.int .i64 x1_4) := (hsa 4).trans z10_4
  have y10_5 : w10.cell? ⟨w.heap.size, 5, none⟩ = some (.slice A1_0 x1_5.length c1_0) := (hsa 5).trans z10_5
  have y10_6 : w10.cell? ⟨w5.heap.size, 0, none⟩ = some (.int .i64 x1_0) := (hsb 0).trans z10_6
  have y10_7 : w10.cell? ⟨w5.heap.size, 1, none⟩ = some (.string x1_1) := (hsb 1).trans z10_7
  have y10_8 : w10.cell? ⟨w5.heap.size, 2, none⟩ = some (.int .i64 x1_2) := (hsb 2).trans z10_8
  have y10_9 : w10.cell? ⟨w5.heap.size, 3, none⟩ = some (.int .i64 x1_3) := (hsb 3).trans z10_9
  have y10_10 : w10.cell? ⟨w5.heap.size, 4, none⟩ = some (.int .i64 x1_4) := (hsb 4).trans z10_10
  have y10_11 : w10.cell? ⟨w5.heap.size, 5, none⟩ = some (.slice A4_5 x1_5.length c4_5) := (hsb 5).trans z10_11
  have hz10 := ho10.size
  have hzw10 : w.heap.size < w10.heap.size := by omega
  have hzx10 : w5.heap.size < w10.heap.size := by omega
  obtain ⟨q0, hq0⟩ : ∃ q : Nat, Dat.cntR (l0.map TPattern.D) = q := ⟨_, rfl⟩
  have hcn0 := HCN0.out
  rw [hq0] at hcn0
  rw [hq0]
  clear HX0 HX0b HX1 HX1b HR3b HR6b HR3 HR6 hsa hsb ho10 hq0 z10_0 z10_1 z10_2 z10_3 z10_4 z10_5 z10_6 z10_7 z10_8 z10_9 z10_10 z10_11
  go_wp2_with (fail)
  refine Calls.named fun wq11 hwq11 => ?_
  have HBQ11 : Hid (Bel w wq11) := by show Bel w wq11; rw [← hwq11]; exact bl
  have HR3b : Hid (OwnRow wq11 M3 2 B3 d3 (es.map TEnding.D)) := by show OwnRow _ _ _ _ _ _; rw [← hwq11]; exact OwnRow.bel bl HR3c.out
  have HR6b : Hid (OwnRow wq11 M6 2 B6 d6 (es.map TEnding.D)) := by show OwnRow _ _ _ _ _ _; rw [← hwq11]; exact OwnRow.bel bl HR6c.out
  have HX1b : Hid (Dat.OwnVals wq11 X1 (TPattern.mk x1_0 x1_1 x1_2 x1_3 x1_4 x1_5).D [.int .i64 x1_0, .string x1_1, .int .i64 x1_2, .int .i64 x1_3, .int .i64 x1_4, .slice A4_5 x1_5.length c4_5]) := by show Dat.OwnVals _ _ _ _; rw [← hwq11]; exact Dat.OwnVals.bel bl HX1c.out
  have hzq11 : w.heap.size < wq11.heap.size := by rw [← hwq11]; (try simp only [World.size_alloc, World.size_setCell, World.size_drew, World.heap_drewN]); omega
  have z11_0 : wq11.cell? ⟨w.heap.size, 0, none⟩ = some (.int .i64 x1_0) := by rw [← hwq11]; clear hwq11; simp [go_sem, *]
  have z11_1 : wq11.cell? ⟨w.heap.size, 1, none⟩ = some (.string x1_1) := by rw [← hwq11]; clear hwq11; simp [go_sem, *]
  have z11_2 : wq11.cell? ⟨w.heap.size, 2, none⟩ = some (.int .i64 x1_2) := by rw [← hwq11]; clear hwq11; simp [go_sem, *]
  have z11_3 : wq11.cell? ⟨w.heap.size, 3, none⟩ = some (.int .i64 x1_3) := by rw [← hwq11]; clear hwq11; simp [go_sem, *]
  have z11_4 : wq11.cell? ⟨w.heap.size, 4, none⟩ = some (.int .i64 x1_4) := by rw [← hwq11]; clear hwq11; simp [go_sem, *]
  have z11_5 : wq11.cell? ⟨w.heap.size, 5, none⟩ = some (.slice A1_0 x1_5.length c1_0) := by rw [← hwq11]; clear hwq11; simp [go_sem, *]
  clear hwq11 hb10 y10_0 y10_1 y10_2 y10_3 y10_4 y10_5 y10_6 y10_7 y10_8 y10_9 y10_10 y10_11
  refine (markPattern_any (TPattern.mk x1_0 x1_1 x1_2 x1_3 x1_4 x1_5) X1 wq11 _ _ HX1b.out HNX1.out (by omega) (by have := HCN1.out; omega)).mono ?_
  rintro e w11 ⟨⟨k11, hk11, rfl⟩, ho11⟩
  have hb11 : Bel w w11 := ho11.toBel HBQ11.out (fun x hx h => by have := HX1W.out x h; omega)
  have HR3d := hide (OwnRow.offS ho11 (fun x hx => HX13.out x hx) HR3b.out)
  have HR6d := hide (OwnRow.offS ho11 (fun x hx => HX16.out x hx) HR6b.out)
  have hsa := (ho11.same w.heap.size (fun h => by have := HX1W.out _ h; omega) hzq11).1
  have y11_0 : w11.cell? ⟨w.heap.size, 0, none⟩ = some (.int .i64 x1_0) := (hsa 0).trans z11_0
  have y11_1 : w11.cell? ⟨w.heap.size, 1, none⟩ = some (.string x1_1) := (hsa 1).trans z11_1
  have y11_2 : w11.cell? ⟨w.heap.size, 2, none⟩ = some (.int .i64 x1_2) := (hsa 2).trans z11_2
  have y11_3 : w11.cell? ⟨w.heap.size, 3, none⟩ = some (.int .i64 x1_3) := (hsa 3).trans z11_3
  have y11_4 : w11.cell? ⟨w.heap.size, 4, none⟩ = some (.int .i64 x1_4) := (hsa 4).trans z11_4
  have y11_5 : w11.cell? ⟨w.heap.size, 5, none⟩ = some (.slice A1_0 x1_5.length c1_0) := (hsa 5).trans z11_5
  have hz11 := ho11.size
  have hzw11 : w.heap.size < w11.heap.size := by omega
  have dk11 : decide (k11 < 0) = false := by simp; omega
  clear HX1b HX1c HR3b HR6b HR3c HR6c hsa ho11 z11_0 z11_1 z11_2 z11_3 z11_4 z11_5
  go_wp2_with (fail)
  all_goals (try go_wp2_with (fail))
  refine (eqEndingS_any es (fun _ => True) (fun _ => True) _ _ _ _ _ (OwnRow.row (fun _ _ => trivial) (OwnRow.bel bl HR6d.out)) (OwnRow.row (fun _ _ => trivial) (OwnRow.bel bl HR3d.out))).mono ?_
  rintro e w12 ⟨rfl, hb12⟩; (have hz12 := hb12.sz; obtain ⟨hk12_0, hf12_0, hl12_0, hn12_0⟩ := hb12.lay (w.heap.size))
  go_wp2_with (fail)
  refine Calls.named fun wq13 hwq13 => ?_
  have HBQ13 : Hid (Bel w wq13) := by show Bel w wq13; rw [← hwq13]; exact bl
  have HR3b : Hid (OwnRow wq13 M3 2 B3 d3 (es.map TEnding.D)) := by show OwnRow _ _ _ _ _ _; rw [← hwq13]; exact OwnRow.bel bl HR3d.out
  have HR6b : Hid (OwnRow wq13 M6 2 B6 d6 (es.map TEnding.D)) := by show OwnRow _ _ _ _ _ _; rw [← hwq13]; exact OwnRow.bel bl HR6d.out
  have hzq13 : w.heap.size < wq13.heap.size := by rw [← hwq13]; (try simp only [World.size_alloc, World.size_setCell, World.size_drew, World.heap_drewN]); omega
  have z13_0 : wq13.cell? ⟨w.heap.size, 0, none⟩ = some (.int .i64 x1_0) := by rw [← hwq13]; clear hwq13; simp [go_sem, *]
  have z13_1 : wq13.cell? ⟨w.heap.size, 1, none⟩ = some (.string x1_1) := by rw [← hwq13]; clear hwq13; simp [go_sem, *]
  have z13_2 : wq13.cell? ⟨w.heap.size, 2, none⟩ = some (.int .i64 x1_2) := by rw [← hwq13]; clear hwq13; simp [go_sem, *]
  have z13_3 : wq13.cell? ⟨w.heap.size, 3, none⟩ = some (.int .i64 x1_3) := by rw [← hwq13]; clear hwq13; simp [go_sem, *]
  have z13_4 : wq13.cell? ⟨w.heap.size, 4, none⟩ = some (.int .i64 x1_4) := by rw [← hwq13]; clear hwq13; simp [go_sem, *]
  have z13_5 : wq13.cell? ⟨w.heap.size, 5, none⟩ = some (.slice A1_0 x1_5.length c1_0) := by rw [← hwq13]; clear hwq13; simp [go_sem, *]
  clear hwq13 hb12 hb11 y11_0 y11_1 y11_2 y11_3 y11_4 y11_5
  refine (markEndingS_any es M6 wq13 B6 d6 1 HR6b.out HN6.out (by omega) HCL.out).mono ?_
  rintro e w13 ⟨rfl, hr13, ho13⟩
  have HR13 := hide hr13
  have hb13 : Bel w w13 := ho13.toBel HBQ13.out (fun x hx h => by have := H6W.out x h; omega)
  have HR3e := hide (OwnRow.offS ho13 (fun x hx => H36.out x hx) HR3b.out)
  have hsa := (ho13.same w.heap.size (fun h => by have := H6W.out _ h; omega) hzq13).1
  have y13_0 : w13.cell? ⟨w.heap.size, 0, none⟩ = some (.int .i64 x1_0) := (hsa 0).trans z13_0
  have y13_1 : w13.cell? ⟨w.heap.size, 1, none⟩ = some (.string x1_1) := (hsa 1).trans z13_1
  have y13_2 : w13.cell? ⟨w.heap.size, 2, none⟩ = some (.int .i64 x1_2) := (hsa 2).trans z13_2
  have y13_3 : w13.cell? ⟨w.heap.size, 3, none⟩ = some (.int .i64 x1_3) := (hsa 3).trans z13_3
  have y13_4 : w13.cell? ⟨w.heap.size, 4, none⟩ = some (.int .i64 x1_4) := (hsa 4).trans z13_4
  have y13_5 : w13.cell? ⟨w.heap.size, 5, none⟩ = some (.slice A1_0 x1_5.length c1_0) := (hsa 5).trans z13_5
  have hz13 := ho13.size
  have hzw13 : w.heap.size < w13.heap.size := by omega
  obtain ⟨q, hq⟩ : ∃ q : Nat, Dat.cntR (es.map TEnding.D) = q := ⟨_, rfl⟩
  have HQ := hide hq
  have hqq := HCL.out
  rw [hq] at hqq
  rw [hq]
  have dq0 : decide ((1 : Int) + (q : Int) < 0) = false := by simp; omega
  clear hq hr13 HR3b HR6b HR3d HR6d ho13 hsa z13_0 z13_1 z13_2 z13_3 z13_4 z13_5
  go_wp2_with (fail)
  refine (heldEndingS_any es (fun _ => True) _ _ _ _ (OwnRow.row (fun _ _ => trivial) (OwnRow.bel bl HR13.out)) (by omega) HCL.out).mono ?_
  rintro e w14 ⟨rfl, hb14⟩; rw [HQ.out]; (have hz14 := hb14.sz; obtain ⟨hk14_0, hf14_0, hl14_0, hn14_0⟩ := hb14.lay (w.heap.size))
  go_wp2_with (fail)
  go_region_held3 (fun w' => w'.cell? ⟨w.heap.size, 0, none⟩ = some (.int .i64 x1_0) ∧ w'.cell? ⟨w.heap.size, 1, none⟩ = some (.string x1_1) ∧ w'.cell? ⟨w.heap.size, 2, none⟩ = some (.int .i64 x1_2) ∧ w'.cell? ⟨w.heap.size, 3, none⟩ = some (.int .i64 x1_3) ∧ w'.cell? ⟨w.heap.size, 4, none⟩ = some (.int .i64 x1_4) ∧ w'.cell? ⟨w.heap.size, 5, none⟩ = some (.slice A1_0 x1_5.length c1_0)) (go_keep) (first
        | (go_at_call 18; refine (toPatternS_any l0 _ _ _ _ (Row.bel bl HV0.out) HS0.out).mono ?_; rintro e wg ⟨Ag, cg, rfl, hvg, hbg⟩; (try simp only [List.length_map]); have HVg := hide hvg; clear hvg; (have hzg := hbg.sz; obtain ⟨hkg_0, hfg_0, hlg_0, hng_0⟩ := hbg.lay (w.heap.size)))
        | (go_at_call 19; refine (toPattern_any _ _ _ _ (Dat.HoldVals.bel bl HV1.out) HS1.out).mono ?_; rintro e wh ⟨vsh, rfl, hvh, hbh⟩; obtain ⟨Ah_5, ch_5, rfl, -⟩ := TPattern.vals hvh; have HVh := hide hvh; clear hvh; (have hzh := hbh.sz; obtain ⟨hkh_0, hfh_0, hlh_0, hnh_0⟩ := hbh.lay (w.heap.size)))
        | (go_at_call 9; refine (implEnds_any l0 (TPattern.mk x1_0 x1_1 x1_2 x1_3 x1_4 x1_5) s2 n3 _ _ _ _ _ _ (Row.bel bl HVg.out) (Dat.HoldVals.bel bl HVh.out) HS2.out hn3 HCT.out HCS.out).mono ?_; rw [HR.out]; rintro e w15 ⟨v15, L15, rfl, hO15, hB15, hb15⟩; obtain ⟨B15, d15, M15, hve15, hr15, hn15, hk15⟩ := hO15.ownRow; subst hve15; rw [List.length_map] at hk15 hB15; (try simp only [List.length_map]); have HR15 := hide hr15; have HN15 := hide hn15; have HM15 := hide (fun b hb => hB15 b (hk15 b hb)); clear hr15 hn15 hk15 hB15 hO15; (have hz15 := hb15.sz; obtain ⟨hk15_0, hf15_0, hl15_0, hn15_0⟩ := hb15.lay (w.heap.size))))
  go_wp2_with (fail)
  refine (eqEndingS_any es (fun _ => True) (fun _ => True) _ _ _ _ _ (OwnRow.row (fun _ _ => trivial) (OwnRow.bel bl HR15.out)) (OwnRow.row (fun _ _ => trivial) (OwnRow.bel bl HR3e.out))).mono ?_
  rintro e w16 ⟨rfl, hb16⟩; (have hz16 := hb16.sz; obtain ⟨hk16_0, hf16_0, hl16_0, hn16_0⟩ := hb16.lay (w.heap.size))
  go_wp2_with (fail)
  refine (heldEndingS_any es (fun _ => True) _ _ _ _ (OwnRow.row (fun _ _ => trivial) (OwnRow.bel bl HR13.out)) (by omega) HCL.out).mono ?_
  rintro e w17 ⟨rfl, hb17⟩; rw [HQ.out]; (have hz17 := hb17.sz; obtain ⟨hk17_0, hf17_0, hl17_0, hn17_0⟩ := hb17.lay (w.heap.size))
  go_wp2_with (fail)
  all_goals
    go_returns
    exact ⟨rfl, bl⟩
end Go.Proofs.Ytdjbfneniohaaaa
