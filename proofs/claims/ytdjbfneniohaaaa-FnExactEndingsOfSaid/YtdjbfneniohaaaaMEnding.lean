/- Own data of Ending: copies, marks. -/
import Derived.Test.YtdjbfneniohaaaaHEnding
import Derived.Test.YtdjbfneniohaaaaOw
import Derived.Test.YtdjbfneniohaaaaMCapture
import Derived.Test.YtdjbfneniohaaaaMk
namespace Go.Proofs.Ytdjbfneniohaaaa
set_option linter.unusedVariables false
set_option linter.unusedSimpArgs false
set_option maxRecDepth 100000
open Go.RowKit

theorem TEnding.vals_own {w : World} {L : List Nat} {x0 : Int} {x1 : List TCapture} {vs : List Value} (h : Dat.OwnVals w L (TEnding.mk x0 x1).D vs) : ∃ A1 c1 L1, L = L1 ∧ vs = [.int .i64 x0, .slice A1 x1.length c1] ∧ InI x0 ∧ OwnRow w L1 3 A1 c1 (x1.map TCapture.D) := by
  rw [TEnding.D_mk] at h
  have hl := h.length
  match vs, hl, h with
  | [u0, u1], _, h =>
  simp only [Dat.OwnVals] at h
  obtain ⟨M0, N0, e0, h0, M1, N1, e1, h1, en⟩ := h
  subst en
  subst e1
  subst e0
  obtain ⟨rfl, rfl, g0⟩ := Dat.own_int.1 h0
  obtain ⟨A1, c1, rfl, g1⟩ := Dat.own_row.1 h1
  exact ⟨A1, c1, M1, by simp only [List.nil_append, List.append_nil], by simp only [List.length_map], g0, g1⟩
theorem TEnding.own_mk {w : World} {x0 : Int} {x1 : List TCapture} {A1 : Option Addr} {c1 : Nat} {L1 : List Nat} (h0 : InI x0) (h1 : OwnRow w L1 3 A1 c1 (x1.map TCapture.D)) : Dat.OwnVals w (L1) (TEnding.mk x0 x1).D [.int .i64 x0, .slice A1 x1.length c1] := by
  rw [TEnding.D_mk]
  exact ⟨[], _, (List.nil_append _).symm, Dat.own_int.2 ⟨rfl, rfl, h0⟩, ⟨L1, _, (List.append_nil _).symm, Dat.own_row.2 ⟨_, _, by simp only [List.length_map], h1⟩, rfl⟩⟩
/-- A row's element, and how another is put in its place. -/
theorem TEnding.cnt_mk {x0 : Int} {x1 : List TCapture} : Dat.cntC (TEnding.mk x0 x1).D = 1 + Dat.cntR (x1.map TCapture.D) := by
  simp only [TEnding.D_mk, Dat.cntC, Dat.cnt]; (try omega)
theorem TEnding.mark_own {w : World} {m : Int} {x0 : Int} {x1 : List TCapture} {A1 : Option Addr} {c1 : Nat} {L1 : List Nat} (h0 : 0 ≤ m) (hm : m + (1 + Dat.cntR (x1.map TCapture.D) : Nat) ≤ 4611686018427387904) (h1 : OwnRow w L1 3 A1 c1 (Dat.markR (m + 1) (x1.map TCapture.D))) : Dat.OwnVals w (L1) (Dat.markC m (TEnding.mk x0 x1).D) [.int .i64 (m), .slice A1 x1.length c1] := by
  have e : Dat.markC m (TEnding.mk x0 x1).D = [.int (m), .row 3 (Dat.markR (m + 1) (x1.map TCapture.D))] := by
    simp only [TEnding.D_mk, Dat.markC, Dat.mark, Dat.cnt]
    first | rfl | (simp only [Nat.cast_one]; done) | (simp; done) | (push_cast; simp)
  rw [e]
  exact ⟨[], _, (List.nil_append _).symm, Dat.own_int.2 ⟨rfl, rfl, InI.of_le (by omega) (by omega)⟩, ⟨L1, _, (List.append_nil _).symm, Dat.own_row.2 ⟨_, _, by simp only [Dat.markR_length, List.length_map], h1⟩, rfl⟩⟩
theorem TEnding.mark_vals {w : World} {S : Nat → Prop} {m : Int} {x0 : Int} {x1 : List TCapture} {vs : List Value} (h : Dat.HoldVals w S (Dat.markC m (TEnding.mk x0 x1).D) vs) : ∃ A1 c1, vs = [.int .i64 (m), .slice A1 x1.length c1] ∧ Row w S 3 A1 c1 (Dat.markR (m + 1) (x1.map TCapture.D)) := by
  have e : Dat.markC m (TEnding.mk x0 x1).D = [.int (m), .row 3 (Dat.markR (m + 1) (x1.map TCapture.D))] := by
    simp only [TEnding.D_mk, Dat.markC, Dat.mark, Dat.cnt]
    first | rfl | (simp only [Nat.cast_one]; done) | (simp; done) | (push_cast; simp)
  rw [e] at h
  match vs, h with
  | [u0, u1], h =>
  simp only [Dat.HoldVals] at h
  obtain ⟨h0, h1, -⟩ := h
  obtain ⟨rfl, -⟩ := Dat.holds_int.1 h0
  obtain ⟨A1, c1, rfl, g1⟩ := Dat.holds_row.1 h1
  exact ⟨A1, c1, by simp only [Dat.markR_length, List.length_map], g1⟩
set_option maxHeartbeats 2000000 in
theorem markEndingS_any (ks : List TEnding) (L : List Nat) (w : World) (A : Option Addr) (c : Nat) (k : Int) (hR : OwnRow w L 2 A c (ks.map TEnding.D)) (hnd : L.Nodup) (h0 : 0 ≤ k) (hb : k + (Dat.cntR (ks.map TEnding.D) : Nat) ≤ 4611686018427387904) :
    Calls Try.prog 25 #[.slice A ks.length c, .int .i64 k] w (Marked w L 2 A c k (ks.map TEnding.D)) := by
  have HR := hide hR
  have HN := hide hnd
  have hlen := hR.1
  have hcm := hR.2.1
  simp only [List.length_map] at hlen
  unfold maxLen at hcm
  clear hR hnd
  go_enter Try.func25, Try.ntmps25
  go_wp2_with (fail)
  go_loopw [1, 5] (fun kv iv wr => ∃ i : Nat, i ≤ ks.length ∧ iv = .int .i64 i ∧ kv = .int .i64 (k + (Dat.cntR ((ks.map TEnding.D).take i) : Nat)) ∧ Hid (OwnRow wr L 2 A c (Dat.markTo k i (ks.map TEnding.D))) ∧ OffS (fun x => x ∉ L) w wr) (fun _ iv _ => ks.length - (intOf iv).toNat)
  case atStart => exact ⟨0, Nat.zero_le _, rfl, by simp [Dat.cntR], (by rw [Dat.markTo_zero]; exact HR.out), osl⟩
  case round =>
    obtain ⟨i, hi, rfl, rfl, hO, hoff⟩ := hrel
    rcases Nat.lt_or_ge i ks.length with hlt | hge
    · have hd : decide ((i : Int) < (ks.length : Int)) = true := by simp; omega
      have hi0 : 0 ≤ (i : Int) := by omega
      have hi1 : (i : Int) < (ks.length : Int) := by omega
      obtain ⟨x0, x1, hx⟩ : ∃ x0 x1, ks[i] = .mk x0 x1 := by cases ks[i]; exact ⟨_, _, rfl⟩
      have HX := hide hx
      have ht := Dat.cntR_take (ks.map TEnding.D) i (by simpa using hlt)
      have hle := Dat.cntR_le (ks.map TEnding.D) (i + 1)
      simp only [List.getElem_map, hx, TEnding.cnt_mk] at ht
      obtain ⟨q1, hq1⟩ : ∃ q, Dat.cntR (x1.map TCapture.D) = q := ⟨_, rfl⟩
      simp only [hq1] at ht
      obtain ⟨m, hm⟩ : ∃ m : Int, k + (Dat.cntR ((ks.map TEnding.D).take i) : Nat) = m := ⟨_, rfl⟩
      have hm0 : 0 ≤ m := by omega
      have hm1 : m + 1 + (q1 : Nat) ≤ 4611686018427387904 := by omega
      have HE := hide (show k + (Dat.cntR ((ks.map TEnding.D).take (i + 1)) : Nat) = m + 1 + (q1 : Nat) by omega)
      rw [hm]
      have HM := hide hm
      have HQ1 := hide hq1
      obtain ⟨b, o, L1, Le, L2, vs, rfl, hb1, hf1, hLe, hv, hvl, hc, hput⟩ := OwnRow.at hO.out i (by rw [Dat.markTo_length]; simpa using hlt)
      rw [Dat.markTo_get k i _ (by simpa using hlt), List.getElem_map, hx] at hv
      obtain ⟨A1, c1, L_1, hEL, rfl, g0, g1⟩ := TEnding.vals_own hv
      have hEL2 := hEL.symm
      clear hEL
      subst hEL2
      have z0 : wr.cell? ⟨b, o + i * 2, none⟩ = some (.int .i64 x0) := by simpa using hc 0 (by decide)
      have z1 : wr.cell? ⟨b, o + i * 2 + 1, none⟩ = some (.slice A1 x1.length c1) := by simpa using hc 1 (by decide)
      obtain ⟨hbL, hLeL, hbLe, hnLe, hrest⟩ := own_parts hLe HN.out
      have HNL1 := hide hnLe
      have HI1 := hide (show ∀ x, x ∈ L_1 → x ∈ (L_1) from fun x h => by simp [h])
      have hb_1 : b ∉ L_1 := fun h => hbLe (HI1.out b h)
      have G1 := hide g1
      have HP := hide hput
      have HLe := hide hLe
      have HL2 := hide hLeL
      have HRS := hide hrest
      clear hv hc hx ht hle hm hq1 hnLe g1 hput hLe hLeL hrest
      go_wp2_with (fail)
      refine (markCaptureS_any x1 L_1 _ A1 c1 _ (OwnRow.offS (S := fun x => x ∈ L_1) (w := wr) osl (fun x hx => hx) G1.out) HNL1.out (by omega) (by rw [HQ1.out]; omega)).mono ?_
      rintro e w1 ⟨rfl, hO1, ho1⟩
      rw [HQ1.out]
      have HO1 := hide hO1
      clear hO1
      have hz1 := ho1.size
      (try simp only [World.size_alloc, World.size_setCell, World.size_drew, World.heap_drewN] at hz1)
      have hss1 := ho1.same b hb_1 (by first | (simp; done) | (simp; omega) | omega)
      have hk1 := hss1.1
      have hf_1 := hss1.2
      have hl1 : b < w1.heap.size := by omega
      have hoL1 := OffS.narrow (S' := fun x => x ∉ L) ho1 (fun x hx h => hx (HL2.out x (HI1.out x h)))
      have hoE1 := OffS.narrow (S' := fun x => x ∉ (L_1) ∧ x ≠ b) ho1 (fun x hx h => hx.1 (HI1.out x h))
      clear hss1 ho1
      go_wp2_with (fail)
      go_roundw
      case rel =>
       refine ⟨i + 1, by omega, by go_num, by rw [HE.out]; first | done | go_num, ?_, osl⟩
       rw [← Dat.markTo_succ k i _ (by simpa using hlt)]
       refine hide ?_
       rw [List.getElem_map, HX.out, HM.out]
       refine HP.out _ _ [.int .i64 (m), .slice A1 x1.length c1] (by have := TEnding.mark_own (m := m) (x0 := x0) (x1 := x1) (A1 := A1) (c1 := c1) (L1 := L_1) hm0 (by (try simp only [HQ1.out]); omega) (by (try simp only [HQ1.out]); exact OwnRow.offS (S := fun x => x ∈ L_1) (w := w1) osl (fun x hx => hx) HO1.out); (try simp only [HQ1.out] at this); exact this) rfl (by (try simp only [World.size_alloc, World.size_setCell, World.size_drew, World.heap_drewN]); omega) (fun z hz => ?_) (fun z => by simp [go_sem, hk1, hf_1, hf1]) (fun z hz => ?_) (cells_of2 (by simp [go_sem, hk1, hf_1, z0, z1]) (by simp [go_sem, hk1, hf_1, z0, z1]))
       · exact OffS.same (S := fun x => x ∉ (L_1) ∧ x ≠ b) (w := wr) osl z ⟨(HRS.out z hz).1, (HRS.out z hz).2.1⟩ (hO.out.lt z (HRS.out z hz).2.2)
       · have n0 : z ≠ o + i * 2 := by omega
         have n1 : z ≠ o + i * 2 + 1 := by omega
         simp [go_sem, hk1, hf_1, n0, n1]
      case measure => simp [intOf]; omega
    · have hd : decide ((i : Int) < (ks.length : Int)) = false := by simp; omega
      obtain rfl : i = ks.length := by omega
      have HO2 := hide (show OwnRow wr L 2 A c (Dat.markR k (ks.map TEnding.D)) from by have := hO.out; rw [Dat.markTo_all _ _ _ (by simp)] at this; exact this)
      go_wp2_with (fail)
      go_returns
      rw [List.take_of_length_le (by simp)]
      exact ⟨rfl, HO2.out, hoff⟩
set_option maxHeartbeats 2000000 in
theorem heldEndingS_any (ks : List TEnding) (S : Nat → Prop) (w : World) (A : Option Addr) (c : Nat) (k : Int) (hR : Row w S 2 A c (Dat.markR k (ks.map TEnding.D))) (h0 : 0 ≤ k) (hb : k + (Dat.cntR (ks.map TEnding.D) : Nat) ≤ 4611686018427387904) :
    Calls Try.prog 26 #[.slice A ks.length c, .int .i64 k] w fun e w' => e = .returned (.int .i64 (k + (Dat.cntR (ks.map TEnding.D) : Nat))) ∧ Bel w w' := by
  have HR := hide hR
  have hlen := hR.1
  have hcm := hR.2.1
  simp only [Dat.markR_length, List.length_map] at hlen
  unfold maxLen at hcm
  clear hR
  go_enter Try.func26, Try.ntmps26
  go_wp2_with (fail)
  go_loopw [1, 5] (fun kv iv wr => ∃ i : Nat, i ≤ ks.length ∧ iv = .int .i64 i ∧ kv = .int .i64 (k + (Dat.cntR ((ks.map TEnding.D).take i) : Nat)) ∧ Bel w wr) (fun _ iv _ => ks.length - (intOf iv).toNat)
  case atStart => exact ⟨0, Nat.zero_le _, rfl, by simp [Dat.cntR], bl⟩
  case round =>
    obtain ⟨i, hi, rfl, rfl, hbw⟩ := hrel
    rcases Nat.lt_or_ge i ks.length with hlt | hge
    · have hd : decide ((i : Int) < (ks.length : Int)) = true := by simp; omega
      have hi0 : 0 ≤ (i : Int) := by omega
      have hi1 : (i : Int) < (ks.length : Int) := by omega
      obtain ⟨x0, x1, hx⟩ : ∃ x0 x1, ks[i] = .mk x0 x1 := by cases ks[i]; exact ⟨_, _, rfl⟩
      have HX := hide hx
      have ht := Dat.cntR_take (ks.map TEnding.D) i (by simpa using hlt)
      have hle := Dat.cntR_le (ks.map TEnding.D) (i + 1)
      simp only [List.getElem_map, hx, TEnding.cnt_mk] at ht
      obtain ⟨q1, hq1⟩ : ∃ q, Dat.cntR (x1.map TCapture.D) = q := ⟨_, rfl⟩
      simp only [hq1] at ht
      obtain ⟨m, hm⟩ : ∃ m : Int, k + (Dat.cntR ((ks.map TEnding.D).take i) : Nat) = m := ⟨_, rfl⟩
      have hm0 : 0 ≤ m := by omega
      have hm1 : m + 1 + (q1 : Nat) ≤ 4611686018427387904 := by omega
      have HE := hide (show k + (Dat.cntR ((ks.map TEnding.D).take (i + 1)) : Nat) = m + 1 + (q1 : Nat) by omega)
      rw [hm]
      have HM := hide hm
      have HQ1 := hide hq1
      obtain ⟨b, o, vs, rfl, -, hb1, hv, hvl, hc⟩ := Row.at HR.out i (by rw [Dat.markR_length]; simpa using hlt)
      rw [Dat.markR_get _ k i (by simpa using hlt), List.getElem_map, hx, hm] at hv
      obtain ⟨A1, c1, rfl, g1⟩ := TEnding.mark_vals hv
      have z0 : wr.cell? ⟨b, o + i * 2, none⟩ = some (.int .i64 (m)) := by rw [hbw.box b hb1]; simpa using hc 0 (by decide)
      have z1 : wr.cell? ⟨b, o + i * 2 + 1, none⟩ = some (.slice A1 x1.length c1) := by rw [hbw.box b hb1]; simpa using hc 1 (by decide)
      have G1 := hide g1
      have hblt : b < wr.heap.size := Nat.lt_of_lt_of_le hb1 hbw.size
      clear hv hc hx ht hle hm hq1 g1
      go_wp2_with (fail)
      refine (heldCaptureS_any x1 S _ A1 c1 _ (Row.bel (w := w) bl (by have := G1.out; (try simp only [HQ1.out] at this); exact this)) (by omega) (by rw [HQ1.out]; omega)).mono ?_
      rintro e w101 ⟨rfl, hb101⟩; rw [HQ1.out]; (have hz101 := hb101.sz; obtain ⟨hk101_0, hf101_0, hl101_0, hn101_0⟩ := hb101.lay (b))
      go_wp2_with (fail)
      all_goals
        go_roundw
        case rel => exact ⟨i + 1, by omega, by go_num, (by rw [HE.out]; first | done | go_num), bl⟩
        case measure => simp [intOf]; omega
    · have hd : decide ((i : Int) < (ks.length : Int)) = false := by simp; omega
      obtain rfl : i = ks.length := by omega
      go_wp2_with (fail)
      go_returns
      rw [List.take_of_length_le (by simp)]
      exact ⟨rfl, hbw⟩
end Go.Proofs.Ytdjbfneniohaaaa
