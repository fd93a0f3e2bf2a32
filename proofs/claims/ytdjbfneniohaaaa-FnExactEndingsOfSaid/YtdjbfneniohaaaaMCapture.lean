/- Own data of Capture: copies, marks. -/
import Derived.Test.YtdjbfneniohaaaaHCapture
import Derived.Test.YtdjbfneniohaaaaOw
import Derived.Test.YtdjbfneniohaaaaMk
namespace Go.Proofs.Ytdjbfneniohaaaa
set_option linter.unusedVariables false
set_option linter.unusedSimpArgs false
set_option maxRecDepth 100000
open Go.RowKit

theorem TCapture.vals_own {w : World} {L : List Nat} {x0 : Int} {x1 : Int} {x2 : Int} {vs : List Value} (h : Dat.OwnVals w L (TCapture.mk x0 x1 x2).D vs) : L = [] ∧ vs = [.int .i64 x0, .int .i64 x1, .int .i64 x2] ∧ InI x0 ∧ InI x1 ∧ InI x2 := by
  rw [TCapture.D_mk] at h
  have hl := h.length
  match vs, hl, h with
  | [u0, u1, u2], _, h =>
  simp only [Dat.OwnVals] at h
  obtain ⟨M0, N0, e0, h0, M1, N1, e1, h1, M2, N2, e2, h2, en⟩ := h
  subst en
  subst e2
  subst e1
  subst e0
  obtain ⟨rfl, rfl, g0⟩ := Dat.own_int.1 h0
  obtain ⟨rfl, rfl, g1⟩ := Dat.own_int.1 h1
  obtain ⟨rfl, rfl, g2⟩ := Dat.own_int.1 h2
  exact ⟨by simp only [List.nil_append, List.append_nil], by simp only [List.length_map], g0, g1, g2⟩
theorem TCapture.own_mk {w : World} {x0 : Int} {x1 : Int} {x2 : Int} (h0 : InI x0) (h1 : InI x1) (h2 : InI x2) : Dat.OwnVals w ([]) (TCapture.mk x0 x1 x2).D [.int .i64 x0, .int .i64 x1, .int .i64 x2] := by
  rw [TCapture.D_mk]
  exact ⟨[], _, (List.nil_append _).symm, Dat.own_int.2 ⟨rfl, rfl, h0⟩, ⟨[], _, (List.nil_append _).symm, Dat.own_int.2 ⟨rfl, rfl, h1⟩, ⟨[], _, (List.nil_append _).symm, Dat.own_int.2 ⟨rfl, rfl, h2⟩, rfl⟩⟩⟩
/-- A row's element, and how another is put in its place. -/
theorem TCapture.cnt_mk {x0 : Int} {x1 : Int} {x2 : Int} : Dat.cntC (TCapture.mk x0 x1 x2).D = 3 := by
  simp only [TCapture.D_mk, Dat.cntC, Dat.cnt]; (try omega)
theorem TCapture.mark_own {w : World} {m : Int} {x0 : Int} {x1 : Int} {x2 : Int} (h0 : 0 ≤ m) (hm : m + (3 : Nat) ≤ 4611686018427387904)  : Dat.OwnVals w ([]) (Dat.markC m (TCapture.mk x0 x1 x2).D) [.int .i64 (m), .int .i64 (m + 1), .int .i64 (m + 1 + 1)] := by
  have e : Dat.markC m (TCapture.mk x0 x1 x2).D = [.int (m), .int (m + 1), .int (m + 1 + 1)] := by
    simp only [TCapture.D_mk, Dat.markC, Dat.mark, Dat.cnt]
    first | rfl | (simp only [Nat.cast_one]; done) | (simp; done) | (push_cast; simp)
  rw [e]
  exact ⟨[], _, (List.nil_append _).symm, Dat.own_int.2 ⟨rfl, rfl, InI.of_le (by omega) (by omega)⟩, ⟨[], _, (List.nil_append _).symm, Dat.own_int.2 ⟨rfl, rfl, InI.of_le (by omega) (by omega)⟩, ⟨[], _, (List.nil_append _).symm, Dat.own_int.2 ⟨rfl, rfl, InI.of_le (by omega) (by omega)⟩, rfl⟩⟩⟩
theorem TCapture.mark_vals {w : World} {S : Nat → Prop} {m : Int} {x0 : Int} {x1 : Int} {x2 : Int} {vs : List Value} (h : Dat.HoldVals w S (Dat.markC m (TCapture.mk x0 x1 x2).D) vs) : vs = [.int .i64 (m), .int .i64 (m + 1), .int .i64 (m + 1 + 1)] := by
  have e : Dat.markC m (TCapture.mk x0 x1 x2).D = [.int (m), .int (m + 1), .int (m + 1 + 1)] := by
    simp only [TCapture.D_mk, Dat.markC, Dat.mark, Dat.cnt]
    first | rfl | (simp only [Nat.cast_one]; done) | (simp; done) | (push_cast; simp)
  rw [e] at h
  match vs, h with
  | [u0, u1, u2], h =>
  simp only [Dat.HoldVals] at h
  obtain ⟨h0, h1, h2, -⟩ := h
  obtain ⟨rfl, -⟩ := Dat.holds_int.1 h0
  obtain ⟨rfl, -⟩ := Dat.holds_int.1 h1
  obtain ⟨rfl, -⟩ := Dat.holds_int.1 h2
  exact rfl
set_option maxHeartbeats 2000000 in
theorem markCaptureS_any (ks : List TCapture) (L : List Nat) (w : World) (A : Option Addr) (c : Nat) (k : Int) (hR : OwnRow w L 3 A c (ks.map TCapture.D)) (hnd : L.Nodup) (h0 : 0 ≤ k) (hb : k + (Dat.cntR (ks.map TCapture.D) : Nat) ≤ 4611686018427387904) :
    Calls Try.prog 42 #[.slice A ks.length c, .int .i64 k] w (Marked w L 3 A c k (ks.map TCapture.D)) := by
  have HR := hide hR
  have HN := hide hnd
  have hlen := hR.1
  have hcm := hR.2.1
  simp only [List.length_map] at hlen
  unfold maxLen at hcm
  clear hR hnd
  go_enter Try.func42, Try.ntmps42
  go_wp2_with (fail)
  go_loopw [1, 5] (fun kv iv wr => ∃ i : Nat, i ≤ ks.length ∧ iv = .int .i64 i ∧ kv = .int .i64 (k + (Dat.cntR ((ks.map TCapture.D).take i) : Nat)) ∧ Hid (OwnRow wr L 3 A c (Dat.markTo k i (ks.map TCapture.D))) ∧ OffS (fun x => x ∉ L) w wr) (fun _ iv _ => ks.length - (intOf iv).toNat)
  case atStart => exact ⟨0, Nat.zero_le _, rfl, by simp [Dat.cntR], (by rw [Dat.markTo_zero]; exact HR.out), osl⟩
  case round =>
    obtain ⟨i, hi, rfl, rfl, hO, hoff⟩ := hrel
    rcases Nat.lt_or_ge i ks.length with hlt | hge
    · have hd : decide ((i : Int) < (ks.length : Int)) = true := by simp; omega
      have hi0 : 0 ≤ (i : Int) := by omega
      have hi1 : (i : Int) < (ks.length : Int) := by omega
      obtain ⟨x0, x1, x2, hx⟩ : ∃ x0 x1 x2, ks[i] = .mk x0 x1 x2 := by cases ks[i]; exact ⟨_, _, _, rfl⟩
      have HX := hide hx
      have ht := Dat.cntR_take (ks.map TCapture.D) i (by simpa using hlt)
      have hle := Dat.cntR_le (ks.map TCapture.D) (i + 1)
      simp only [List.getElem_map, hx, TCapture.cnt_mk] at ht
      obtain ⟨m, hm⟩ : ∃ m : Int, k + (Dat.cntR ((ks.map TCapture.D).take i) : Nat) = m := ⟨_, rfl⟩
      have hm0 : 0 ≤ m := by omega
      have hm1 : m + 3 ≤ 4611686018427387904 := by omega
      have HE := hide (show k + (Dat.cntR ((ks.map TCapture.D).take (i + 1)) : Nat) = m + 3 by omega)
      rw [hm]
      have HM := hide hm
      obtain ⟨b, o, L1, Le, L2, vs, rfl, hb1, hf1, hLe, hv, hvl, hc, hput⟩ := OwnRow.at hO.out i (by rw [Dat.markTo_length]; simpa using hlt)
      rw [Dat.markTo_get k i _ (by simpa using hlt), List.getElem_map, hx] at hv
      obtain ⟨hEL, rfl, g0, g1, g2⟩ := TCapture.vals_own hv
      have hEL2 := hEL.symm
      clear hEL
      subst hEL2
      have z0 : wr.cell? ⟨b, o + i * 3, none⟩ = some (.int .i64 x0) := by simpa using hc 0 (by decide)
      have z1 : wr.cell? ⟨b, o + i * 3 + 1, none⟩ = some (.int .i64 x1) := by simpa using hc 1 (by decide)
      have z2 : wr.cell? ⟨b, o + i * 3 + 2, none⟩ = some (.int .i64 x2) := by simpa using hc 2 (by decide)
      obtain ⟨hbL, hLeL, hbLe, hnLe, hrest⟩ := own_parts hLe HN.out
      have HP := hide hput
      have HLe := hide hLe
      have HL2 := hide hLeL
      have HRS := hide hrest
      clear hv hc hx ht hle hm hnLe hput hLe hLeL hrest
      go_wp2_with (fail)
      go_roundw
      case rel =>
       refine ⟨i + 1, by omega, by go_num, by rw [HE.out]; first | done | go_num, ?_, osl⟩
       rw [← Dat.markTo_succ k i _ (by simpa using hlt)]
       refine hide ?_
       rw [List.getElem_map, HX.out, HM.out]
       refine HP.out _ _ [.int .i64 (m), .int .i64 (m + 1), .int .i64 (m + 1 + 1)] (TCapture.mark_own (m := m) (x0 := x0) (x1 := x1) (x2 := x2) hm0 (by omega)) rfl (by (try simp only [World.size_alloc, World.size_setCell, World.size_drew, World.heap_drewN]); omega) (fun z hz => ?_) (fun z => by simp [go_sem, hf1]) (fun z hz => ?_) (cells_of3 (by simp [go_sem, z0, z1, z2]) (by simp [go_sem, z0, z1, z2]) (by simp [go_sem, z0, z1, z2]))
       · exact OffS.same (S := fun x => x ∉ ([]) ∧ x ≠ b) (w := wr) osl z ⟨(HRS.out z hz).1, (HRS.out z hz).2.1⟩ (hO.out.lt z (HRS.out z hz).2.2)
       · have n0 : z ≠ o + i * 3 := by omega
         have n1 : z ≠ o + i * 3 + 1 := by omega
         have n2 : z ≠ o + i * 3 + 2 := by omega
         simp [go_sem, n0, n1, n2]
      case measure => simp [intOf]; omega
    · have hd : decide ((i : Int) < (ks.length : Int)) = false := by simp; omega
      obtain rfl : i = ks.length := by omega
      have HO2 := hide (show OwnRow wr L 3 A c (Dat.markR k (ks.map TCapture.D)) from by have := hO.out; rw [Dat.markTo_all _ _ _ (by simp)] at this; exact this)
      go_wp2_with (fail)
      go_returns
      rw [List.take_of_length_le (by simp)]
      exact ⟨rfl, HO2.out, hoff⟩
set_option maxHeartbeats 2000000 in
theorem heldCaptureS_any (ks : List TCapture) (S : Nat → Prop) (w : World) (A : Option Addr) (c : Nat) (k : Int) (hR : Row w S 3 A c (Dat.markR k (ks.map TCapture.D))) (h0 : 0 ≤ k) (hb : k + (Dat.cntR (ks.map TCapture.D) : Nat) ≤ 4611686018427387904) :
    Calls Try.prog 43 #[.slice A ks.length c, .int .i64 k] w fun e w' => e = .returned (.int .i64 (k + (Dat.cntR (ks.map TCapture.D) : Nat))) ∧ Bel w w' := by
  have HR := hide hR
  have hlen := hR.1
  have hcm := hR.2.1
  simp only [Dat.markR_length, List.length_map] at hlen
  unfold maxLen at hcm
  clear hR
  go_enter Try.func43, Try.ntmps43
  go_wp2_with (fail)
  go_loopw [1, 5] (fun kv iv wr => ∃ i : Nat, i ≤ ks.length ∧ iv = .int .i64 i ∧ kv = .int .i64 (k + (Dat.cntR ((ks.map TCapture.D).take i) : Nat)) ∧ Bel w wr) (fun _ iv _ => ks.length - (intOf iv).toNat)
  case atStart => exact ⟨0, Nat.zero_le _, rfl, by simp [Dat.cntR], bl⟩
  case round =>
    obtain ⟨i, hi, rfl, rfl, hbw⟩ := hrel
    rcases Nat.lt_or_ge i ks.length with hlt | hge
    · have hd : decide ((i : Int) < (ks.length : Int)) = true := by simp; omega
      have hi0 : 0 ≤ (i : Int) := by omega
      have hi1 : (i : Int) < (ks.length : Int) := by omega
      obtain ⟨x0, x1, x2, hx⟩ : ∃ x0 x1 x2, ks[i] = .mk x0 x1 x2 := by cases ks[i]; exact ⟨_, _, _, rfl⟩
      have HX := hide hx
      have ht := Dat.cntR_take (ks.map TCapture.D) i (by simpa using hlt)
      have hle := Dat.cntR_le (ks.map TCapture.D) (i + 1)
      simp only [List.getElem_map, hx, TCapture.cnt_mk] at ht
      obtain ⟨m, hm⟩ : ∃ m : Int, k + (Dat.cntR ((ks.map TCapture.D).take i) : Nat) = m := ⟨_, rfl⟩
      have hm0 : 0 ≤ m := by omega
      have hm1 : m + 3 ≤ 4611686018427387904 := by omega
      have HE := hide (show k + (Dat.cntR ((ks.map TCapture.D).take (i + 1)) : Nat) = m + 3 by omega)
      rw [hm]
      have HM := hide hm
      obtain ⟨b, o, vs, rfl, -, hb1, hv, hvl, hc⟩ := Row.at HR.out i (by rw [Dat.markR_length]; simpa using hlt)
      rw [Dat.markR_get _ k i (by simpa using hlt), List.getElem_map, hx, hm] at hv
      obtain rfl := TCapture.mark_vals hv
      have z0 : wr.cell? ⟨b, o + i * 3, none⟩ = some (.int .i64 (m)) := by rw [hbw.box b hb1]; simpa using hc 0 (by decide)
      have z1 : wr.cell? ⟨b, o + i * 3 + 1, none⟩ = some (.int .i64 (m + 1)) := by rw [hbw.box b hb1]; simpa using hc 1 (by decide)
      have z2 : wr.cell? ⟨b, o + i * 3 + 2, none⟩ = some (.int .i64 (m + 1 + 1)) := by rw [hbw.box b hb1]; simpa using hc 2 (by decide)
      have hblt : b < wr.heap.size := Nat.lt_of_lt_of_le hb1 hbw.size
      clear hv hc hx ht hle hm
      go_wp2_with (fail)
      all_goals
        go_roundw
        case rel => exact ⟨i + 1, by omega, by go_num, (by rw [HE.out]; first | done | go_num), bl⟩
        case measure => simp [intOf]; omega
    · have hd : decide ((i : Int) < (ks.length : Int)) = false := by simp; omega
      obtain rfl : i = ks.length := by omega
      go_wp2_with (fail)
      go_returns
      rw [List.take_of_length_le (by simp)]
      exact ⟨rfl, hbw⟩
end Go.Proofs.Ytdjbfneniohaaaa
