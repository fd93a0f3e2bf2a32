/- The walk of FnRuns. -/
import Derived.Test.YtmikipcfepgogaaF12
import Derived.Test.YtmikipcfepgogaaA5
namespace Go.Proofs.Ytmikipcfepgogaa
set_option linter.unusedVariables false
set_option linter.unusedSimpArgs false
set_option maxRecDepth 100000
open Go.RowKit

theorem lawBig_any (A : Option Addr) (n cap : Nat) (w : World) :
    Calls Try.prog 25 #[.slice A n cap] w fun e w' => e = .returned (.bool (decide ((1048576 : Int) < (n : Int)))) ∧ w = w' := by
  go_enter Try.func25, Try.ntmps25
  go_wp2
  all_goals
    go_returns
    exact ⟨rfl, rfl⟩
theorem anyAt_good {lo hi : Int} {s : ByteArray} {n : Int} (h : anyAt lo hi s n = true) : goodPl s n = true := by
  simp only [anyAt, Bool.and_eq_true] at h
  exact h.1.1
theorem good_next {lo hi : Int} {s : ByteArray} {n : Int} (h : anyAt lo hi s n = true) : goodPl s (n + 1) = true := by
  have h1 := (goodPl_iff s n).1 (anyAt_good h)
  simp only [anyAt, Bool.and_eq_true, decide_eq_true_eq] at h
  exact (goodPl_iff s (n + 1)).2 ⟨h1.1, by omega, by omega⟩
set_option maxHeartbeats 2000000 in
theorem FnRuns_walk (A : Option Addr) (n cap : Nat) (w : World) (hB : ∀ c, w.heap.size ≤ c → n ≤ 1048576 → Bts w c A n) :
    Calls Try.prog 5 #[.slice A n cap] w fun e w' => e = .returned (.bool true) ∧ Bel w w' := by
  have HB := hide hB
  clear hB
  by_cases hn : n ≤ 1048576
  case neg =>
    have hd := hide (show decide ((1048576 : Int) < (n : Int)) = true by simp; omega)
    go_enter Try.func5, Try.ntmps5
    go_wp2_with (go_at_call 25; refine (lawBig_any A n cap _).mono ?_; rintro e w1 ⟨rfl, rfl⟩; rw [hd.out])
    all_goals
      go_returns
      exact ⟨rfl, (by repeat' (first | with_reducible exact Bel.refl _ | with_reducible assumption | with_reducible refine Bel.set ?_ ?_ _ | with_reducible refine Bel.alloc ?_ _ | with_reducible refine Bel.drew ?_ | with_reducible refine Bel.drewN ?_ _ | with_reducible refine Bel.trans ?_ (by with_reducible assumption) | (simp; done) | (simp; omega) | refine Bel.alloc ?_ _ | refine Bel.drew ?_ | refine Bel.drewN ?_ _ | refine Bel.set ?_ ?_ _))⟩
  have hd := hide (show decide ((1048576 : Int) < (n : Int)) = false by simp; omega)
  go_enter Try.func5, Try.ntmps5
  go_upto_region 4 with (first
    | (go_at_call 25; refine (lawBig_any A n cap _).mono ?_; rintro e w1 ⟨rfl, rfl⟩; rw [hd.out])
    | (go_at_call 26; refine (drawManyAt_any A n cap _ hn (fun c h => HB.out c h hn)).mono ?_; rintro e w1 ⟨lo, hi, s, at0, h0, h1, h2, h3, rfl, hb1⟩; have Hb1 := hide hb1; have H3 := hide h3; have hz1 := hb1.size; clear h0 h1 h3 hb1))
  refine gen_world1 fun w2 hb2 => ?_
  have X := Box2.on Box2.new hb2
  obtain ⟨x0, x1, x2, x3, x4⟩ := X
  have Hw2 := hide (Bel.trans (Bel.alloc Hb1.out _) hb2)
  have l0 := x4
  clear hb2 Hb1
  have hs : s.size ≤ maxLen := by unfold maxLen; omega
  have HS := hide hs
  clear hs
  have h3 := H3.out
  unfold InI at h3
  cases hq : anyAt lo hi s at0
  · have HQ := hide hq
    have HM : Hid (manyAtN lo hi s at0 = 0) := by show _ = _; unfold manyAtN; rw [hq]; rfl
    clear hq
    go_wp2_with (first
      | (go_at_call 27; refine (implManyAt_any lo hi s at0 _ HS.out).mono ?_; rintro e w3 ⟨rfl, hb3⟩; rw [HQ.out, HM.out]; (have hz3 := hb3.size; (try simp only [World.size_alloc, World.size_setCell, World.size_drew] at hz3); have hk3_0 := hb3.box (w1.heap.size) (by first | (simp; done) | (simp; omega) | omega); have hf3_0 := hb3.boxf (w1.heap.size) (by first | (simp; done) | (simp; omega) | omega); have hl3_0 : w1.heap.size < w3.heap.size := (by omega); have hn3_0 : ¬ w1.heap.size = w3.heap.size := (by omega)))
      | (go_at_call 28; refine (implAnyAt_any lo hi s at0 _ HS.out).mono ?_; rintro e w4 ⟨rfl, hb4⟩; rw [HQ.out]; (have hz4 := hb4.size; (try simp only [World.size_alloc, World.size_setCell, World.size_drew] at hz4); have hk4_0 := hb4.box (w1.heap.size) (by first | (simp; done) | (simp; omega) | omega); have hf4_0 := hb4.boxf (w1.heap.size) (by first | (simp; done) | (simp; omega) | omega); have hl4_0 : w1.heap.size < w4.heap.size := (by omega); have hn4_0 : ¬ w1.heap.size = w4.heap.size := (by omega)))
      | (go_at_call 29; refine (specManyAt_any lo hi s at0 _ HS.out).mono ?_; rintro e w5 ⟨rfl, hb5⟩; rw [HQ.out, HM.out]; (have hz5 := hb5.size; (try simp only [World.size_alloc, World.size_setCell, World.size_drew] at hz5); have hk5_0 := hb5.box (w1.heap.size) (by first | (simp; done) | (simp; omega) | omega); have hf5_0 := hb5.boxf (w1.heap.size) (by first | (simp; done) | (simp; omega) | omega); have hl5_0 : w1.heap.size < w5.heap.size := (by omega); have hn5_0 : ¬ w1.heap.size = w5.heap.size := (by omega))))
    go_loopw [12] (fun iv wr => (∃ k : Int, iv = .int .i64 k) ∧ Bel w wr) (fun _ _ => 0)
    case atStart => exact ⟨⟨_, rfl⟩, Bel.trans Hw2.out (by repeat' (first | with_reducible exact Bel.refl _ | with_reducible assumption | with_reducible refine Bel.set ?_ ?_ _ | with_reducible refine Bel.alloc ?_ _ | with_reducible refine Bel.drew ?_ | with_reducible refine Bel.drewN ?_ _ | with_reducible refine Bel.trans ?_ (by with_reducible assumption) | (simp; done) | (simp; omega) | refine Bel.alloc ?_ _ | refine Bel.drew ?_ | refine Bel.drewN ?_ _ | refine Bel.set ?_ ?_ _))⟩
    case round =>
      obtain ⟨⟨k, rfl⟩, hbw⟩ := hrel
      go_wp2_with (fail)
      all_goals
        go_returns
        exact ⟨rfl, hbw⟩
  · have HQ := hide hq
    have hg := anyAt_good hq
    have hst := manyEnd_step lo hi s at0 hq
    have hle := manyEnd_le lo hi s at0 hg
    have HM : Hid (manyAtN lo hi s at0 = manyEnd lo hi s at0) := by show _ = _; unfold manyAtN; rw [hq]; rfl
    have HG := hide hg
    obtain ⟨-, s1, s2, s3⟩ := hst
    clear hq hg
    generalize hE : manyEnd lo hi s at0 = E at HM hle s3
    have HE := hide hE
    clear hE
    go_wp2_with (first
      | (go_at_call 27; refine (implManyAt_any lo hi s at0 _ HS.out).mono ?_; rintro e w3 ⟨rfl, hb3⟩; rw [HQ.out, HM.out]; (have hz3 := hb3.size; (try simp only [World.size_alloc, World.size_setCell, World.size_drew] at hz3); have hk3_0 := hb3.box (w1.heap.size) (by first | (simp; done) | (simp; omega) | omega); have hf3_0 := hb3.boxf (w1.heap.size) (by first | (simp; done) | (simp; omega) | omega); have hl3_0 : w1.heap.size < w3.heap.size := (by omega); have hn3_0 : ¬ w1.heap.size = w3.heap.size := (by omega)))
      | (go_at_call 28; refine (implAnyAt_any lo hi s at0 _ HS.out).mono ?_; rintro e w4 ⟨rfl, hb4⟩; rw [HQ.out]; (have hz4 := hb4.size; (try simp only [World.size_alloc, World.size_setCell, World.size_drew] at hz4); have hk4_0 := hb4.box (w1.heap.size) (by first | (simp; done) | (simp; omega) | omega); have hf4_0 := hb4.boxf (w1.heap.size) (by first | (simp; done) | (simp; omega) | omega); have hl4_0 : w1.heap.size < w4.heap.size := (by omega); have hn4_0 : ¬ w1.heap.size = w4.heap.size := (by omega)))
      | (go_at_call 29; refine (specManyAt_any lo hi s at0 _ HS.out).mono ?_; rintro e w5 ⟨rfl, hb5⟩; rw [HQ.out, HM.out]; (have hz5 := hb5.size; (try simp only [World.size_alloc, World.size_setCell, World.size_drew] at hz5); have hk5_0 := hb5.box (w1.heap.size) (by first | (simp; done) | (simp; omega) | omega); have hf5_0 := hb5.boxf (w1.heap.size) (by first | (simp; done) | (simp; omega) | omega); have hl5_0 : w1.heap.size < w5.heap.size := (by omega); have hn5_0 : ¬ w1.heap.size = w5.heap.size := (by omega))))
    go_loopw [12] (fun iv wr => (∃ k : Int, iv = .int .i64 k ∧ at0 ≤ k ∧ k ≤ E + 1 ∧ Hid (k ≤ E → manyEnd lo hi s k = E ∧ goodPl s k = true)) ∧ Bel w2 wr) (fun iv _ => (E + 1 - intOf iv).toNat)
    case atStart => exact ⟨⟨_, rfl, by omega, by omega, fun _ => ⟨HE.out, HG.out⟩⟩, (by repeat' (first | with_reducible exact Bel.refl _ | with_reducible assumption | with_reducible refine Bel.set ?_ ?_ _ | with_reducible refine Bel.alloc ?_ _ | with_reducible refine Bel.drew ?_ | with_reducible refine Bel.drewN ?_ _ | with_reducible refine Bel.trans ?_ (by with_reducible assumption) | (simp; done) | (simp; omega) | refine Bel.alloc ?_ _ | refine Bel.drew ?_ | refine Bel.drewN ?_ _ | refine Bel.set ?_ ?_ _))⟩
    case round =>
      obtain ⟨⟨k, rfl, k1, k2, HK⟩, hbw⟩ := hrel
      have y0 := (hbw.box w1.heap.size l0 0).trans x0
      have y1 := (hbw.box w1.heap.size l0 1).trans x1
      have yl := Nat.lt_of_lt_of_le l0 hbw.size
      by_cases hk : k ≤ E
      · have dk : decide (k ≤ E) = true := by simp [hk]
        obtain ⟨e1, e2⟩ := HK.out hk
        cases ha : anyAt lo hi s k
        · have hst := manyEnd_stay lo hi s k e2 ha
          have hke : k = E := by omega
          have dk2 : decide (k < E) = false := by simp; omega
          have HA := hide ha
          have HN : Hid (k + 1 ≤ E → manyEnd lo hi s (k + 1) = E ∧ goodPl s (k + 1) = true) := fun h => by omega
          have HKE := hide hke
          clear ha e1 e2 hst hke
          go_wp2_with (go_at_call 28; refine (implAnyAt_any lo hi s k _ HS.out).mono ?_; rintro e w6 ⟨rfl, hb6⟩; rw [HA.out])
          all_goals
            go_roundw
            case rel => exact ⟨⟨_, rfl, by omega, by omega, HN⟩, (by repeat' (first | with_reducible exact Bel.refl _ | with_reducible assumption | with_reducible refine Bel.set ?_ ?_ _ | with_reducible refine Bel.alloc ?_ _ | with_reducible refine Bel.drew ?_ | with_reducible refine Bel.drewN ?_ _ | with_reducible refine Bel.trans ?_ (by with_reducible assumption) | (simp; done) | (simp; omega) | refine Bel.alloc ?_ _ | refine Bel.drew ?_ | refine Bel.drewN ?_ _ | refine Bel.set ?_ ?_ _))⟩
            case measure => simp [intOf]; omega
        · have hst := manyEnd_step lo hi s k ha
          have hke : k + 1 ≤ E := by omega
          have dk2 : decide (k < E) = true := by simp; omega
          have HA := hide ha
          have hgn := good_next ha
          have HN : Hid (k + 1 ≤ E → manyEnd lo hi s (k + 1) = E ∧ goodPl s (k + 1) = true) := fun _ => ⟨by omega, hgn⟩
          clear ha e1 e2 hst hgn
          go_wp2_with (go_at_call 28; refine (implAnyAt_any lo hi s k _ HS.out).mono ?_; rintro e w6 ⟨rfl, hb6⟩; rw [HA.out])
          all_goals
            go_roundw
            case rel => exact ⟨⟨_, rfl, by omega, by omega, HN⟩, (by repeat' (first | with_reducible exact Bel.refl _ | with_reducible assumption | with_reducible refine Bel.set ?_ ?_ _ | with_reducible refine Bel.alloc ?_ _ | with_reducible refine Bel.drew ?_ | with_reducible refine Bel.drewN ?_ _ | with_reducible refine Bel.trans ?_ (by with_reducible assumption) | (simp; done) | (simp; omega) | refine Bel.alloc ?_ _ | refine Bel.drew ?_ | refine Bel.drewN ?_ _ | refine Bel.set ?_ ?_ _))⟩
            case measure => simp [intOf]; omega
      · have dk : decide (k ≤ E) = false := by simp; omega
        go_wp2_with (fail)
        all_goals
          go_returns
          exact ⟨rfl, Bel.trans Hw2.out hbw⟩
end Go.Proofs.Ytmikipcfepgogaa
