/- IntegerOfText of the program. -/
import Derived.Test.YtmikipcfepgogaaDoorE11
namespace Go.Proofs.YtmikipcfepgogaaDoor
set_option linter.unusedVariables false
set_option linter.unusedSimpArgs false
set_option maxRecDepth 100000
open Go.RowKit

set_option maxHeartbeats 4000000 in
theorem implIot_any (s : ByteArray) (w : World) (hs : s.size ≤ maxLen) :
    Calls Tryd.prog 93 #[.string s] w fun e w' => e = .returned (.tuple #[.int .i64 (iot s).1, .bool (iot s).2]) ∧ Bel w w' := by
  unfold maxLen at hs
  go_enter Tryd.func93, Tryd.ntmps93
  go_wp2_with (fail)
  go_loopw [4] (fun v wr => ∃ m : Nat, v = .int .i64 m ∧ m ≤ s.size ∧ Hid (ld s m = iotI s) ∧ Bel w wr) (fun v _ => s.size - (intOf v).toNat)
  case atStart => exact ⟨0, rfl, by omega, rfl, (by repeat' (first | with_reducible exact Bel.refl _ | with_reducible assumption | with_reducible refine Bel.set ?_ ?_ _ | with_reducible refine Bel.alloc ?_ _ | with_reducible refine Bel.drew ?_ | with_reducible refine Bel.drewN ?_ _ | with_reducible refine Bel.trans ?_ (by with_reducible assumption) | (simp; done) | (simp; omega) | refine Bel.alloc ?_ _ | refine Bel.drew ?_ | refine Bel.drewN ?_ _ | refine Bel.set ?_ ?_ _))⟩
  case round =>
    obtain ⟨m, rfl, m1, hm, hbw⟩ := hrel
    have hw1 : m < s.size → IntKind.i64.wrap ((m : Int) + 1) = (m : Int) + 1 := fun _ => by rw [IntKind.wrap_i64]; omega
    by_cases hc : m < s.size ∧ byteAt s m = 32
    · obtain ⟨h1, h2⟩ := hc
      have hd : decide ((m : Int) < (s.size : Int)) = true := by simp; omega
      have hB := byteAt_eq s m h1
      rw [h2] at hB
      have hE := hide (ld_yes h1 h2)
      go_wp2_with (fail)
      exact ⟨⟨m + 1, rfl, h1, hide (hE.out.trans hm.out), hbw⟩, by simp only [intOf]; omega⟩
    · have hnot := hide hc
      have hI : Hid (iotI s = m) := by rw [← hm.out]; exact ld_no hc
      clear hc hm
      by_cases h1 : m < s.size
      have hd : decide ((m : Int) < (s.size : Int)) = true := by simp; omega
      have hB := hide (byteAt_eq s m h1)
      have h2 : ¬ s[m].toNat = 32 := by rw [hB.out]; exact fun e => hnot.out ⟨h1, e⟩
      go_wp2_with (fail)
      rotate_left
      have hd : decide ((m : Int) < (s.size : Int)) = false := by simp; omega
      go_wp2_with (fail)
      all_goals
        go_loopw [5] (fun v wr => ∃ z : Nat, v = .int .i64 z ∧ z ≤ s.size ∧ m ≤ z ∧ Hid (tr s m z = iotZ s) ∧ Bel w wr) (fun v _ => (intOf v).toNat)
        case atStart => exact ⟨s.size, rfl, by omega, by omega, by unfold iotZ; rw [hI.out]; rfl, (by repeat' (first | with_reducible exact Bel.refl _ | with_reducible assumption | with_reducible refine Bel.set ?_ ?_ _ | with_reducible refine Bel.alloc ?_ _ | with_reducible refine Bel.drew ?_ | with_reducible refine Bel.drewN ?_ _ | with_reducible refine Bel.trans ?_ (by with_reducible assumption) | (simp; done) | (simp; omega) | refine Bel.alloc ?_ _ | refine Bel.drew ?_ | refine Bel.drewN ?_ _ | refine Bel.set ?_ ?_ _))⟩
        case round =>
          clear hw1
          obtain ⟨z, rfl, z1, z2, hz, hbw⟩ := hrel
          have hw1 : m < z → IntKind.i64.wrap ((z : Int) - 1) = (z : Int) - 1 := fun _ => by rw [IntKind.wrap_i64]; omega
          by_cases hc : m < z ∧ byteAt s (z - 1) = 32
          · obtain ⟨g1, g2⟩ := hc
            have hd2 : decide ((m : Int) < (z : Int)) = true := by simp; omega
            have hlt : z - 1 < s.size := by omega
            have hB2 := byteAt_eq s (z - 1) hlt
            rw [g2] at hB2
            have hE := hide (tr_yes g1 g2)
            have i1 : 0 ≤ (z : Int) - 1 := by omega
            have i2 : (z : Int) - 1 < s.size := by omega
            go_wp2_with (fail)
            clear hw1
            exact ⟨⟨z - 1, by congr 1; omega, by omega, by omega, hide (hE.out.trans hz.out), hbw⟩, by simp only [intOf]; omega⟩
          · have hZ : Hid (iotZ s = z) := by rw [← hz.out]; exact tr_no hc
            have hnot2 := hide hc
            clear hc hz
            by_cases g1 : m < z
            · (try (exfalso; omega))
              all_goals
                have h1 : m < s.size := by omega
                have hB := hide (byteAt_eq s m h1)
                have hd2 : decide ((m : Int) < (z : Int)) = true := by simp; omega
                have hlt : z - 1 < s.size := by omega
                have hB2 := hide (byteAt_eq s (z - 1) hlt)
                have g2 : ¬ s[z - 1].toNat = 32 := by rw [hB2.out]; exact fun e => hnot2.out ⟨g1, e⟩
                have i1 : 0 ≤ (z : Int) - 1 := by omega
                have i2 : (z : Int) - 1 < s.size := by omega
                have hlt' : iotI s < iotZ s := by rw [hI.out, hZ.out]; exact g1
                rcases (show byteAt s m = 45 ∨ byteAt s m = 43 ∨ (¬ byteAt s m = 45 ∧ ¬ byteAt s m = 43) by omega) with hs1 | hs1 | hs1
                · obtain ⟨A1, A2'⟩ := sign_minus hlt' (by rw [hI.out]; exact hs1)
                  have A2 := hide A2'
                  clear A2'
                  rw [hI.out] at A1
                  have hM : s[m].toNat = 45 := hB.out.trans hs1
                  have HA := hide A1
                  clear A1
                  by_cases k1 : z < (m + 1) + 1
                  · have hF := hide (iot_short (s := s) (by rw [HA.out, hZ.out]; exact k1))
                    go_wp2_with (fail)
                    all_goals
                      go_returns
                      rw [hF.out]
                      exact ⟨rfl, (by repeat' (first | with_reducible exact Bel.refl _ | with_reducible assumption | with_reducible refine Bel.set ?_ ?_ _ | with_reducible refine Bel.alloc ?_ _ | with_reducible refine Bel.drew ?_ | with_reducible refine Bel.drewN ?_ _ | with_reducible refine Bel.trans ?_ (by with_reducible assumption) | (simp; done) | (simp; omega) | refine Bel.alloc ?_ _ | refine Bel.drew ?_ | refine Bel.drewN ?_ _ | refine Bel.set ?_ ?_ _))⟩
                  · by_cases k2 : (m + 1) + 12 < z
                    · have hF := hide (iot_long (s := s) (by rw [HA.out, hZ.out]; exact k2))
                      go_wp2_with (fail)
                      all_goals
                        go_returns
                        rw [hF.out]
                        exact ⟨rfl, (by repeat' (first | with_reducible exact Bel.refl _ | with_reducible assumption | with_reducible refine Bel.set ?_ ?_ _ | with_reducible refine Bel.alloc ?_ _ | with_reducible refine Bel.drew ?_ | with_reducible refine Bel.drewN ?_ _ | with_reducible refine Bel.trans ?_ (by with_reducible assumption) | (simp; done) | (simp; omega) | refine Bel.alloc ?_ _ | refine Bel.drew ?_ | refine Bel.drewN ?_ _ | refine Bel.set ?_ ?_ _))⟩
                    · go_wp2_with (fail)
                      go_loopw [4, 7] (fun av nv wr => ∃ (a : Nat) (v : Int), av = .int .i64 a ∧ nv = .int .i64 v ∧ a ≤ z ∧ (m + 1) ≤ a ∧ Hid (dv s z a v = dv s z (m + 1) 0) ∧ VB v (a - (m + 1)) ∧ Bel w wr) (fun av _ _ => z - (intOf av).toNat)
                      case atStart => exact ⟨m + 1, 0, rfl, rfl, by omega, by omega, rfl, by rw [Nat.sub_self]; exact VB.zero, (by repeat' (first | with_reducible exact Bel.refl _ | with_reducible assumption | with_reducible refine Bel.set ?_ ?_ _ | with_reducible refine Bel.alloc ?_ _ | with_reducible refine Bel.drew ?_ | with_reducible refine Bel.drewN ?_ _ | with_reducible refine Bel.trans ?_ (by with_reducible assumption) | (simp; done) | (simp; omega) | refine Bel.alloc ?_ _ | refine Bel.drew ?_ | refine Bel.drewN ?_ _ | refine Bel.set ?_ ?_ _))⟩
                      case round =>
                        clear hw1
                        obtain ⟨a, v, rfl, rfl, a1, a2, hv, hb, hbw⟩ := hrel
                        obtain ⟨v1, v2⟩ := hb.le (by omega)
                        by_cases q1 : a < z
                        · have hd3 : decide ((a : Int) < (z : Int)) = true := by simp; omega
                          have hlt3 : a < s.size := by omega
                          have hB3 := hide (byteAt_eq s a hlt3)
                          by_cases q2 : 48 ≤ byteAt s a ∧ byteAt s a ≤ 57
                          · have hE3 := hide (dv_yes (v := v) q1 q2)
                            have hb2 := hb.step q2.1 q2.2
                            have l1 : 48 ≤ s[a].toNat := by rw [hB3.out]; exact q2.1
                            have l2 : s[a].toNat ≤ 57 := by rw [hB3.out]; exact q2.2
                            have w3 : IntKind.u8.wrap ((s[a].toNat : Int) - 48) = (s[a].toNat : Int) - 48 := by rw [IntKind.wrap_u8]; omega
                            obtain ⟨q3, q4⟩ := q2
                            go_wp2_with (fail)
                            refine ⟨⟨a + 1, 10 * v + byteAt s a - 48, rfl, by congr 1; rw [hB3.out]; (try omega), by omega, by omega, hide (hE3.out.trans hv.out), by rw [show a + 1 - (m + 1) = a - (m + 1) + 1 by omega]; exact hb2, hbw⟩, by simp only [intOf]; omega⟩
                          · have hF := hide (iot_bad (s := s) (by rw [hZ.out, HA.out]; exact hv.out.symm.trans (dv_bad q1 q2)))
                            rcases (show s[a].toNat < 48 ∨ 57 < s[a].toNat by rw [hB3.out]; omega) with l1 | l1
                            all_goals
                              go_wp2_with (fail)
                              all_goals
                                go_returns
                                rw [hF.out]
                                exact ⟨rfl, (by repeat' (first | with_reducible exact Bel.refl _ | with_reducible assumption | with_reducible refine Bel.set ?_ ?_ _ | with_reducible refine Bel.alloc ?_ _ | with_reducible refine Bel.drew ?_ | with_reducible refine Bel.drewN ?_ _ | with_reducible refine Bel.trans ?_ (by with_reducible assumption) | (simp; done) | (simp; omega) | refine Bel.alloc ?_ _ | refine Bel.drew ?_ | refine Bel.drewN ?_ _ | refine Bel.set ?_ ?_ _))⟩
                        · have hd3 : decide ((a : Int) < (z : Int)) = false := by simp; omega
                          have hF := hide (iot_good (s := s) (v := v) (by rw [hZ.out, HA.out]; exact k1) (by rw [hZ.out, HA.out]; exact k2) (by rw [hZ.out, HA.out]; exact hv.out.symm.trans (dv_end q1)))
                          go_wp2_with (fail)
                          all_goals
                            go_returns
                            rw [hF.out, A2.out]
                            exact ⟨rfl, (by repeat' (first | with_reducible exact Bel.refl _ | with_reducible assumption | with_reducible refine Bel.set ?_ ?_ _ | with_reducible refine Bel.alloc ?_ _ | with_reducible refine Bel.drew ?_ | with_reducible refine Bel.drewN ?_ _ | with_reducible refine Bel.trans ?_ (by with_reducible assumption) | (simp; done) | (simp; omega) | refine Bel.alloc ?_ _ | refine Bel.drew ?_ | refine Bel.drewN ?_ _ | refine Bel.set ?_ ?_ _))⟩
                · obtain ⟨A1, A2'⟩ := sign_plus hlt' (by rw [hI.out]; exact hs1)
                  have A2 := hide A2'
                  clear A2'
                  rw [hI.out] at A1
                  have hM : s[m].toNat = 43 := hB.out.trans hs1
                  have HA := hide A1
                  clear A1
                  by_cases k1 : z < (m + 1) + 1
                  · have hF := hide (iot_short (s := s) (by rw [HA.out, hZ.out]; exact k1))
                    go_wp2_with (fail)
                    all_goals
                      go_returns
                      rw [hF.out]
                      exact ⟨rfl, (by repeat' (first | with_reducible exact Bel.refl _ | with_reducible assumption | with_reducible refine Bel.set ?_ ?_ _ | with_reducible refine Bel.alloc ?_ _ | with_reducible refine Bel.drew ?_ | with_reducible refine Bel.drewN ?_ _ | with_reducible refine Bel.trans ?_ (by with_reducible assumption) | (simp; done) | (simp; omega) | refine Bel.alloc ?_ _ | refine Bel.drew ?_ | refine Bel.drewN ?_ _ | refine Bel.set ?_ ?_ _))⟩
                  · by_cases k2 : (m + 1) + 12 < z
                    · have hF := hide (iot_long (s := s) (by rw [HA.out, hZ.out]; exact k2))
                      go_wp2_with (fail)
                      all_goals
                        go_returns
                        rw [hF.out]
                        exact ⟨rfl, (by repeat' (first | with_reducible exact Bel.refl _ | with_reducible assumption | with_reducible refine Bel.set ?_ ?_ _ | with_reducible refine Bel.alloc ?_ _ | with_reducible refine Bel.drew ?_ | with_reducible refine Bel.drewN ?_ _ | with_reducible refine Bel.trans ?_ (by with_reducible assumption) | (simp; done) | (simp; omega) | refine Bel.alloc ?_ _ | refine Bel.drew ?_ | refine Bel.drewN ?_ _ | refine Bel.set ?_ ?_ _))⟩
                    · go_wp2_with (fail)
                      go_loopw [4, 7] (fun av nv wr => ∃ (a : Nat) (v : Int), av = .int .i64 a ∧ nv = .int .i64 v ∧ a ≤ z ∧ (m + 1) ≤ a ∧ Hid (dv s z a v = dv s z (m + 1) 0) ∧ VB v (a - (m + 1)) ∧ Bel w wr) (fun av _ _ => z - (intOf av).toNat)
                      case atStart => exact ⟨m + 1, 0, rfl, rfl, by omega, by omega, rfl, by rw [Nat.sub_self]; exact VB.zero, (by repeat' (first | with_reducible exact Bel.refl _ | with_reducible assumption | with_reducible refine Bel.set ?_ ?_ _ | with_reducible refine Bel.alloc ?_ _ | with_reducible refine Bel.drew ?_ | with_reducible refine Bel.drewN ?_ _ | with_reducible refine Bel.trans ?_ (by with_reducible assumption) | (simp; done) | (simp; omega) | refine Bel.alloc ?_ _ | refine Bel.drew ?_ | refine Bel.drewN ?_ _ | refine Bel.set ?_ ?_ _))⟩
                      case round =>
                        clear hw1
                        obtain ⟨a, v, rfl, rfl, a1, a2, hv, hb, hbw⟩ := hrel
                        obtain ⟨v1, v2⟩ := hb.le (by omega)
                        by_cases q1 : a < z
                        · have hd3 : decide ((a : Int) < (z : Int)) = true := by simp; omega
                          have hlt3 : a < s.size := by omega
                          have hB3 := hide (byteAt_eq s a hlt3)
                          by_cases q2 : 48 ≤ byteAt s a ∧ byteAt s a ≤ 57
                          · have hE3 := hide (dv_yes (v := v) q1 q2)
                            have hb2 := hb.step q2.1 q2.2
                            have l1 : 48 ≤ s[a].toNat := by rw [hB3.out]; exact q2.1
                            have l2 : s[a].toNat ≤ 57 := by rw [hB3.out]; exact q2.2
                            have w3 : IntKind.u8.wrap ((s[a].toNat : Int) - 48) = (s[a].toNat : Int) - 48 := by rw [IntKind.wrap_u8]; omega
                            obtain ⟨q3, q4⟩ := q2
                            go_wp2_with (fail)
                            refine ⟨⟨a + 1, 10 * v + byteAt s a - 48, rfl, by congr 1; rw [hB3.out]; (try omega), by omega, by omega, hide (hE3.out.trans hv.out), by rw [show a + 1 - (m + 1) = a - (m + 1) + 1 by omega]; exact hb2, hbw⟩, by simp only [intOf]; omega⟩
                          · have hF := hide (iot_bad (s := s) (by rw [hZ.out, HA.out]; exact hv.out.symm.trans (dv_bad q1 q2)))
                            rcases (show s[a].toNat < 48 ∨ 57 < s[a].toNat by rw [hB3.out]; omega) with l1 | l1
                            all_goals
                              go_wp2_with (fail)
                              all_goals
                                go_returns
                                rw [hF.out]
                                exact ⟨rfl, (by repeat' (first | with_reducible exact Bel.refl _ | with_reducible assumption | with_reducible refine Bel.set ?_ ?_ _ | with_reducible refine Bel.alloc ?_ _ | with_reducible refine Bel.drew ?_ | with_reducible refine Bel.drewN ?_ _ | with_reducible refine Bel.trans ?_ (by with_reducible assumption) | (simp; done) | (simp; omega) | refine Bel.alloc ?_ _ | refine Bel.drew ?_ | refine Bel.drewN ?_ _ | refine Bel.set ?_ ?_ _))⟩
                        · have hd3 : decide ((a : Int) < (z : Int)) = false := by simp; omega
                          have hF := hide (iot_good (s := s) (v := v) (by rw [hZ.out, HA.out]; exact k1) (by rw [hZ.out, HA.out]; exact k2) (by rw [hZ.out, HA.out]; exact hv.out.symm.trans (dv_end q1)))
                          go_wp2_with (fail)
                          all_goals
                            go_returns
                            rw [hF.out, A2.out]
                            exact ⟨rfl, (by repeat' (first | with_reducible exact Bel.refl _ | with_reducible assumption | with_reducible refine Bel.set ?_ ?_ _ | with_reducible refine Bel.alloc ?_ _ | with_reducible refine Bel.drew ?_ | with_reducible refine Bel.drewN ?_ _ | with_reducible refine Bel.trans ?_ (by with_reducible assumption) | (simp; done) | (simp; omega) | refine Bel.alloc ?_ _ | refine Bel.drew ?_ | refine Bel.drewN ?_ _ | refine Bel.set ?_ ?_ _))⟩
                · obtain ⟨A1, A2'⟩ := sign_digit (by rw [hI.out]; exact hs1.1) (by rw [hI.out]; exact hs1.2)
                  have A2 := hide A2'
                  clear A2'
                  rw [hI.out] at A1
                  have hM1 : ¬ s[m].toNat = 45 := fun e => hs1.1 (hB.out.symm.trans e)
                  have hM2 : ¬ s[m].toNat = 43 := fun e => hs1.2 (hB.out.symm.trans e)
                  have hM3 : ((s[m].toNat : Int) == 45) = false := by simp; omega
                  have hM4 : ((s[m].toNat : Int) == 43) = false := by simp; omega
                  have HA := hide A1
                  clear A1
                  by_cases k1 : z < (m) + 1
                  · have hF := hide (iot_short (s := s) (by rw [HA.out, hZ.out]; exact k1))
                    go_wp2_with (fail)
                    all_goals
                      go_returns
                      rw [hF.out]
                      exact ⟨rfl, (by repeat' (first | with_reducible exact Bel.refl _ | with_reducible assumption | with_reducible refine Bel.set ?_ ?_ _ | with_reducible refine Bel.alloc ?_ _ | with_reducible refine Bel.drew ?_ | with_reducible refine Bel.drewN ?_ _ | with_reducible refine Bel.trans ?_ (by with_reducible assumption) | (simp; done) | (simp; omega) | refine Bel.alloc ?_ _ | refine Bel.drew ?_ | refine Bel.drewN ?_ _ | refine Bel.set ?_ ?_ _))⟩
                  · by_cases k2 : (m) + 12 < z
                    · have hF := hide (iot_long (s := s) (by rw [HA.out, hZ.out]; exact k2))
                      go_wp2_with (fail)
                      all_goals
                        go_returns
                        rw [hF.out]
                        exact ⟨rfl, (by repeat' (first | with_reducible exact Bel.refl _ | with_reducible assumption | with_reducible refine Bel.set ?_ ?_ _ | with_reducible refine Bel.alloc ?_ _ | with_reducible refine Bel.drew ?_ | with_reducible refine Bel.drewN ?_ _ | with_reducible refine Bel.trans ?_ (by with_reducible assumption) | (simp; done) | (simp; omega) | refine Bel.alloc ?_ _ | refine Bel.drew ?_ | refine Bel.drewN ?_ _ | refine Bel.set ?_ ?_ _))⟩
                    · go_wp2_with (fail)
                      go_loopw [4, 7] (fun av nv wr => ∃ (a : Nat) (v : Int), av = .int .i64 a ∧ nv = .int .i64 v ∧ a ≤ z ∧ (m) ≤ a ∧ Hid (dv s z a v = dv s z (m) 0) ∧ VB v (a - (m)) ∧ Bel w wr) (fun av _ _ => z - (intOf av).toNat)
                      case atStart => exact ⟨m, 0, rfl, rfl, by omega, by omega, rfl, by rw [Nat.sub_self]; exact VB.zero, (by repeat' (first | with_reducible exact Bel.refl _ | with_reducible assumption | with_reducible refine Bel.set ?_ ?_ _ | with_reducible refine Bel.alloc ?_ _ | with_reducible refine Bel.drew ?_ | with_reducible refine Bel.drewN ?_ _ | with_reducible refine Bel.trans ?_ (by with_reducible assumption) | (simp; done) | (simp; omega) | refine Bel.alloc ?_ _ | refine Bel.drew ?_ | refine Bel.drewN ?_ _ | refine Bel.set ?_ ?_ _))⟩
                      case round =>
                        clear hw1
                        obtain ⟨a, v, rfl, rfl, a1, a2, hv, hb, hbw⟩ := hrel
                        obtain ⟨v1, v2⟩ := hb.le (by omega)
                        by_cases q1 : a < z
                        · have hd3 : decide ((a : Int) < (z : Int)) = true := by simp; omega
                          have hlt3 : a < s.size := by omega
                          have hB3 := hide (byteAt_eq s a hlt3)
                          by_cases q2 : 48 ≤ byteAt s a ∧ byteAt s a ≤ 57
                          · have hE3 := hide (dv_yes (v := v) q1 q2)
                            have hb2 := hb.step q2.1 q2.2
                            have l1 : 48 ≤ s[a].toNat := by rw [hB3.out]; exact q2.1
                            have l2 : s[a].toNat ≤ 57 := by rw [hB3.out]; exact q2.2
                            have w3 : IntKind.u8.wrap ((s[a].toNat : Int) - 48) = (s[a].toNat : Int) - 48 := by rw [IntKind.wrap_u8]; omega
                            obtain ⟨q3, q4⟩ := q2
                            go_wp2_with (fail)
                            refine ⟨⟨a + 1, 10 * v + byteAt s a - 48, rfl, by congr 1; rw [hB3.out]; (try omega), by omega, by omega, hide (hE3.out.trans hv.out), by rw [show a + 1 - (m) = a - (m) + 1 by omega]; exact hb2, hbw⟩, by simp only [intOf]; omega⟩
                          · have hF := hide (iot_bad (s := s) (by rw [hZ.out, HA.out]; exact hv.out.symm.trans (dv_bad q1 q2)))
                            rcases (show s[a].toNat < 48 ∨ 57 < s[a].toNat by rw [hB3.out]; omega) with l1 | l1
                            all_goals
                              go_wp2_with (fail)
                              all_goals
                                go_returns
                                rw [hF.out]
                                exact ⟨rfl, (by repeat' (first | with_reducible exact Bel.refl _ | with_reducible assumption | with_reducible refine Bel.set ?_ ?_ _ | with_reducible refine Bel.alloc ?_ _ | with_reducible refine Bel.drew ?_ | with_reducible refine Bel.drewN ?_ _ | with_reducible refine Bel.trans ?_ (by with_reducible assumption) | (simp; done) | (simp; omega) | refine Bel.alloc ?_ _ | refine Bel.drew ?_ | refine Bel.drewN ?_ _ | refine Bel.set ?_ ?_ _))⟩
                        · have hd3 : decide ((a : Int) < (z : Int)) = false := by simp; omega
                          have hF := hide (iot_good (s := s) (v := v) (by rw [hZ.out, HA.out]; exact k1) (by rw [hZ.out, HA.out]; exact k2) (by rw [hZ.out, HA.out]; exact hv.out.symm.trans (dv_end q1)))
                          go_wp2_with (fail)
                          all_goals
                            go_returns
                            rw [hF.out, A2.out]
                            exact ⟨rfl, (by repeat' (first | with_reducible exact Bel.refl _ | with_reducible assumption | with_reducible refine Bel.set ?_ ?_ _ | with_reducible refine Bel.alloc ?_ _ | with_reducible refine Bel.drew ?_ | with_reducible refine Bel.drewN ?_ _ | with_reducible refine Bel.trans ?_ (by with_reducible assumption) | (simp; done) | (simp; omega) | refine Bel.alloc ?_ _ | refine Bel.drew ?_ | refine Bel.drewN ?_ _ | refine Bel.set ?_ ?_ _))⟩
            · have hd2 : decide ((m : Int) < (z : Int)) = false := by simp; omega
              have hF := hide (iot_short (s := s) (by rw [(sign_none (by rw [hI.out, hZ.out]; exact g1)).1, hI.out, hZ.out]; omega))
              go_wp2_with (fail)
              all_goals
                go_returns
                rw [hF.out]
                exact ⟨rfl, (by repeat' (first | with_reducible exact Bel.refl _ | with_reducible assumption | with_reducible refine Bel.set ?_ ?_ _ | with_reducible refine Bel.alloc ?_ _ | with_reducible refine Bel.drew ?_ | with_reducible refine Bel.drewN ?_ _ | with_reducible refine Bel.trans ?_ (by with_reducible assumption) | (simp; done) | (simp; omega) | refine Bel.alloc ?_ _ | refine Bel.drew ?_ | refine Bel.drewN ?_ _ | refine Bel.set ?_ ?_ _))⟩

end Go.Proofs.YtmikipcfepgogaaDoor
