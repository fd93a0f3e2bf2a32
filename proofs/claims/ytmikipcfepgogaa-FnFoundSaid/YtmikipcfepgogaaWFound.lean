/- The walk of FnFound. -/
import Derived.Test.YtmikipcfepgogaaF12
import Derived.Test.YtmikipcfepgogaaA8
import Derived.Test.YtmikipcfepgogaaD
namespace Go.Proofs.Ytmikipcfepgogaa
set_option linter.unusedVariables false
set_option linter.unusedSimpArgs false
set_option maxRecDepth 100000
open Go.RowKit

theorem lawBig2_any (A : Option Addr) (n cap : Nat) (w : World) :
    Calls Try.prog 25 #[.slice A n cap] w fun e w' => e = .returned (.bool (decide ((1048576 : Int) < (n : Int)))) ∧ w = w' := by
  go_enter Try.func25, Try.ntmps25
  go_wp2
  all_goals
    go_returns
    exact ⟨rfl, rfl⟩
/-- What a search says of each place. -/
theorem found_law (p s : ByteArray) (n k : Int) (h1 : 1 ≤ k) (h2 : k ≤ s.size + 1) (hs : s.size ≤ 120) :
    (matchAt p s k = true → n ≤ k → 1 ≤ n → findOk p s n = true ∧ findN p s n ≤ k) ∧ (findOk p s n = true → k = findN p s n → matchAt p s k = true) := by
  constructor
  · intro hm hnk hn1
    have hg : goodPl s n = true := (goodPl_iff s n).2 ⟨hs, hn1, by omega⟩
    unfold findOk findN
    rw [hg]
    cases hf : findR p s n with
    | none =>
      have := findF_none p s _ _ hf k.toNat (by omega) (by omega)
      rw [show ((k.toNat : Nat) : Int) = k by omega, hm] at this
      cases this
    | some r =>
      obtain ⟨r1, r2, r3, r4⟩ := findF_some p s _ _ r hf
      refine ⟨rfl, ?_⟩
      show (r : Int) ≤ k
      rcases Nat.lt_or_ge k.toNat r with hlt | hge
      · have := r4 k.toNat (by omega) hlt
        rw [show ((k.toNat : Nat) : Int) = k by omega, hm] at this
        cases this
      · omega
  · intro ho hk
    unfold findOk at ho
    unfold findN at hk
    simp only [Bool.and_eq_true] at ho
    rw [ho.1] at hk
    cases hf : findR p s n with
    | none => rw [hf] at ho; simp at ho
    | some r =>
      obtain ⟨r1, r2, r3, r4⟩ := findF_some p s _ _ r hf
      rw [hf] at hk
      simp at hk
      rw [hk]
      exact r3
set_option maxHeartbeats 4000000 in
theorem FnFound_walk (A : Option Addr) (n cap : Nat) (w : World) (hB : ∀ c, w.heap.size ≤ c → n ≤ 1048576 → Bts w c A n) (hsh : w.ShapedOpen Try.prog) :
    Calls Try.prog 7 #[.slice A n cap] w fun e w' => e = .returned (.bool true) ∧ Bel w w' := by
  obtain ⟨mx, hmx⟩ := Try.laysM143.s1_3 w hsh
  have HMX := hide hmx
  have h00 := (cell_in' hmx).2
  have H00 := hide h00
  have HB := hide hB
  clear hB hmx hsh h00
  by_cases hn : n ≤ 1048576
  case neg =>
    have hd := hide (show decide ((1048576 : Int) < (n : Int)) = true by simp; omega)
    go_enter Try.func7, Try.ntmps7
    go_wp2_with (go_at_call 25; refine (lawBig2_any A n cap _).mono ?_; rintro e w1 ⟨rfl, rfl⟩; rw [hd.out])
    all_goals
      go_returns
      exact ⟨rfl, (by repeat' (first | with_reducible exact Bel.refl _ | with_reducible assumption | with_reducible refine Bel.set ?_ ?_ _ | with_reducible refine Bel.alloc ?_ _ | with_reducible refine Bel.drew ?_ | with_reducible refine Bel.drewN ?_ _ | with_reducible refine Bel.trans ?_ (by with_reducible assumption) | (simp; done) | (simp; omega) | refine Bel.alloc ?_ _ | refine Bel.drew ?_ | refine Bel.drewN ?_ _ | refine Bel.set ?_ ?_ _))⟩
  have hd := hide (show decide ((1048576 : Int) < (n : Int)) = false by simp; omega)
  go_enter Try.func7, Try.ntmps7
  go_upto_region 4 with (first
    | (go_at_call 25; refine (lawBig2_any A n cap _).mono ?_; rintro e w1 ⟨rfl, rfl⟩; rw [hd.out])
    | (go_at_call 32; refine (drawFindFrom_any A n cap _ hn (fun c h => HB.out c h hn)).mono ?_; rintro e w1 ⟨p, s, at0, h1, h2, h3, rfl, hb1⟩; have Hb1 := hide hb1; have H3 := hide h3; have HMX1 : Hid (w1.cell? ⟨0, 0, none⟩ = some (.int .i64 mx)) := (hb1.box 0 H00.out 0).trans HMX.out; clear h3 hb1))
  have HP : Hid (p.size ≤ maxLen) := by show _ ≤ _; unfold maxLen; omega
  have HS : Hid (s.size ≤ maxLen) := by show _ ≤ _; unfold maxLen; omega
  have h3 := H3.out
  unfold InI at h3
  have hfn : 0 ≤ findN p s at0 ∧ findN p s at0 ≤ 1000 := by
    unfold findN
    split
    · cases hf : findR p s at0 with
      | none => simp
      | some r =>
        obtain ⟨r1, r2, -, -⟩ := findF_some p s _ _ r hf
        simp
        omega
    · omega
  generalize hO : findOk p s at0 = ok
  generalize hF : findN p s at0 = N at hfn
  have HO := hide hO
  have HF := hide hF
  clear hO hF
  go_wp2_with (first
    | (go_at_call 33; refine (implFindFrom_any p s at0 _ HS.out mx HMX1.out).mono ?_; rintro e w' ⟨rfl, rfl⟩; rw [HO.out, HF.out])
    | (go_at_call 34; refine (specFindFrom_any p s at0 _ HP.out HS.out).mono ?_; rintro e w' ⟨rfl, rfl⟩; rw [HO.out]))
  go_loopw [10, 11, 12] (fun iv _ _ wr => (∃ k : Nat, iv = .int .i64 k ∧ 1 ≤ k ∧ k ≤ s.size + 2) ∧ w1 = wr) (fun iv _ _ _ => s.size + 2 - (intOf iv).toNat)
  case atStart => exact ⟨⟨1, rfl, by omega, by omega⟩, rfl⟩
  case round =>
    obtain ⟨⟨k, rfl, k1, k2⟩, rfl⟩ := hrel
    by_cases hk : k ≤ s.size + 1
    · have dk : decide ((k : Int) ≤ (s.size : Int) + 1) = true := by simp; omega
      by_cases hz : s.size ≤ 120
      · have dz : decide ((s.size : Int) ≤ 120) = true := by simp; omega
        obtain ⟨L1, L2⟩ := found_law p s at0 k (by omega) (by omega) hz
        rw [HO.out, HF.out] at L1 L2
        have HL1 := hide L1
        have HL2 := hide L2
        clear L1 L2
        cases hm : matchAt p s k
        · have HMt := hide hm
          clear hm
          cases ok
          · go_wp2_with (go_at_call 35; refine (implMatchAt_any p s k _ HP.out HS.out).mono ?_; rintro e w' ⟨rfl, rfl⟩; rw [HMt.out])
            all_goals
              go_roundw
              case rel => exact ⟨⟨k + 1, by go_num, by omega, by omega⟩, trivial⟩
              case measure => simp [intOf]; omega
          · have hne : ¬ (k : Int) = N := fun e => by have := HL2.out rfl e; rw [HMt.out] at this; cases this
            have dn : ((k : Int) == N) = false := by simp [hne]
            go_wp2_with (go_at_call 35; refine (implMatchAt_any p s k _ HP.out HS.out).mono ?_; rintro e w' ⟨rfl, rfl⟩; rw [HMt.out])
            all_goals
              go_roundw
              case rel => exact ⟨⟨k + 1, by go_num, by omega, by omega⟩, trivial⟩
              case measure => simp [intOf]; omega
        · have HMt := hide hm
          have L := HL1.out hm
          have HL := hide L
          clear hm L
          by_cases ha : at0 ≤ k
          · have da : decide (at0 ≤ (k : Int)) = true := by simp [ha]
            by_cases hb : 1 ≤ at0
            · have db : decide (1 ≤ at0) = true := by simp [hb]
              obtain ⟨ho, hle⟩ := HL.out ha hb
              subst ho
              have dl : decide ((k : Int) < N) = false := by simp; omega
              by_cases he : (k : Int) = N
              · have de : ((k : Int) == N) = true := by simp [he]
                have HE := hide he
                clear he
                go_wp2_with (go_at_call 35; refine (implMatchAt_any p s k _ HP.out HS.out).mono ?_; rintro e w' ⟨rfl, rfl⟩; rw [HMt.out])
                all_goals
                  go_roundw
                  case rel => exact ⟨⟨k + 1, by go_num, by omega, by omega⟩, trivial⟩
                  case measure => simp [intOf]; omega
              · have de : ((k : Int) == N) = false := by simp [he]
                go_wp2_with (go_at_call 35; refine (implMatchAt_any p s k _ HP.out HS.out).mono ?_; rintro e w' ⟨rfl, rfl⟩; rw [HMt.out])
                all_goals
                  go_roundw
                  case rel => exact ⟨⟨k + 1, by go_num, by omega, by omega⟩, trivial⟩
                  case measure => simp [intOf]; omega
            · have db : decide (1 ≤ at0) = false := by simp; omega
              cases ok
              all_goals
                by_cases he : (k : Int) = N
                · have de : ((k : Int) == N) = true := by simp [he]
                  have HE := hide he
                  clear he
                  go_wp2_with (go_at_call 35; refine (implMatchAt_any p s k _ HP.out HS.out).mono ?_; rintro e w' ⟨rfl, rfl⟩; rw [HMt.out])
                  all_goals
                    go_roundw
                    case rel => exact ⟨⟨k + 1, by go_num, by omega, by omega⟩, trivial⟩
                    case measure => simp [intOf]; omega
                · have de : ((k : Int) == N) = false := by simp [he]
                  go_wp2_with (go_at_call 35; refine (implMatchAt_any p s k _ HP.out HS.out).mono ?_; rintro e w' ⟨rfl, rfl⟩; rw [HMt.out])
                  all_goals
                    go_roundw
                    case rel => exact ⟨⟨k + 1, by go_num, by omega, by omega⟩, trivial⟩
                    case measure => simp [intOf]; omega
          · have da : decide (at0 ≤ (k : Int)) = false := by simp; omega
            cases ok
            all_goals
              by_cases he : (k : Int) = N
              · have de : ((k : Int) == N) = true := by simp [he]
                have HE := hide he
                clear he
                go_wp2_with (go_at_call 35; refine (implMatchAt_any p s k _ HP.out HS.out).mono ?_; rintro e w' ⟨rfl, rfl⟩; rw [HMt.out])
                all_goals
                  go_roundw
                  case rel => exact ⟨⟨k + 1, by go_num, by omega, by omega⟩, trivial⟩
                  case measure => simp [intOf]; omega
              · have de : ((k : Int) == N) = false := by simp [he]
                go_wp2_with (go_at_call 35; refine (implMatchAt_any p s k _ HP.out HS.out).mono ?_; rintro e w' ⟨rfl, rfl⟩; rw [HMt.out])
                all_goals
                  go_roundw
                  case rel => exact ⟨⟨k + 1, by go_num, by omega, by omega⟩, trivial⟩
                  case measure => simp [intOf]; omega
      · have dz : decide ((s.size : Int) ≤ 120) = false := by simp; omega
        go_wp2_with (fail)
        all_goals
          go_returns
          exact ⟨rfl, Hb1.out⟩
    · have dk : decide ((k : Int) ≤ (s.size : Int) + 1) = false := by simp; omega
      go_wp2_with (fail)
      all_goals
        go_returns
        exact ⟨rfl, Hb1.out⟩
end Go.Proofs.Ytmikipcfepgogaa
