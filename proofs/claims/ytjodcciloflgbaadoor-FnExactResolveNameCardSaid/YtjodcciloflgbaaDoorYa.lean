/- What a name means outside of procedures: both sides. -/
import Derived.Test.YtjodcciloflgbaaDoorY6
import Derived.Test.YtjodcciloflgbaaDoorE2
import Derived.Deep.RegionHeld3
import Derived.Deep.Cut
import Derived.OwnWalk
namespace Go.Proofs.YtjodcciloflgbaaDoor
set_option linter.unusedVariables false
set_option linter.unusedSimpArgs false
set_option maxRecDepth 100000
open Go.RowKit

theorem idx_hit {l : List ByteArray} {x : ByteArray} {m : Nat} (hm : m < l.length) (h : l[m] = x) (hn : ∀ j (hj : j < l.length), j < m → l[j] ≠ x) : Lib.idxOfS l x = m := by
  have := Lib.idxFromS_hit x l m 0 hm (by rw [getD_lt2 l m hm]; exact h) (fun j hj => by rw [getD_lt2 l j (by omega)]; exact hn j (by omega) hj)
  simpa [Lib.idxOfS] using this
theorem idx_miss {l : List ByteArray} {x : ByteArray} (hn : ∀ j (hj : j < l.length), l[j] ≠ x) : Lib.idxOfS l x = -1 :=
  Lib.idxFromS_miss x l 0 fun j hj => by rw [getD_lt2 l j hj]; exact hn j hj
/-- What a name means: its kind and its place. -/
def outP (R : List TRecordType) (G : List ByteArray) (P : List TProcedure) (x : ByteArray) : Int × Int :=
  if 0 ≤ Lib.idxOfS (R.map TRecordType.name) x then (5, Lib.idxOfS (R.map TRecordType.name) x) else if 0 ≤ Lib.idxOfS G x then (2, Lib.idxOfS G x) else if 0 ≤ Lib.idxOfS (P.map TProcedure.nm) x then (3, Lib.idxOfS (P.map TProcedure.nm) x)
  else if 0 ≤ funNumber x then (4, funNumber x) else (0, 0)
theorem out_5 {R : List TRecordType} {G : List ByteArray} {P : List TProcedure} {x : ByteArray} {m : Nat} (hm : m < R.length) (h : R[m].name = x) (hn : ∀ j (hj : j < R.length), j < m → R[j].name ≠ x) : outP R G P x = (5, (m : Int)) := by
  have e : Lib.idxOfS (R.map TRecordType.name) x = m := idx_hit (by simpa using hm) (by simpa using h) (fun j hj hjm => by simpa using hn j (by simpa using hj) hjm)
  unfold outP
  rw [e, if_pos (by omega)]
theorem out_2 {R : List TRecordType} {G : List ByteArray} {P : List TProcedure} {x : ByteArray} (hr : ∀ j (hj : j < R.length), R[j].name ≠ x) (h : 0 ≤ Lib.idxOfS G x) : outP R G P x = (2, Lib.idxOfS G x) := by
  have e : Lib.idxOfS (R.map TRecordType.name) x = -1 := idx_miss fun j hj => by simpa using hr j (by simpa using hj)
  unfold outP
  rw [e, if_neg (by omega), if_pos h]
theorem out_3 {R : List TRecordType} {G : List ByteArray} {P : List TProcedure} {x : ByteArray} {m : Nat} (hr : ∀ j (hj : j < R.length), R[j].name ≠ x) (hg : Lib.idxOfS G x < 0) (hm : m < P.length) (h : P[m].nm = x) (hn : ∀ j (hj : j < P.length), j < m → P[j].nm ≠ x) : outP R G P x = (3, (m : Int)) := by
  have e : Lib.idxOfS (R.map TRecordType.name) x = -1 := idx_miss fun j hj => by simpa using hr j (by simpa using hj)
  have e3 : Lib.idxOfS (P.map TProcedure.nm) x = m := idx_hit (by simpa using hm) (by simpa using h) (fun j hj hjm => by simpa using hn j (by simpa using hj) hjm)
  unfold outP
  rw [e, if_neg (by omega), if_neg (show ¬ 0 ≤ Lib.idxOfS G x by omega), e3, if_pos (by omega)]
theorem out_4 {R : List TRecordType} {G : List ByteArray} {P : List TProcedure} {x : ByteArray} (hr : ∀ j (hj : j < R.length), R[j].name ≠ x) (hg : Lib.idxOfS G x < 0) (hp : ∀ j (hj : j < P.length), P[j].nm ≠ x) : outP R G P x = if 0 ≤ funNumber x then (4, funNumber x) else (0, 0) := by
  have e : Lib.idxOfS (R.map TRecordType.name) x = -1 := idx_miss fun j hj => by simpa using hr j (by simpa using hj)
  have e3 : Lib.idxOfS (P.map TProcedure.nm) x = -1 := idx_miss fun j hj => by simpa using hp j (by simpa using hj)
  unfold outP
  rw [e, if_neg (by omega), if_neg (show ¬ 0 ≤ Lib.idxOfS G x by omega), e3, if_neg (by omega)]
abbrev OutC (f : FuncId) : Prop := ∀ (R : List TRecordType) (G : List ByteArray) (P : List TProcedure) (x : ByteArray) (S : Nat → Prop) (w : World) (vs : List Value), Sp w → Dat.HoldVals w S (TUnit.mk R G P).D vs →
  Calls Tryd.prog f #[.agg vs.toArray, .string x] w fun e w' => e = .returned (.tuple #[.int .i64 (outP R G P x).1, .int .i64 (outP R G P x).2]) ∧ Bel w w'
theorem ret_two {a b c d : Int} (h1 : a = c) (h2 : b = d) : Ending.returned (.tuple #[.int .i64 a, .int .i64 b]) = .returned (.tuple #[.int .i64 c, .int .i64 d]) := by rw [h1, h2]
set_option maxHeartbeats 4000000 in
theorem l9Outer_any : OutC 24 := by
  intro x0 x1 x2 x S w vs htab hv
  have HT := hide htab
  obtain ⟨A0, c0, A1, c1, A2, c2, rfl, g0, g1, g2⟩ := TUnit.vals hv
  have HR0 := hide g0
  have hlc0 := g0.1
  have hcm0 := g0.2.1
  simp only [List.length_map] at hlc0
  unfold maxLen at hcm0
  have HR1 := hide g1
  have hlc1 := g1.1
  have hcm1 := g1.2.1
  simp only [List.length_map] at hlc1
  unfold maxLen at hcm1
  have HR2 := hide g2
  have hlc2 := g2.1
  have hcm2 := g2.2.1
  simp only [List.length_map] at hlc2
  unfold maxLen at hcm2
  clear hv g0 g1 g2 htab
  go_enter Tryd.func24, Tryd.ntmps24
  go_wp2_with (fail)
  go_loopw [6] (fun v wr => ∃ m : Nat, v = .int .i64 m ∧ m ≤ x0.length ∧ Hid (∀ j (hj : j < x0.length), j < m → x0[j].name ≠ x) ∧ Bel (w.alloc (.cells #[.slice A0 x0.length c0, .slice A1 x1.length c1, .slice A2 x2.length c2] 33)) wr) (fun v _ => x0.length - (intOf v).toNat)
  case atStart => exact ⟨0, rfl, by omega, fun j _ hj => by omega, bl⟩
  case round => as_aux_lemma =>
    obtain ⟨m, rfl, m1, hm, hbx⟩ := hrel
    have hz0 := hbx.size
    simp only [World.size_alloc] at hz0
    have y0 := hbx.box w.heap.size (by simp)
    have hl0 : w.heap.size < wr.heap.size := by omega
    have hq0 : ¬ w.heap.size = wr.heap.size := by omega
    have hbw : Bel w wr := bl
    have e0 : wr.cell? ⟨w.heap.size, 0, none⟩ = some (.slice A0 x0.length c0) := (y0 0).trans (by simp)
    have e1 : wr.cell? ⟨w.heap.size, 1, none⟩ = some (.slice A1 x1.length c1) := (y0 1).trans (by simp)
    have e2 : wr.cell? ⟨w.heap.size, 2, none⟩ = some (.slice A2 x2.length c2) := (y0 2).trans (by simp)
    clear y0
    by_cases h1 : m < x0.length
    case pos => as_aux_lemma =>
      have hd : decide ((m : Int) < (x0.length : Int)) = true := by simp [h1]
      (obtain ⟨b1, o1, x1_0, x1_1, x1_2, A1_1, C1_1, hA1, hS1, hl1, hx1, hv1, g1_0, g1_1, g1_2, c1_0, c1_1, c1_2⟩ := TRecordType.at HR0.out m h1; subst hA1; have HV1 := hide (Dat.HoldVals.bel hbw hv1); have hh1 := hbw.box b1 hl1; have hw1 := Nat.lt_of_lt_of_le hl1 (Bel.size hbw); replace c1_0 := (hh1 _).trans c1_0; replace c1_1 := (hh1 _).trans c1_1; replace c1_2 := (hh1 _).trans c1_2; have HX1 := hide hx1; have GR1_1 := hide g1_1; clear hh1 hv1 hx1 hS1 g1_1)
      have hne1 : ¬ b1 = wr.heap.size := by omega
      have HNM := hide (show x0[m].name = x1_0 by rw [HX1.out]; rfl)
      by_cases hx : x1_0 = x
      case pos => as_aux_lemma =>
        have hb : (x1_0.toList == x.toList) = true := by rw [hx]; simp
        have RR := hide (out_5 (R := x0) (G := x1) (P := x2) h1 (HNM.out.trans hx) (fun j hj hjm => hm.out j hj hjm))
        clear hx
        go_wp2_with (fail)
        all_goals
          go_returns
          exact ⟨by rw [RR.out]; first | done | rfl, bl⟩
      case neg =>
      have hb : (x1_0.toList == x.toList) = false := by rw [beq_eq_false_iff_ne]; exact fun h => hx ((ba_eq _ _).1 h)
      have HNX := hide (show x0[m].name ≠ x by rw [HNM.out]; exact hx)
      clear hx
      go_wp2_with (fail)
      go_roundw
      case rel => exact ⟨m + 1, by go_num, by omega, hide (fun j hj hjm => by
        by_cases e : j = m
        · subst e; exact HNX.out
        · exact hm.out j hj (by omega)), bl⟩
      case measure => simp [intOf]; omega
    case neg =>
    have hd : decide ((m : Int) < (x0.length : Int)) = false := by simp [h1]
    have HN0 := hide (fun j (hj : j < x0.length) => hm.out j hj (by omega))
    clear hm
    obtain ⟨gi, hgi⟩ : ∃ gi, Lib.idxOfS x1 x = gi := ⟨_, rfl⟩
    have HGI := hide hgi
    by_cases hg : 0 ≤ gi
    case pos => as_aux_lemma =>
      have dg : decide (0 ≤ gi) = true := by simpa using hg
      have RR := hide (show outP x0 x1 x2 x = (2, gi) by rw [out_2 (fun j hj => HN0.out j hj) (by rw [hgi]; exact hg), hgi])
      clear hgi hg
      go_wp2_with (go_at_call 23; refine (l9Find_row x1 x S _ _ _ (Row.bel bl HR1.out)).mono ?_; rintro e w1 ⟨rfl, rfl⟩; rw [HGI.out])
      all_goals
        go_returns
        exact ⟨by rw [RR.out]; first | done | rfl, bl⟩
    case neg =>
    have dg : decide (0 ≤ gi) = false := by simpa using hg
    have HG := hide (show Lib.idxOfS x1 x < 0 by rw [hgi]; omega)
    clear hgi hg
    go_wp2_with (go_at_call 23; refine (l9Find_row x1 x S _ _ _ (Row.bel bl HR1.out)).mono ?_; rintro e w1 ⟨rfl, rfl⟩; rw [HGI.out])
    have hbx2 : Bel (w.alloc (.cells #[.slice A0 x0.length c0, .slice A1 x1.length c1, .slice A2 x2.length c2] 33)) wr := hbx
    go_loopw [8] (fun v wr => ∃ m : Nat, v = .int .i64 m ∧ m ≤ x2.length ∧ Hid (∀ j (hj : j < x2.length), j < m → x2[j].nm ≠ x) ∧ Bel (w.alloc (.cells #[.slice A0 x0.length c0, .slice A1 x1.length c1, .slice A2 x2.length c2] 33)) wr) (fun v _ => x2.length - (intOf v).toNat)
    case atStart => exact ⟨0, rfl, by omega, fun j _ hj => by omega, bl⟩
    case round => as_aux_lemma =>
      obtain ⟨m, rfl, m1, hm, hbx⟩ := hrel
      have hz0 := hbx.size
      simp only [World.size_alloc] at hz0
      have y0 := hbx.box w.heap.size (by simp)
      have hl0 : w.heap.size < wr.heap.size := by omega
      have hq0 : ¬ w.heap.size = wr.heap.size := by omega
      have hbw : Bel w wr := bl
      have e0 : wr.cell? ⟨w.heap.size, 0, none⟩ = some (.slice A0 x0.length c0) := (y0 0).trans (by simp)
      have e1 : wr.cell? ⟨w.heap.size, 1, none⟩ = some (.slice A1 x1.length c1) := (y0 1).trans (by simp)
      have e2 : wr.cell? ⟨w.heap.size, 2, none⟩ = some (.slice A2 x2.length c2) := (y0 2).trans (by simp)
      clear y0
      by_cases h1 : m < x2.length
      case pos => as_aux_lemma =>
        have hd : decide ((m : Int) < (x2.length : Int)) = true := by simp [h1]
        (obtain ⟨b1, o1, x1_0, x1_1, x1_2, x1_3, x1_4, x1_5, x1_6, x1_7, x1_8, A1_1, C1_1, A1_2, C1_2, A1_7, C1_7, hA1, hS1, hl1, hx1, hv1, g1_0, g1_1, g1_2, g1_3, g1_4, g1_5, g1_6, g1_7, g1_8, c1_0, c1_1, c1_2, c1_3, c1_4, c1_5, c1_6, c1_7, c1_8⟩ := TProcedure.at HR2.out m h1; subst hA1; have HV1 := hide (Dat.HoldVals.bel hbw hv1); have hh1 := hbw.box b1 hl1; have hw1 := Nat.lt_of_lt_of_le hl1 (Bel.size hbw); replace c1_0 := (hh1 _).trans c1_0; replace c1_1 := (hh1 _).trans c1_1; replace c1_2 := (hh1 _).trans c1_2; replace c1_3 := (hh1 _).trans c1_3; replace c1_4 := (hh1 _).trans c1_4; replace c1_5 := (hh1 _).trans c1_5; replace c1_6 := (hh1 _).trans c1_6; replace c1_7 := (hh1 _).trans c1_7; replace c1_8 := (hh1 _).trans c1_8; have HX1 := hide hx1; have GR1_1 := hide g1_1; have GR1_2 := hide g1_2; have GR1_7 := hide g1_7; clear hh1 hv1 hx1 hS1 g1_1 g1_2 g1_7)
        have hne1 : ¬ b1 = wr.heap.size := by omega
        have HNM := hide (show x2[m].nm = x1_0 by rw [HX1.out]; rfl)
        by_cases hx : x1_0 = x
        case pos => as_aux_lemma =>
          have hb : (x1_0.toList == x.toList) = true := by rw [hx]; simp
          have RR := hide (out_3 (R := x0) (G := x1) (P := x2) (fun j hj => HN0.out j hj) HG.out h1 (HNM.out.trans hx) (fun j hj hjm => hm.out j hj hjm))
          clear hx
          go_wp2_with (fail)
          all_goals
            go_returns
            exact ⟨by rw [RR.out]; first | done | rfl, bl⟩
        case neg =>
        have hb : (x1_0.toList == x.toList) = false := by rw [beq_eq_false_iff_ne]; exact fun h => hx ((ba_eq _ _).1 h)
        have HNX := hide (show x2[m].nm ≠ x by rw [HNM.out]; exact hx)
        clear hx
        go_wp2_with (fail)
        go_roundw
        case rel => exact ⟨m + 1, by go_num, by omega, hide (fun j hj hjm => by
          by_cases e : j = m
          · subst e; exact HNX.out
          · exact hm.out j hj (by omega)), bl⟩
        case measure => simp [intOf]; omega
      case neg =>
      have hd : decide ((m : Int) < (x2.length : Int)) = false := by simp [h1]
      have HN2 := hide (fun j (hj : j < x2.length) => hm.out j hj (by omega))
      clear hm
      have hL : funL.length = 55 := by decide +kernel
      obtain ⟨fi, hfi⟩ : ∃ fi, funNumber x = fi := ⟨_, rfl⟩
      have HFI := hide hfi
      have RR := hide (show outP x0 x1 x2 x = if 0 ≤ fi then (4, fi) else (0, 0) by rw [out_4 (fun j hj => HN0.out j hj) HG.out (fun j hj => HN2.out j hj), hfi])
      clear hfi
      by_cases hf : 0 ≤ fi
      case pos => as_aux_lemma =>
        have df : decide (0 ≤ fi) = true := by simpa using hf
        have RZ := hide (RR.out.trans (by rw [if_pos hf]))
        clear hf
        go_wp2_with (first | (go_at_call 34; refine (l9Functions_any _).mono ?_; rintro e w2 ⟨rfl, rfl⟩; rw [hL]) | (go_at_call 23; refine (show Calls Tryd.prog 23 _ _ (fun e w' => e = .returned (.int .i64 (funNumber x)) ∧ w' = wr.alloc (.cells (funL.map Value.string).toArray 9)) from by have hF := l9Find_any funL wr.heap.size 55 x (wr.alloc (.cells (funL.map Value.string).toArray 9)) (by omega) (fun j hj => strs_cell funL wr j hj); rw [hL] at hF; exact hF).mono ?_; rintro e w3 ⟨rfl, rfl⟩; rw [HFI.out]))
        all_goals
          go_returns
          exact ⟨by rw [RZ.out]; first | done | rfl, bl⟩
      case neg => as_aux_lemma =>
        have df : decide (0 ≤ fi) = false := by simpa using hf
        have RZ := hide (RR.out.trans (by rw [if_neg hf]))
        clear hf
        go_wp2_with (first | (go_at_call 34; refine (l9Functions_any _).mono ?_; rintro e w2 ⟨rfl, rfl⟩; rw [hL]) | (go_at_call 23; refine (show Calls Tryd.prog 23 _ _ (fun e w' => e = .returned (.int .i64 (funNumber x)) ∧ w' = wr.alloc (.cells (funL.map Value.string).toArray 9)) from by have hF := l9Find_any funL wr.heap.size 55 x (wr.alloc (.cells (funL.map Value.string).toArray 9)) (by omega) (fun j hj => strs_cell funL wr j hj); rw [hL] at hF; exact hF).mono ?_; rintro e w3 ⟨rfl, rfl⟩; rw [HFI.out]))
        all_goals
          go_returns
          exact ⟨by rw [RZ.out]; first | done | rfl, bl⟩
set_option maxHeartbeats 4000000 in
theorem outside_any : OutC 31 := by
  intro x0 x1 x2 x S w vs htab hv
  have HT := hide htab
  obtain ⟨A0, c0, A1, c1, A2, c2, rfl, g0, g1, g2⟩ := TUnit.vals hv
  have HR0 := hide g0
  have hlc0 := g0.1
  have hcm0 := g0.2.1
  simp only [List.length_map] at hlc0
  unfold maxLen at hcm0
  have HR1 := hide g1
  have hlc1 := g1.1
  have hcm1 := g1.2.1
  simp only [List.length_map] at hlc1
  unfold maxLen at hcm1
  have HR2 := hide g2
  have hlc2 := g2.1
  have hcm2 := g2.2.1
  simp only [List.length_map] at hlc2
  unfold maxLen at hcm2
  clear hv g0 g1 g2 htab
  go_enter Tryd.func31, Tryd.ntmps31
  go_wp2_with (fail)
  go_loopw [16] (fun v wr => ∃ m : Nat, v = .int .i64 m ∧ m ≤ x0.length ∧ Hid (∀ j (hj : j < x0.length), j < m → x0[j].name ≠ x) ∧ Bel (w.alloc (.cells #[.slice A0 x0.length c0, .slice A1 x1.length c1, .slice A2 x2.length c2] 33)) wr) (fun v _ => x0.length - (intOf v).toNat)
  case atStart => exact ⟨0, rfl, by omega, fun j _ hj => by omega, bl⟩
  case round => as_aux_lemma =>
    obtain ⟨m, rfl, m1, hm, hbx⟩ := hrel
    have hz0 := hbx.size
    simp only [World.size_alloc] at hz0
    have y0 := hbx.box w.heap.size (by simp)
    have hl0 : w.heap.size < wr.heap.size := by omega
    have hq0 : ¬ w.heap.size = wr.heap.size := by omega
    have hbw : Bel w wr := bl
    have e0 : wr.cell? ⟨w.heap.size, 0, none⟩ = some (.slice A0 x0.length c0) := (y0 0).trans (by simp)
    have e1 : wr.cell? ⟨w.heap.size, 1, none⟩ = some (.slice A1 x1.length c1) := (y0 1).trans (by simp)
    have e2 : wr.cell? ⟨w.heap.size, 2, none⟩ = some (.slice A2 x2.length c2) := (y0 2).trans (by simp)
    clear y0
    by_cases h1 : m < x0.length
    case pos => as_aux_lemma =>
      have hd : decide ((m : Int) < (x0.length : Int)) = true := by simp [h1]
      (obtain ⟨b1, o1, x1_0, x1_1, x1_2, A1_1, C1_1, hA1, hS1, hl1, hx1, hv1, g1_0, g1_1, g1_2, c1_0, c1_1, c1_2⟩ := TRecordType.at HR0.out m h1; subst hA1; have HV1 := hide (Dat.HoldVals.bel hbw hv1); have hh1 := hbw.box b1 hl1; have hw1 := Nat.lt_of_lt_of_le hl1 (Bel.size hbw); replace c1_0 := (hh1 _).trans c1_0; replace c1_1 := (hh1 _).trans c1_1; replace c1_2 := (hh1 _).trans c1_2; have HX1 := hide hx1; have GR1_1 := hide g1_1; clear hh1 hv1 hx1 hS1 g1_1)
      have hne1 : ¬ b1 = wr.heap.size := by omega
      have HNM := hide (show x0[m].name = x1_0 by rw [HX1.out]; rfl)
      by_cases hx : x1_0 = x
      case pos => as_aux_lemma =>
        have hb : (x1_0.toList == x.toList) = true := by rw [hx]; simp
        have RR := hide (out_5 (R := x0) (G := x1) (P := x2) h1 (HNM.out.trans hx) (fun j hj hjm => hm.out j hj hjm))
        clear hx
        go_wp2_with (fail)
        all_goals
          go_returns
          exact ⟨by rw [RR.out]; first | done | rfl, bl⟩
      case neg =>
      have hb : (x1_0.toList == x.toList) = false := by rw [beq_eq_false_iff_ne]; exact fun h => hx ((ba_eq _ _).1 h)
      have HNX := hide (show x0[m].name ≠ x by rw [HNM.out]; exact hx)
      clear hx
      go_wp2_with (fail)
      go_roundw
      case rel => exact ⟨m + 1, by go_num, by omega, hide (fun j hj hjm => by
        by_cases e : j = m
        · subst e; exact HNX.out
        · exact hm.out j hj (by omega)), bl⟩
      case measure => simp [intOf]; omega
    case neg =>
    have hd : decide ((m : Int) < (x0.length : Int)) = false := by simp [h1]
    have HN0 := hide (fun j (hj : j < x0.length) => hm.out j hj (by omega))
    clear hm
    go_wp2_with (fail)
    have hbx1 : Bel (w.alloc (.cells #[.slice A0 x0.length c0, .slice A1 x1.length c1, .slice A2 x2.length c2] 33)) wr := hbx
    go_loopw [30] (fun v wr => ∃ m : Nat, v = .int .i64 m ∧ m ≤ x1.length ∧ Hid (∀ j (hj : j < x1.length), j < m → x1[j] ≠ x) ∧ Bel (w.alloc (.cells #[.slice A0 x0.length c0, .slice A1 x1.length c1, .slice A2 x2.length c2] 33)) wr) (fun v _ => x1.length - (intOf v).toNat)
    case atStart => exact ⟨0, rfl, by omega, fun j _ hj => by omega, bl⟩
    case round => as_aux_lemma =>
      obtain ⟨m, rfl, m1, hm, hbx⟩ := hrel
      have hz0 := hbx.size
      simp only [World.size_alloc] at hz0
      have y0 := hbx.box w.heap.size (by simp)
      have hl0 : w.heap.size < wr.heap.size := by omega
      have hq0 : ¬ w.heap.size = wr.heap.size := by omega
      have hbw : Bel w wr := bl
      have e0 : wr.cell? ⟨w.heap.size, 0, none⟩ = some (.slice A0 x0.length c0) := (y0 0).trans (by simp)
      have e1 : wr.cell? ⟨w.heap.size, 1, none⟩ = some (.slice A1 x1.length c1) := (y0 1).trans (by simp)
      have e2 : wr.cell? ⟨w.heap.size, 2, none⟩ = some (.slice A2 x2.length c2) := (y0 2).trans (by simp)
      clear y0
      by_cases h1 : m < x1.length
      case pos => as_aux_lemma =>
        have hd : decide ((m : Int) < (x1.length : Int)) = true := by simp [h1]
        obtain ⟨b1, o1, hA1, hS1, hl1, hz1, c1x⟩ := strAt HR1.out m h1
        subst hA1
        replace c1x := (hbw.box b1 hl1 _).trans c1x
        have HNM := hide (rfl : x1[m] = x1[m])
        by_cases hx : x1[m] = x
        case pos => as_aux_lemma =>
          have hb : (x1[m].toList == x.toList) = true := by rw [hx]; simp
          have RR := hide ((show outP x0 x1 x2 x = (2, (m : Int)) by have e := idx_hit h1 (HNM.out.trans hx) (fun j hj hjm => hm.out j hj hjm); rw [out_2 (fun j hj => HN0.out j hj) (by rw [e]; omega), e]))
          clear hx
          go_wp2_with (fail)
          all_goals
            go_returns
            exact ⟨by rw [RR.out]; first | done | rfl, bl⟩
        case neg =>
        have hb : (x1[m].toList == x.toList) = false := by rw [beq_eq_false_iff_ne]; exact fun h => hx ((ba_eq _ _).1 h)
        have HNX := hide (show x1[m] ≠ x by rw [HNM.out]; exact hx)
        clear hx
        go_wp2_with (fail)
        go_roundw
        case rel => exact ⟨m + 1, by go_num, by omega, hide (fun j hj hjm => by
          by_cases e : j = m
          · subst e; exact HNX.out
          · exact hm.out j hj (by omega)), bl⟩
        case measure => simp [intOf]; omega
      case neg =>
      have hd : decide ((m : Int) < (x1.length : Int)) = false := by simp [h1]
      have HG := hide (fun j (hj : j < x1.length) => hm.out j hj (by omega))
      clear hm
      have HGG := hide (show Lib.idxOfS x1 x < 0 by rw [idx_miss (fun j hj => HG.out j hj)]; omega)
      go_wp2_with (fail)
      have hbx3 : Bel (w.alloc (.cells #[.slice A0 x0.length c0, .slice A1 x1.length c1, .slice A2 x2.length c2] 33)) wr := hbx
      go_loopw [43] (fun v wr => ∃ m : Nat, v = .int .i64 m ∧ m ≤ x2.length ∧ Hid (∀ j (hj : j < x2.length), j < m → x2[j].nm ≠ x) ∧ Bel (w.alloc (.cells #[.slice A0 x0.length c0, .slice A1 x1.length c1, .slice A2 x2.length c2] 33)) wr) (fun v _ => x2.length - (intOf v).toNat)
      case atStart => exact ⟨0, rfl, by omega, fun j _ hj => by omega, bl⟩
      case round => as_aux_lemma =>
        obtain ⟨m, rfl, m1, hm, hbx⟩ := hrel
        have hz0 := hbx.size
        simp only [World.size_alloc] at hz0
        have y0 := hbx.box w.heap.size (by simp)
        have hl0 : w.heap.size < wr.heap.size := by omega
        have hq0 : ¬ w.heap.size = wr.heap.size := by omega
        have hbw : Bel w wr := bl
        have e0 : wr.cell? ⟨w.heap.size, 0, none⟩ = some (.slice A0 x0.length c0) := (y0 0).trans (by simp)
        have e1 : wr.cell? ⟨w.heap.size, 1, none⟩ = some (.slice A1 x1.length c1) := (y0 1).trans (by simp)
        have e2 : wr.cell? ⟨w.heap.size, 2, none⟩ = some (.slice A2 x2.length c2) := (y0 2).trans (by simp)
        clear y0
        by_cases h1 : m < x2.length
        case pos => as_aux_lemma =>
          have hd : decide ((m : Int) < (x2.length : Int)) = true := by simp [h1]
          (obtain ⟨b1, o1, x1_0, x1_1, x1_2, x1_3, x1_4, x1_5, x1_6, x1_7, x1_8, A1_1, C1_1, A1_2, C1_2, A1_7, C1_7, hA1, hS1, hl1, hx1, hv1, g1_0, g1_1, g1_2, g1_3, g1_4, g1_5, g1_6, g1_7, g1_8, c1_0, c1_1, c1_2, c1_3, c1_4, c1_5, c1_6, c1_7, c1_8⟩ := TProcedure.at HR2.out m h1; subst hA1; have HV1 := hide (Dat.HoldVals.bel hbw hv1); have hh1 := hbw.box b1 hl1; have hw1 := Nat.lt_of_lt_of_le hl1 (Bel.size hbw); replace c1_0 := (hh1 _).trans c1_0; replace c1_1 := (hh1 _).trans c1_1; replace c1_2 := (hh1 _).trans c1_2; replace c1_3 := (hh1 _).trans c1_3; replace c1_4 := (hh1 _).trans c1_4; replace c1_5 := (hh1 _).trans c1_5; replace c1_6 := (hh1 _).trans c1_6; replace c1_7 := (hh1 _).trans c1_7; replace c1_8 := (hh1 _).trans c1_8; have HX1 := hide hx1; have GR1_1 := hide g1_1; have GR1_2 := hide g1_2; have GR1_7 := hide g1_7; clear hh1 hv1 hx1 hS1 g1_1 g1_2 g1_7)
          have hne1 : ¬ b1 = wr.heap.size := by omega
          have HNM := hide (show x2[m].nm = x1_0 by rw [HX1.out]; rfl)
          by_cases hx : x1_0 = x
          case pos => as_aux_lemma =>
            have hb : (x1_0.toList == x.toList) = true := by rw [hx]; simp
            have RR := hide (out_3 (R := x0) (G := x1) (P := x2) (fun j hj => HN0.out j hj) HGG.out h1 (HNM.out.trans hx) (fun j hj hjm => hm.out j hj hjm))
            clear hx
            go_wp2_with (fail)
            all_goals
              go_returns
              exact ⟨by rw [RR.out]; first | done | rfl, bl⟩
          case neg =>
          have hb : (x1_0.toList == x.toList) = false := by rw [beq_eq_false_iff_ne]; exact fun h => hx ((ba_eq _ _).1 h)
          have HNX := hide (show x2[m].nm ≠ x by rw [HNM.out]; exact hx)
          clear hx
          go_wp2_with (fail)
          go_roundw
          case rel => exact ⟨m + 1, by go_num, by omega, hide (fun j hj hjm => by
            by_cases e : j = m
            · subst e; exact HNX.out
            · exact hm.out j hj (by omega)), bl⟩
          case measure => simp [intOf]; omega
        case neg =>
        have hd : decide ((m : Int) < (x2.length : Int)) = false := by simp [h1]
        have HN2 := hide (fun j (hj : j < x2.length) => hm.out j hj (by omega))
        clear hm
        obtain ⟨fi, hfi⟩ : ∃ fi, funNumber x = fi := ⟨_, rfl⟩
        have HFI := hide hfi
        have RR := hide (show outP x0 x1 x2 x = if 0 ≤ fi then (4, fi) else (0, 0) by rw [out_4 (fun j hj => HN0.out j hj) HGG.out (fun j hj => HN2.out j hj), hfi])
        clear hfi
        by_cases hf : 0 ≤ fi
        case pos => as_aux_lemma =>
          have df : decide (0 ≤ fi) = true := by simpa using hf
          have RZ := hide (RR.out.trans (by rw [if_pos hf]))
          clear hf
          go_wp2_with (go_at_call 56; refine (implFunctionNumber_any _ _ (HT.out.on bl)).mono ?_; rintro e w2 ⟨rfl, hb2⟩; rw [HFI.out])
          all_goals
            go_returns
            exact ⟨by rw [RZ.out]; first | done | rfl, bl⟩
        case neg => as_aux_lemma =>
          have df : decide (0 ≤ fi) = false := by simpa using hf
          have RZ := hide (RR.out.trans (by rw [if_neg hf]))
          clear hf
          go_wp2_with (go_at_call 56; refine (implFunctionNumber_any _ _ (HT.out.on bl)).mono ?_; rintro e w2 ⟨rfl, hb2⟩; rw [HFI.out])
          all_goals
            go_returns
            exact ⟨by rw [RZ.out]; first | done | rfl, bl⟩
end Go.Proofs.YtjodcciloflgbaaDoor
