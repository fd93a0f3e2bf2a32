/- A drawn region, one operation after the other: an operation that is wanted, and one that its guard keeps out. -/
import Derived.Test.YtdacpljinffnaaaDoorPB
import Derived.Deep.RegionHeld3
import Derived.Deep.RegionWith
import Derived.Test.YtdacpljinffnaaaDoorPY6
import Derived.Test.YtdacpljinffnaaaDoorPE1
import Derived.Deep.Cut
import Derived.OwnWalk
namespace Go.Proofs.YtdacpljinffnaaaDoor
set_option linter.unusedVariables false
set_option linter.unusedSimpArgs false
set_option maxRecDepth 100000
open Go.RowKit
section
variable {P : Program} {ops : Array Oper} {Q : Exit → Act → World → Prop} {md : Region.Mode} {S : World → Prop}
theorem tkI {oi : Oper} {v : Value} {fuel : Nat} {listed l' : Array Bool} {a a' : Act} {w : World} (i : Nat) (h : wpAnyH P md ops Q S fuel l' a' w)
  (hi : ops[i]? = some oi := by rfl) (hs : Region.noSelect ops = true := by kernel_rfl) (hf : Region.free md ops listed i = true := by kernel_rfl) (hr : (Region.ready md ops listed).contains i = true := by kernel_rfl)
  (hw : Region.wanted oi (yielded ops a.tmps) = true := by rfl)
  (hv : ∀ w, S w → (execOp a.eval oi).run P w = .ok (.value v) w := by intro w hSw; (try dsimp only at hSw); go_simp; (try with_reducible rfl))
  (hl : listed.setIfInBounds i true = l' := by first | (simp only [List.setIfInBounds_toArray, List.set_cons_zero, List.set_cons_succ]; exact rfl) | exact rfl)
  (ha : a.put oi.dst v = a' := by simp only [Act.put, List.setIfInBounds_toArray, List.set_cons_zero, List.set_cons_succ, List.getElem_toArray, List.getElem_cons_zero, List.getElem_cons_succ]; exact rfl)
  (hQ : ∀ c a w, Q (.panic c) (a.put oi.dst v) w → Q (.panic c) a w := by exact fun _ _ _ h => h) (hS : S w := by assumption) : wpAnyH P md ops Q S (fuel + 1) listed a w := by
 subst hl ha
 exact wpAnyH_take hi hs hf hr hQ (Or.inl ⟨hw, hv⟩) hS h
theorem tkN {oi : Oper} {fuel : Nat} {listed l' : Array Bool} {a a' : Act} {w : World} (i : Nat) (h : wpAnyH P md ops Q S fuel l' a' w)
  (hi : ops[i]? = some oi := by rfl) (hs : Region.noSelect ops = true := by kernel_rfl) (hf : Region.free md ops listed i = true := by kernel_rfl) (hr : (Region.ready md ops listed).contains i = true := by kernel_rfl)
  (hw : Region.wanted oi (yielded ops a.tmps) = false := by rfl)
  (hl : listed.setIfInBounds i true = l' := by first | (simp only [List.setIfInBounds_toArray, List.set_cons_zero, List.set_cons_succ]; exact rfl) | exact rfl)
  (ha : a.put oi.dst undef = a' := by simp only [Act.put, List.setIfInBounds_toArray, List.set_cons_zero, List.set_cons_succ, List.getElem_toArray, List.getElem_cons_zero, List.getElem_cons_succ]; exact rfl)
  (hQ : ∀ c a w, Q (.panic c) (a.put oi.dst undef) w → Q (.panic c) a w := by exact fun _ _ _ h => h) (hS : S w := by assumption) : wpAnyH P md ops Q S (fuel + 1) listed a w := by
 subst hl ha
 exact wpAnyH_take hi hs hf hr hQ (Or.inr ⟨hw, rfl⟩) hS h
end
end Go.Proofs.YtdacpljinffnaaaDoor
namespace Go.Proofs.YtdacpljinffnaaaDoor
set_option linter.unusedVariables false
set_option linter.unusedSimpArgs false
set_option maxRecDepth 100000
open Go.RowKit
theorem idx_hit {l : List ByteArray} {x : ByteArray} {m : Nat} (hm : m < l.length) (h : l[m] = x) (hn : ∀ j (hj : j < l.length), j < m → l[j] ≠ x) : Lib.idxOfS l x = m := by
 have := Lib.idxFromS_hit x l m 0 hm (by rw [getD_lt2 l m hm]; exact h) (fun j hj => by rw [getD_lt2 l j (by omega)]; exact hn j (by omega) hj)
 simpa [Lib.idxOfS] using this
theorem idx_miss {l : List ByteArray} {x : ByteArray} (hn : ∀ j (hj : j < l.length), l[j] ≠ x) : Lib.idxOfS l x = -1 :=
 Lib.idxFromS_miss x l 0 fun j hj => by rw [getD_lt2 l j hj]; exact hn j hj
def outP (R : List TRecordType) (G : List ByteArray) (P : List TProcedure) (x : ByteArray) : Int × Int :=
 if 0 ≤ Lib.idxOfS (R.map TRecordType.name) x then (5, Lib.idxOfS (R.map TRecordType.name) x) else if 0 ≤ Lib.idxOfS G x then (2, Lib.idxOfS G x) else if 0 ≤ Lib.idxOfS (P.map TProcedure.nm) x then (3, Lib.idxOfS (P.map TProcedure.nm) x)
 else if 0 ≤ funNumber x then (4, funNumber x) else (0, 0)
theorem out_5 {R : List TRecordType} {G : List ByteArray} {P : List TProcedure} {x : ByteArray} {m : Nat} (hm : m < R.length) (h : R[m].name = x) (hn : ∀ j (hj : j < R.length), j < m → R[j].name ≠ x) : outP R G P x = (5, (m : Int)) := by
 have e : Lib.idxOfS (R.map TRecordType.name) x = m := idx_hit (by simpa using hm) (by simpa using h) (fun j hj hjm => by simpa using hn j (by simpa using hj) hjm)
 unfold outP
 rw [e, if_pos (by omega)]
theorem out_2 {R : List TRecordType} {G : List ByteArray} {P : List TProcedure} {x : ByteArray} (hr : ∀ j (hj : j < R.length), R[j].name ≠ x) (h : 0 ≤ Lib.idxOfS G x) : outP R G P x = (2, Lib.idxOfS G x) := by
 have e : Lib.idxOfS (R.map TRecordType.name) x = -1 := idx_miss fun j hj => by simpa using hr j (by simpa using hj)
 unfold outP
 rw [e, if_neg (by omega), if_pos h]
theorem out_3 {R : List TRecordType} {G : List ByteArray} {P : List TProcedure} {x : ByteArray} {m : Nat} (hr : ∀ j (hj : j < R.length), R[j].name ≠ x) (hg : Lib.idxOfS G x < 0) (hm : m < P.length) (h : P[m].nm = x) (hn : ∀ j (hj : j < P.length), j < m → P[j].nm ≠ x) : outP R G P x = (3, (m : Int)) := by
 have e : Lib.idxOfS (R.map TRecordType.name) x = -1 := idx_miss fun j hj => by simpa using hr j (by simpa using hj)
 have e3 : Lib.idxOfS (P.map TProcedure.nm) x = m := idx_hit (by simpa using hm) (by simpa using h) (fun j hj hjm => by simpa using hn j (by simpa using hj) hjm)
 unfold outP
 rw [e, if_neg (by omega), if_neg (show ¬ 0 ≤ Lib.idxOfS G x by omega), e3, if_pos (by omega)]
theorem out_4 {R : List TRecordType} {G : List ByteArray} {P : List TProcedure} {x : ByteArray} (hr : ∀ j (hj : j < R.length), R[j].name ≠ x) (hg : Lib.idxOfS G x < 0) (hp : ∀ j (hj : j < P.length), P[j].nm ≠ x) : outP R G P x = if 0 ≤ funNumber x then (4, funNumber x) else (0, 0) := by
 have e : Lib.idxOfS (R.map TRecordType.name) x = -1 := idx_miss fun j hj => by simpa using hr j (by simpa using hj)
 have e3 : Lib.idxOfS (P.map TProcedure.nm) x = -1 := idx_miss fun j hj => by simpa using hp j (by simpa using hj)
 unfold outP
 rw [e, if_neg (by omega), if_neg (show ¬ 0 ≤ Lib.idxOfS G x by omega), e3, if_neg (by omega)]
abbrev OutC (f : FuncId) : Prop := ∀ (R : List TRecordType) (G : List ByteArray) (P : List TProcedure) (x : ByteArray) (S : Nat → Prop) (w : World) (vs : List Value), Sp w → Dat.HoldVals w S (TUnit.mk R G P).D vs →
 Calls Tryd.prog f #[.agg vs.toArray, .string x] w fun e w' => e = .returned (.tuple #[.int .i64 (outP R G P x).1, .int .i64 (outP R G P x).2]) ∧ Bel w w'
set_option maxHeartbeats 4000000 in
theorem l9Outer_any : OutC 35 := by
 intro x0 x1 x2 x S w vs htab hv
 have HT := hide htab
 obtain ⟨A0, c0, A1, c1, A2, c2, rfl, g0, g1, g2⟩ := TUnit.vals hv
 have HR0 := hide g0
 have hlc0 := g0.1
 have hcm0 := g0.2.1
 simp only [List.length_map] at hlc0
 unfold maxLen at hcm0
 have HR1 := hide g1
 have hlc1 := g1.1
 have hcm1 := g1.2.1
 simp only [List.length_map] at hlc1
 unfold maxLen at hcm1
 have HR2 := hide g2
 have hlc2 := g2.1
 have hcm2 := g2.2.1
 simp only [List.length_map] at hlc2
 unfold maxLen at hcm2
 clear hv g0 g1 g2 htab
 go_enter Tryd.func35, Tryd.ntmps35
 go_wp2_with (fail)
 go_loopw [6] (fun v wr => ∃ m : Nat, v = .int .i64 m ∧ m ≤ x0.length ∧ Hid (∀ j (hj : j < x0.length), j < m → x0[j].name ≠ x) ∧ Bel (w.alloc (.cells #[.slice A0 x0.length c0, .slice A1 x1.length c1, .slice A2 x2.length c2] 28)) wr) (fun v _ => x0.length - (intOf v).toNat)
 case atStart => exact ⟨0, rfl, by omega, fun j _ hj => by omega, bl⟩
 case round => as_aux_lemma =>
  obtain ⟨m, rfl, m1, hm, hbx⟩ := hrel
  have hz0 := hbx.size
  simp only [World.size_alloc] at hz0
  have y0 := hbx.box w.heap.size (by simp)
  have hl0 : w.heap.size < wr.heap.size := by omega
  have hq0 : ¬ w.heap.size = wr.heap.size := by omega
  have hbw : Bel w wr := bl
  have e0 : wr.cell? ⟨w.heap.size, 0, none⟩ = some (.slice A0 x0.length c0) := (y0 0).trans (by simp)
  have e1 : wr.cell? ⟨w.heap.size, 1, none⟩ = some (.slice A1 x1.length c1) := (y0 1).trans (by simp)
  have e2 : wr.cell? ⟨w.heap.size, 2, none⟩ = some (.slice A2 x2.length c2) := (y0 2).trans (by simp)
  clear y0
  by_cases h1 : m < x0.length
  case pos => as_aux_lemma =>
   have hd : decide ((m : Int) < (x0.length : Int)) = true := by simp [h1]
   (obtain ⟨b1, o1, x1_0, x1_1, x1_2, A1_1, C1_1, hA1, hS1, hl1, hx1, hv1, g1_0, g1_1, g1_2, c1_0, c1_1, c1_2⟩ := TRecordType.at HR0.out m h1; subst hA1; have HV1 := hide (Dat.HoldVals.bel hbw hv1); have hh1 := hbw.box b1 hl1; have hw1 := Nat.lt_of_lt_of_le hl1 (Bel.size hbw); replace c1_0 := (hh1 _).trans c1_0; replace c1_1 := (hh1 _).trans c1_1; replace c1_2 := (hh1 _).trans c1_2; have HX1 := hide hx1; have GR1_1 := hide g1_1; clear hh1 hv1 hx1 hS1 g1_1)
   have hne1 : ¬ b1 = wr.heap.size := by omega
   have HNM := hide (show x0[m].name = x1_0 by rw [HX1.out]; rfl)
   by_cases hx : x1_0 = x
   case pos => as_aux_lemma =>
    have hb : (x1_0.toList == x.toList) = true := by rw [hx]; simp
    have RR := hide (out_5 (R := x0) (G := x1) (P := x2) h1 (HNM.out.trans hx) (fun j hj hjm => hm.out j hj hjm))
    clear hx
    go_wp2_with (fail)
    all_goals
     go_returns
     exact ⟨by rw [RR.out]; first | done | rfl, bl⟩
   case neg =>
   have hb : (x1_0.toList == x.toList) = false := by rw [beq_eq_false_iff_ne]; exact fun h => hx ((ba_eq _ _).1 h)
   have HNX := hide (show x0[m].name ≠ x by rw [HNM.out]; exact hx)
   clear hx
   go_wp2_with (fail)
   go_roundw
   case rel => exact ⟨m + 1, by go_num, by omega, hide (fun j hj hjm => by
    by_cases e : j = m
    ·
     subst e; exact HNX.out
    ·
     exact hm.out j hj (by omega)), bl⟩
   case measure => simp [intOf]; omega
  case neg =>
  have hd : decide ((m : Int) < (x0.length : Int)) = false := by simp [h1]
  have HN0 := hide (fun j (hj : j < x0.length) => hm.out j hj (by omega))
  clear hm
  obtain ⟨gi, hgi⟩ : ∃ gi, Lib.idxOfS x1 x = gi := ⟨_, rfl⟩
  have HGI := hide hgi
  by_cases hg : 0 ≤ gi
  case pos => as_aux_lemma =>
   have dg : decide (0 ≤ gi) = true := by simpa using hg
   have RR := hide (show outP x0 x1 x2 x = (2, gi) by rw [out_2 (fun j hj => HN0.out j hj) (by rw [hgi]; exact hg), hgi])
   clear hgi hg
   go_wp2_with (go_at_call 18; refine (l9Find_row x1 x S _ _ _ (Row.bel bl HR1.out)).mono ?_; rintro e w1 ⟨rfl, rfl⟩; rw [HGI.out])
   all_goals
    go_returns
    exact ⟨by rw [RR.out]; first | done | rfl, bl⟩
  case neg =>
  have dg : decide (0 ≤ gi) = false := by simpa using hg
  have HG := hide (show Lib.idxOfS x1 x < 0 by rw [hgi]; omega)
  clear hgi hg
  go_wp2_with (go_at_call 18; refine (l9Find_row x1 x S _ _ _ (Row.bel bl HR1.out)).mono ?_; rintro e w1 ⟨rfl, rfl⟩; rw [HGI.out])
  have hbx2 : Bel (w.alloc (.cells #[.slice A0 x0.length c0, .slice A1 x1.length c1, .slice A2 x2.length c2] 28)) wr := hbx
  go_loopw [8] (fun v wr => ∃ m : Nat, v = .int .i64 m ∧ m ≤ x2.length ∧ Hid (∀ j (hj : j < x2.length), j < m → x2[j].nm ≠ x) ∧ Bel (w.alloc (.cells #[.slice A0 x0.length c0, .slice A1 x1.length c1, .slice A2 x2.length c2] 28)) wr) (fun v _ => x2.length - (intOf v).toNat)
  case atStart => exact ⟨0, rfl, by omega, fun j _ hj => by omega, bl⟩
  case round => as_aux_lemma =>
   obtain ⟨m, rfl, m1, hm, hbx⟩ := hrel
   have hz0 := hbx.size
   simp only [World.size_alloc] at hz0
   have y0 := hbx.box w.heap.size (by simp)
   have hl0 : w.heap.size < wr.heap.size := by omega
   have hq0 : ¬ w.heap.size = wr.heap.size := by omega
   have hbw : Bel w wr := bl
   have e0 : wr.cell? ⟨w.heap.size, 0, none⟩ = some (.slice A0 x0.length c0) := (y0 0).trans (by simp)
   have e1 : wr.cell? ⟨w.heap.size, 1, none⟩ = some (.slice A1 x1.length c1) := (y0 1).trans (by simp)
   have e2 : wr.cell? ⟨w.heap.size, 2, none⟩ = some (.slice A2 x2.length c2) := (y0 2).trans (by simp)
   clear y0
   by_cases h1 : m < x2.length
   case pos => as_aux_lemma =>
    have hd : decide ((m : Int) < (x2.length : Int)) = true := by simp [h1]
    (obtain ⟨b1, o1, x1_0, x1_1, x1_2, x1_3, x1_4, x1_5, x1_6, x1_7, x1_8, A1_1, C1_1, A1_2, C1_2, A1_7, C1_7, hA1, hS1, hl1, hx1, hv1, g1_0, g1_1, g1_2, g1_3, g1_4, g1_5, g1_6, g1_7, g1_8, c1_0, c1_1, c1_2, c1_3, c1_4, c1_5, c1_6, c1_7, c1_8⟩ := TProcedure.at HR2.out m h1; subst hA1; have HV1 := hide (Dat.HoldVals.bel hbw hv1); have hh1 := hbw.box b1 hl1; have hw1 := Nat.lt_of_lt_of_le hl1 (Bel.size hbw); replace c1_0 := (hh1 _).trans c1_0; replace c1_1 := (hh1 _).trans c1_1; replace c1_2 := (hh1 _).trans c1_2; replace c1_3 := (hh1 _).trans c1_3; replace c1_4 := (hh1 _).trans c1_4; replace c1_5 := (hh1 _).trans c1_5; replace c1_6 := (hh1 _).trans c1_6; replace c1_7 := (hh1 _).trans c1_7; replace c1_8 := (hh1 _).trans c1_8; have HX1 := hide hx1; have GR1_1 := hide g1_1; have GR1_2 := hide g1_2; have GR1_7 := hide g1_7; clear hh1 hv1 hx1 hS1 g1_1 g1_2 g1_7)
    have hne1 : ¬ b1 = wr.heap.size := by omega
    have HNM := hide (show x2[m].nm = x1_0 by rw [HX1.out]; rfl)
    by_cases hx : x1_0 = x
    case pos => as_aux_lemma =>
     have hb : (x1_0.toList == x.toList) = true := by rw [hx]; simp
     have RR := hide (out_3 (R := x0) (G := x1) (P := x2) (fun j hj => HN0.out j hj) HG.out h1 (HNM.out.trans hx) (fun j hj hjm => hm.out j hj hjm))
     clear hx
     go_wp2_with (fail)
     all_goals
      go_returns
      exact ⟨by rw [RR.out]; first | done | rfl, bl⟩
    case neg =>
    have hb : (x1_0.toList == x.toList) = false := by rw [beq_eq_false_iff_ne]; exact fun h => hx ((ba_eq _ _).1 h)
    have HNX := hide (show x2[m].nm ≠ x by rw [HNM.out]; exact hx)
    clear hx
    go_wp2_with (fail)
    go_roundw
    case rel => exact ⟨m + 1, by go_num, by omega, hide (fun j hj hjm => by
     by_cases e : j = m
     ·
      subst e; exact HNX.out
     ·
      exact hm.out j hj (by omega)), bl⟩
    case measure => simp [intOf]; omega
   case neg =>
   have hd : decide ((m : Int) < (x2.length : Int)) = false := by simp [h1]
   have HN2 := hide (fun j (hj : j < x2.length) => hm.out j hj (by omega))
   clear hm
   have hL : funL.length = 55 := by decide +kernel
   obtain ⟨fi, hfi⟩ : ∃ fi, funNumber x = fi := ⟨_, rfl⟩
   have HFI := hide hfi
   have RR := hide (show outP x0 x1 x2 x = if 0 ≤ fi then (4, fi) else (0, 0) by rw [out_4 (fun j hj => HN0.out j hj) HG.out (fun j hj => HN2.out j hj), hfi])
   clear hfi
   by_cases hf : 0 ≤ fi
   case pos => as_aux_lemma =>
    have df : decide (0 ≤ fi) = true := by simpa using hf
    have RZ := hide (RR.out.trans (by rw [if_pos hf]))
    clear hf
    go_wp2_with (first | (go_at_call 17; refine (l9Functions_any _).mono ?_; rintro e w2 ⟨rfl, rfl⟩; rw [hL]) | (go_at_call 18; refine (show Calls Tryd.prog 18 _ _ (fun e w' => e = .returned (.int .i64 (funNumber x)) ∧ w' = wr.alloc (.cells (funL.map Value.string).toArray 9)) from by have hF := l9Find_any funL wr.heap.size 55 x (wr.alloc (.cells (funL.map Value.string).toArray 9)) (by omega) (fun j hj => strs_cell funL wr j hj); rw [hL] at hF; exact hF).mono ?_; rintro e w3 ⟨rfl, rfl⟩; rw [HFI.out]))
    all_goals
     go_returns
     exact ⟨by rw [RZ.out]; first | done | rfl, bl⟩
   case neg => as_aux_lemma =>
    have df : decide (0 ≤ fi) = false := by simpa using hf
    have RZ := hide (RR.out.trans (by rw [if_neg hf]))
    clear hf
    go_wp2_with (first | (go_at_call 17; refine (l9Functions_any _).mono ?_; rintro e w2 ⟨rfl, rfl⟩; rw [hL]) | (go_at_call 18; refine (show Calls Tryd.prog 18 _ _ (fun e w' => e = .returned (.int .i64 (funNumber x)) ∧ w' = wr.alloc (.cells (funL.map Value.string).toArray 9)) from by have hF := l9Find_any funL wr.heap.size 55 x (wr.alloc (.cells (funL.map Value.string).toArray 9)) (by omega) (fun j hj => strs_cell funL wr j hj); rw [hL] at hF; exact hF).mono ?_; rintro e w3 ⟨rfl, rfl⟩; rw [HFI.out]))
    all_goals
     go_returns
     exact ⟨by rw [RZ.out]; first | done | rfl, bl⟩
set_option maxHeartbeats 4000000 in
theorem outside_any : OutC 23 := by
 intro x0 x1 x2 x S w vs htab hv
 have HT := hide htab
 obtain ⟨A0, c0, A1, c1, A2, c2, rfl, g0, g1, g2⟩ := TUnit.vals hv
 have HR0 := hide g0
 have hlc0 := g0.1
 have hcm0 := g0.2.1
 simp only [List.length_map] at hlc0
 unfold maxLen at hcm0
 have HR1 := hide g1
 have hlc1 := g1.1
 have hcm1 := g1.2.1
 simp only [List.length_map] at hlc1
 unfold maxLen at hcm1
 have HR2 := hide g2
 have hlc2 := g2.1
 have hcm2 := g2.2.1
 simp only [List.length_map] at hlc2
 unfold maxLen at hcm2
 clear hv g0 g1 g2 htab
 go_enter Tryd.func23, Tryd.ntmps23
 go_wp2_with (fail)
 go_loopw [16] (fun v wr => ∃ m : Nat, v = .int .i64 m ∧ m ≤ x0.length ∧ Hid (∀ j (hj : j < x0.length), j < m → x0[j].name ≠ x) ∧ Bel (w.alloc (.cells #[.slice A0 x0.length c0, .slice A1 x1.length c1, .slice A2 x2.length c2] 28)) wr) (fun v _ => x0.length - (intOf v).toNat)
 case atStart => exact ⟨0, rfl, by omega, fun j _ hj => by omega, bl⟩
 case round => as_aux_lemma =>
  obtain ⟨m, rfl, m1, hm, hbx⟩ := hrel
  have hz0 := hbx.size
  simp only [World.size_alloc] at hz0
  have y0 := hbx.box w.heap.size (by simp)
  have hl0 : w.heap.size < wr.heap.size := by omega
  have hq0 : ¬ w.heap.size = wr.heap.size := by omega
  have hbw : Bel w wr := bl
  have e0 : wr.cell? ⟨w.heap.size, 0, none⟩ = some (.slice A0 x0.length c0) := (y0 0).trans (by simp)
  have e1 : wr.cell? ⟨w.heap.size, 1, none⟩ = some (.slice A1 x1.length c1) := (y0 1).trans (by simp)
  have e2 : wr.cell? ⟨w.heap.size, 2, none⟩ = some (.slice A2 x2.length c2) := (y0 2).trans (by simp)
  clear y0
  by_cases h1 : m < x0.length
  case pos => as_aux_lemma =>
   have hd : decide ((m : Int) < (x0.length : Int)) = true := by simp [h1]
   (obtain ⟨b1, o1, x1_0, x1_1, x1_2, A1_1, C1_1, hA1, hS1, hl1, hx1, hv1, g1_0, g1_1, g1_2, c1_0, c1_1, c1_2⟩ := TRecordType.at HR0.out m h1; subst hA1; have HV1 := hide (Dat.HoldVals.bel hbw hv1); have hh1 := hbw.box b1 hl1; have hw1 := Nat.lt_of_lt_of_le hl1 (Bel.size hbw); replace c1_0 := (hh1 _).trans c1_0; replace c1_1 := (hh1 _).trans c1_1; replace c1_2 := (hh1 _).trans c1_2; have HX1 := hide hx1; have GR1_1 := hide g1_1; clear hh1 hv1 hx1 hS1 g1_1)
   have hne1 : ¬ b1 = wr.heap.size := by omega
   have HNM := hide (show x0[m].name = x1_0 by rw [HX1.out]; rfl)
   by_cases hx : x1_0 = x
   case pos => as_aux_lemma =>
    have hb : (x1_0.toList == x.toList) = true := by rw [hx]; simp
    have RR := hide (out_5 (R := x0) (G := x1) (P := x2) h1 (HNM.out.trans hx) (fun j hj hjm => hm.out j hj hjm))
    clear hx
    go_wp2_with (fail)
    all_goals
     go_returns
     exact ⟨by rw [RR.out]; first | done | rfl, bl⟩
   case neg =>
   have hb : (x1_0.toList == x.toList) = false := by rw [beq_eq_false_iff_ne]; exact fun h => hx ((ba_eq _ _).1 h)
   have HNX := hide (show x0[m].name ≠ x by rw [HNM.out]; exact hx)
   clear hx
   go_wp2_with (fail)
   go_roundw
   case rel => exact ⟨m + 1, by go_num, by omega, hide (fun j hj hjm => by
    by_cases e : j = m
    ·
     subst e; exact HNX.out
    ·
     exact hm.out j hj (by omega)), bl⟩
   case measure => simp [intOf]; omega
  case neg =>
  have hd : decide ((m : Int) < (x0.length : Int)) = false := by simp [h1]
  have HN0 := hide (fun j (hj : j < x0.length) => hm.out j hj (by omega))
  clear hm
  go_wp2_with (fail)
  have hbx1 : Bel (w.alloc (.cells #[.slice A0 x0.length c0, .slice A1 x1.length c1, .slice A2 x2.length c2] 28)) wr := hbx
  go_loopw [30] (fun v wr => ∃ m : Nat, v = .int .i64 m ∧ m ≤ x1.length ∧ Hid (∀ j (hj : j < x1.length), j < m → x1[j] ≠ x) ∧ Bel (w.alloc (.cells #[.slice A0 x0.length c0, .slice A1 x1.length c1, .slice A2 x2.length c2] 28)) wr) (fun v _ => x1.length - (intOf v).toNat)
  case atStart => exact ⟨0, rfl, by omega, fun j _ hj => by omega, bl⟩
  case round => as_aux_lemma =>
   obtain ⟨m, rfl, m1, hm, hbx⟩ := hrel
   have hz0 := hbx.size
   simp only [World.size_alloc] at hz0
   have y0 := hbx.box w.heap.size (by simp)
   have hl0 : w.heap.size < wr.heap.size := by omega
   have hq0 : ¬ w.heap.size = wr.heap.size := by omega
   have hbw : Bel w wr := bl
   have e0 : wr.cell? ⟨w.heap.size, 0, none⟩ = some (.slice A0 x0.length c0) := (y0 0).trans (by simp)
   have e1 : wr.cell? ⟨w.heap.size, 1, none⟩ = some (.slice A1 x1.length c1) := (y0 1).trans (by simp)
   have e2 : wr.cell? ⟨w.heap.size, 2, none⟩ = some (.slice A2 x2.length c2) := (y0 2).trans (by simp)
   clear y0
   by_cases h1 : m < x1.length
   case pos => as_aux_lemma =>
    have hd : decide ((m : Int) < (x1.length : Int)) = true := by simp [h1]
    obtain ⟨b1, o1, hA1, hS1, hl1, hz1, c1x⟩ := strAt HR1.out m h1
    subst hA1
    replace c1x := (hbw.box b1 hl1 _).trans c1x
    have HNM := hide (rfl : x1[m] = x1[m])
    by_cases hx : x1[m] = x
    case pos => as_aux_lemma =>
     have hb : (x1[m].toList == x.toList) = true := by rw [hx]; simp
     have RR := hide ((show outP x0 x1 x2 x = (2, (m : Int)) by have e := idx_hit h1 (HNM.out.trans hx) (fun j hj hjm => hm.out j hj hjm); rw [out_2 (fun j hj => HN0.out j hj) (by rw [e]; omega), e]))
     clear hx
     go_wp2_with (fail)
     all_goals
      go_returns
      exact ⟨by rw [RR.out]; first | done | rfl, bl⟩
    case neg =>
    have hb : (x1[m].toList == x.toList) = false := by rw [beq_eq_false_iff_ne]; exact fun h => hx ((ba_eq _ _).1 h)
    have HNX := hide (show x1[m] ≠ x by rw [HNM.out]; exact hx)
    clear hx
    go_wp2_with (fail)
    go_roundw
    case rel => exact ⟨m + 1, by go_num, by omega, hide (fun j hj hjm => by
     by_cases e : j = m
     ·
      subst e; exact HNX.out
     ·
      exact hm.out j hj (by omega)), bl⟩
    case measure => simp [intOf]; omega
   case neg =>
   have hd : decide ((m : Int) < (x1.length : Int)) = false := by simp [h1]
   have HG := hide (fun j (hj : j < x1.length) => hm.out j hj (by omega))
   clear hm
   have HGG := hide (show Lib.idxOfS x1 x < 0 by rw [idx_miss (fun j hj => HG.out j hj)]; omega)
   go_wp2_with (fail)
   have hbx3 : Bel (w.alloc (.cells #[.slice A0 x0.length c0, .slice A1 x1.length c1, .slice A2 x2.length c2] 28)) wr := hbx
   go_loopw [43] (fun v wr => ∃ m : Nat, v = .int .i64 m ∧ m ≤ x2.length ∧ Hid (∀ j (hj : j < x2.length), j < m → x2[j].nm ≠ x) ∧ Bel (w.alloc (.cells #[.slice A0 x0.length c0, .slice A1 x1.length c1, .slice A2 x2.length c2] 28)) wr) (fun v _ => x2.length - (intOf v).toNat)
   case atStart => exact ⟨0, rfl, by omega, fun j _ hj => by omega, bl⟩
   case round => as_aux_lemma =>
    obtain ⟨m, rfl, m1, hm, hbx⟩ := hrel
    have hz0 := hbx.size
    simp only [World.size_alloc] at hz0
    have y0 := hbx.box w.heap.size (by simp)
    have hl0 : w.heap.size < wr.heap.size := by omega
    have hq0 : ¬ w.heap.size = wr.heap.size := by omega
    have hbw : Bel w wr := bl
    have e0 : wr.cell? ⟨w.heap.size, 0, none⟩ = some (.slice A0 x0.length c0) := (y0 0).trans (by simp)
    have e1 : wr.cell? ⟨w.heap.size, 1, none⟩ = some (.slice A1 x1.length c1) := (y0 1).trans (by simp)
    have e2 : wr.cell? ⟨w.heap.size, 2, none⟩ = some (.slice A2 x2.length c2) := (y0 2).trans (by simp)
    clear y0
    by_cases h1 : m < x2.length
    case pos => as_aux_lemma =>
     have hd : decide ((m : Int) < (x2.length : Int)) = true := by simp [h1]
     (obtain ⟨b1, o1, x1_0, x1_1, x1_2, x1_3, x1_4, x1_5, x1_6, x1_7, x1_8, A1_1, C1_1, A1_2, C1_2, A1_7, C1_7, hA1, hS1, hl1, hx1, hv1, g1_0, g1_1, g1_2, g1_3, g1_4, g1_5, g1_6, g1_7, g1_8, c1_0, c1_1, c1_2, c1_3, c1_4, c1_5, c1_6, c1_7, c1_8⟩ := TProcedure.at HR2.out m h1; subst hA1; have HV1 := hide (Dat.HoldVals.bel hbw hv1); have hh1 := hbw.box b1 hl1; have hw1 := Nat.lt_of_lt_of_le hl1 (Bel.size hbw); replace c1_0 := (hh1 _).trans c1_0; replace c1_1 := (hh1 _).trans c1_1; replace c1_2 := (hh1 _).trans c1_2; replace c1_3 := (hh1 _).trans c1_3; replace c1_4 := (hh1 _).trans c1_4; replace c1_5 := (hh1 _).trans c1_5; replace c1_6 := (hh1 _).trans c1_6; replace c1_7 := (hh1 _).trans c1_7; replace c1_8 := (hh1 _).trans c1_8; have HX1 := hide hx1; have GR1_1 := hide g1_1; have GR1_2 := hide g1_2; have GR1_7 := hide g1_7; clear hh1 hv1 hx1 hS1 g1_1 g1_2 g1_7)
     have hne1 : ¬ b1 = wr.heap.size := by omega
     have HNM := hide (show x2[m].nm = x1_0 by rw [HX1.out]; rfl)
     by_cases hx : x1_0 = x
     case pos => as_aux_lemma =>
      have hb : (x1_0.toList == x.toList) = true := by rw [hx]; simp
      have RR := hide (out_3 (R := x0) (G := x1) (P := x2) (fun j hj => HN0.out j hj) HGG.out h1 (HNM.out.trans hx) (fun j hj hjm => hm.out j hj hjm))
      clear hx
      go_wp2_with (fail)
      all_goals
       go_returns
       exact ⟨by rw [RR.out]; first | done | rfl, bl⟩
     case neg =>
     have hb : (x1_0.toList == x.toList) = false := by rw [beq_eq_false_iff_ne]; exact fun h => hx ((ba_eq _ _).1 h)
     have HNX := hide (show x2[m].nm ≠ x by rw [HNM.out]; exact hx)
     clear hx
     go_wp2_with (fail)
     go_roundw
     case rel => exact ⟨m + 1, by go_num, by omega, hide (fun j hj hjm => by
      by_cases e : j = m
      ·
       subst e; exact HNX.out
      ·
       exact hm.out j hj (by omega)), bl⟩
     case measure => simp [intOf]; omega
    case neg =>
    have hd : decide ((m : Int) < (x2.length : Int)) = false := by simp [h1]
    have HN2 := hide (fun j (hj : j < x2.length) => hm.out j hj (by omega))
    clear hm
    obtain ⟨fi, hfi⟩ : ∃ fi, funNumber x = fi := ⟨_, rfl⟩
    have HFI := hide hfi
    have RR := hide (show outP x0 x1 x2 x = if 0 ≤ fi then (4, fi) else (0, 0) by rw [out_4 (fun j hj => HN0.out j hj) HGG.out (fun j hj => HN2.out j hj), hfi])
    clear hfi
    by_cases hf : 0 ≤ fi
    case pos => as_aux_lemma =>
     have df : decide (0 ≤ fi) = true := by simpa using hf
     have RZ := hide (RR.out.trans (by rw [if_pos hf]))
     clear hf
     go_wp2_with (go_at_call 36; refine (implFunctionNumber_any _ _ (HT.out.on bl)).mono ?_; rintro e w2 ⟨rfl, hb2⟩; rw [HFI.out])
     all_goals
      go_returns
      exact ⟨by rw [RZ.out]; first | done | rfl, bl⟩
    case neg => as_aux_lemma =>
     have df : decide (0 ≤ fi) = false := by simpa using hf
     have RZ := hide (RR.out.trans (by rw [if_neg hf]))
     clear hf
     go_wp2_with (go_at_call 36; refine (implFunctionNumber_any _ _ (HT.out.on bl)).mono ?_; rintro e w2 ⟨rfl, hb2⟩; rw [HFI.out])
     all_goals
      go_returns
      exact ⟨by rw [RZ.out]; first | done | rfl, bl⟩
end Go.Proofs.YtdacpljinffnaaaDoor
namespace Go.Proofs.YtdacpljinffnaaaDoor
set_option linter.unusedVariables false
set_option linter.unusedSimpArgs false
set_option maxRecDepth 100000
open Go.RowKit
theorem infoStr : (Tryd.prog.info? 9).map (fun i => (i.zero, i.size, i.bytes)) = some (some (.string ByteArray.empty), 1, 16) := by kernel_rfl
def OwnS (wB w : World) (v : Value) (xs : List ByteArray) : Prop := w.ownsRow wB.heap.size 9 1 v xs.length (xs.map Value.string) ∧ ∀ x ∈ xs, x.size ≤ maxLen
def Kept (w w' : World) : Prop := w.heap.size ≤ w'.heap.size ∧ ∀ (k : Nat) (ob : Obj), w.heap[k]? = some ob → (∀ cur z, ob ≠ Obj.cells cur 9 z) → w'.heap[k]? = some ob
theorem Kept.refl (w : World) : Kept w w := ⟨Nat.le_refl _, fun _ _ h _ => h⟩
theorem Kept.trans {a b c : World} (h1 : Kept a b) (h2 : Kept b c) : Kept a c := ⟨Nat.le_trans h1.1 h2.1, fun k ob h hn => h2.2 k ob (h1.2 k ob h hn) hn⟩
theorem heap_lt {w : World} {k : Nat} {ob : Obj} (h : w.heap[k]? = some ob) : k < w.heap.size := (Array.getElem?_eq_some_iff.1 h).1
theorem Kept.ofBel {w w' : World} (h : Bel w w') : Kept w w' := ⟨h.size, fun k ob hk _ => (Below.block h k (heap_lt hk)).trans hk⟩
theorem OwnS.bel {wB w w' : World} {v : Value} {xs : List ByteArray} (h : OwnS wB w v xs) (hb : Bel w w') : OwnS wB w' v xs := by
 refine ⟨⟨h.1.1, h.1.2.elim Or.inl (fun ⟨g, cap, cur, hv, hg, hh, r⟩ => Or.inr ⟨g, cap, cur, hv, hg, (Below.block hb g (heap_lt hh)).trans hh, r⟩)⟩, h.2⟩
theorem Kept.grown {wB w w' : World} {v : Value} {xs : List ByteArray} (h : OwnS wB w v xs) (hg : w.grownBy w' v.ownBlock) : Kept w w' := by
 refine ⟨hg.size, fun k ob hk hn => (hg.block k (heap_lt hk) fun e => ?_).trans hk⟩
 rcases h.1.2 with ⟨rfl, -⟩ | ⟨g, cap, cur, rfl, -, hh, -⟩
 ·
  cases e
 ·
  simp only [Value.ownBlock, Option.some.injEq] at e
  subst e
  rw [hk] at hh
  exact hn _ _ (Option.some.inj hh)
theorem Kept.box {w w' : World} (h : Kept w w') {b : Nat} {arr : Array Value} {T : TypeId} (hb : w.heap[b]? = some (Obj.cells arr T)) (hT : T ≠ 9) : ∀ i, w'.cell? ⟨b, i, none⟩ = w.cell? ⟨b, i, none⟩ := fun i =>
 World.cell?_of_block (by show w'.heap[b]? = w.heap[b]?; rw [h.2 b _ hb (fun cur z e => hT (by injection e)), hb])
theorem OwnS.base {wB w : World} {v : Value} {xs : List ByteArray} (h : OwnS wB w v xs) : ∀ k, v.ownBlock = some k → wB.heap.size ≤ k := fun k hk => (World.ownsRow.lt h.1 k hk).1
theorem OwnS.row {wB w : World} {v : Value} {xs : List ByteArray} (h : OwnS wB w v xs) : ∃ A c, v = .slice A xs.length c ∧ Row w (fun _ => True) 1 A c (strsD xs) := by
 obtain ⟨⟨h1, h2⟩, h3⟩ := h
 rcases h2 with ⟨rfl, h0⟩ | ⟨g, cap, cur, rfl, hg, hh, hn, hm, hs, ht⟩
 ·
  have : xs = [] := List.eq_nil_of_length_eq_zero h0
  subst this
  exact ⟨none, 0, rfl, by simp, by unfold maxLen; omega, fun q => absurd rfl q⟩
 ·
  refine ⟨some ⟨g, 0, none⟩, cap, rfl, by simpa using hn, hm, fun _ => ⟨g, 0, rfl, trivial, heap_lt hh, Dat.HoldRows.mk fun i hi => ⟨?_, by simp⟩⟩⟩
  have hi' : i < xs.length := by simpa using hi
  have hc : w.cell? ⟨g, i, none⟩ = some (.string xs[i]) := by
   rw [cell_of_row w g i cur 9 (0, 0) hh]
   have : cur.toList[i]? = (cur.toList.take (xs.length * 1))[i]? := by rw [List.getElem?_take_of_lt (by omega)]
   rw [← Array.getElem?_toList, this, ht]
   simp [hi']
  simp only [strsD, List.getElem_map, Nat.zero_add, Nat.mul_one, Dat.HoldCells, and_true]
  exact ⟨_, hc, by simp only [Dat.Holds]; first | exact ⟨rfl, h3 _ (List.getElem_mem hi')⟩ | exact ⟨trivial, h3 _ (List.getElem_mem hi')⟩ | exact h3 _ (List.getElem_mem hi')⟩
theorem contains_row (xs : List ByteArray) (x : ByteArray) (S : Nat → Prop) (w : World) (A : Option Addr) (c : Nat) (hR : Row w S 1 A c (strsD xs)) :
  Calls Tryd.prog 48 #[.slice A xs.length c, .string x] w fun e w' => e = .returned (.bool (Lib.containsS xs x)) ∧ w = w' := by
 rcases Nat.eq_zero_or_pos xs.length with h0 | h0
 ·
  obtain rfl : xs = [] := List.eq_nil_of_length_eq_zero h0
  exact (Tryd.slices_Contains_string_empty A c x w).mono fun e w' ⟨h1, h2⟩ => ⟨h1, h2.symm⟩
 ·
  obtain ⟨b, oo, rfl, -, hb⟩ := Row.addr hR (by simpa using h0)
  have hlen := hR.1
  have hcm := hR.2.1
  simp only [strsD, List.length_map] at hlen
  unfold maxLen at hcm
  have h := Tryd.slices_Contains_string b oo xs.length c xs x w (Nat.le_refl _) (by omega) (fun j hj => Row.strs hR j hj)
  rw [List.take_length] at h
  exact h.mono fun e w' ⟨h1, h2⟩ => ⟨h1, h2.symm⟩
theorem idx_row (xs : List ByteArray) (x : ByteArray) : decide (Lib.idxOfS xs x < 0) = !Lib.containsS xs x := by
 rw [Bool.eq_iff_iff, decide_eq_true_eq, Bool.not_eq_true', ← Bool.not_eq_true, Lib.containsS_iff]
 constructor
 ·
  intro h hx
  obtain ⟨j, hj, he⟩ := List.mem_iff_getElem.1 hx
  unfold Lib.containsS at *
  have := (Lib.containsS_iff xs x).2 hx
  unfold Lib.containsS at this
  simp at this
  omega
 ·
  intro h
  rw [idx_miss (l := xs) (x := x) fun j hj he => h (by rw [← he]; exact List.getElem_mem hj)]
  omega
mutual
/-- The names that an expression adds to a list; O: does a name mean nothing outside? -/
def TExpr.col (O : ByteArray → Bool) : TExpr → List ByteArray → List ByteArray
 | .mk k t _ _ ks, xs => TExpr.cols O ks (if (k = 4 ∨ k = 28) ∧ O t = true ∧ Lib.containsS xs t = false then xs ++ [t] else xs)
def TExpr.cols (O : ByteArray → Bool) : List TExpr → List ByteArray → List ByteArray
 | [], xs => xs
 | x :: r, xs => TExpr.cols O r (TExpr.col O x xs)
end
theorem TExpr.cols_take (O : ByteArray → Bool) : ∀ (l : List TExpr) (k : Nat) (h : k < l.length) (xs : List ByteArray), TExpr.cols O (l.take (k + 1)) xs = l[k].col O (TExpr.cols O (l.take k) xs)
 | x :: r, 0, _, xs => by simp [TExpr.cols]
 | x :: r, k + 1, h, xs => by
  have := TExpr.cols_take O r k (by simpa using h) (x.col O xs)
  simp only [List.take_succ_cons, TExpr.cols, List.getElem_cons_succ, this]
mutual
theorem TExpr.col_len (O : ByteArray → Bool) : ∀ (t : TExpr) (xs : List ByteArray), (t.col O xs).length ≤ xs.length + t.cnt
 | .mk k t _ _ ks, xs => by
  have := TExpr.cols_len O ks (if (k = 4 ∨ k = 28) ∧ O t = true ∧ Lib.containsS xs t = false then xs ++ [t] else xs)
  simp only [TExpr.col, TExpr.cnt]
  by_cases q : (k = 4 ∨ k = 28) ∧ O t = true ∧ Lib.containsS xs t = false
  ·
   rw [if_pos q] at this ⊢
   rw [List.length_append] at this
   simp only [List.length_cons, List.length_nil] at this
   omega
  ·
   rw [if_neg q] at this ⊢
   omega
theorem TExpr.cols_len (O : ByteArray → Bool) : ∀ (l : List TExpr) (xs : List ByteArray), (TExpr.cols O l xs).length ≤ xs.length + TExpr.cnts l
 | [], xs => by simp [TExpr.cols]
 | x :: r, xs => by
  have h1 := TExpr.col_len O x xs
  have h2 := TExpr.cols_len O r (x.col O xs)
  simp only [TExpr.cols, TExpr.cnts]
  omega
end
def outO (R : List TRecordType) (G : List ByteArray) (P : List TProcedure) (x : ByteArray) : Bool := decide ((outP R G P x).1 = 0)
def ColPost (wB w : World) (xs : List ByteArray) (e : Ending) (w' : World) : Prop := ∃ v', e = .returned v' ∧ OwnS wB w' v' xs ∧ Bel wB w' ∧ Kept w w'
abbrev ColC (f : FuncId) (ok : TExpr → Bool) (t : TExpr) : Prop := ∀ (R : List TRecordType) (G : List ByteArray) (P : List TProcedure) (S : Nat → Prop) (wB w : World) (us vs : List Value) (v : Value) (xs : List ByteArray),
 Sp wB → Dat.HoldVals wB S (TUnit.mk R G P).D us → Dat.HoldVals wB S t.D vs → Bel wB w → OwnS wB w v xs → xs.length + t.cnt ≤ 4000000 → ok t = true →
 Calls Tryd.prog f #[.agg us.toArray, .agg vs.toArray, v] w (ColPost wB w (t.col (outO R G P) xs))
theorem leaf_kids {k n li : Int} {t : ByteArray} {ks : List TExpr} (h : (TExpr.mk k t n li ks).vld = true) (hk : k = 4 ∨ k = 28) : ks = [] := by
 rw [vldE_mk] at h
 simp only [Bool.and_eq_true] at h
 have h1 := h.1.1.1
 unfold hdE at h1
 rw [show lohiE k = (0, 0) by rcases hk with rfl | rfl <;> (unfold lohiE; simp)] at h1
 simp only [Bool.and_eq_true, decide_eq_true_eq] at h1
 exact List.eq_nil_of_length_eq_zero (by omega)
theorem vld_kidE {k n li : Int} {t : ByteArray} {ks : List TExpr} (h : (TExpr.mk k t n li ks).vld = true) {i : Nat} (hi : i < ks.length) : ks[i].vld = true := by
 cases hq : ks[i].vld
 ·
  rw [vldE_mk, TExpr.vlds_at hi hq, Bool.and_false] at h; cases h
 ·
  rfl
end Go.Proofs.YtdacpljinffnaaaDoor
