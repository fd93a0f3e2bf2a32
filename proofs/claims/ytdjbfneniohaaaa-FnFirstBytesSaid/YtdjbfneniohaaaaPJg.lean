/- The endings of a pattern: both sides. -/
import Derived.Test.YtdjbfneniohaaaaPJ9
import Derived.Test.YtdjbfneniohaaaaPJf
import Derived.Test.YtdjbfneniohaaaaPP4
import Derived.Deep.RegionHeld3
import Derived.Deep.Cut
import Derived.OwnWalk
namespace Go.Proofs.Ytdjbfneniohaaaa
set_option linter.unusedVariables false
set_option linter.unusedSimpArgs false
set_option maxRecDepth 100000
open Go.RowKit
def endV (ds : List TPattern) (p : TPattern) (s : ByteArray) (a : Int) : List TEnding × Bool × Bool :=
 match endsE ds s 3000 3000 p a.toNat with
 | some (l, st, _) => (l, st, true)
 | none => ([], false, false)
def endT (ds : List TPattern) (p : TPattern) (s : ByteArray) (a : Int) : List TEnding × Bool × Bool :=
 if okD ds p = true ∧ s.size ≤ 120 ∧ 0 ≤ a ∧ a ≤ s.size then endV ds p s a else ([], false, false)
def EndsMade (w : World) (r : List TEnding × Bool × Bool) (e : Ending) (w' : World) : Prop :=
 ∃ v L, e = .returned (.tuple #[v, .bool r.2.1, .bool r.2.2]) ∧ OwnD w' 36 2 v L (r.1.map TEnding.D) ∧ (∀ b, Blk v L b → w.heap.size ≤ b) ∧ Bel w w'
abbrev EndTC (f : FuncId) : Prop := ∀ (ds : List TPattern) (p : TPattern) (s : ByteArray) (a : Int) (w : World) (S S' : Nat → Prop) (A : Option Addr) (c : Nat) (vs : List Value), Row w S 6 A c (ds.map TPattern.D) → Dat.HoldVals w S' p.D vs → s.size ≤ maxLen → InI a → p.cnt ≤ 2000000 → (∀ (k : Nat) (h : k < ds.length), ds[k].cnt ≤ 2000000) →
 Calls Try.prog f #[.slice A ds.length c, .agg vs.toArray, .string s, .int .i64 a] w (EndsMade w (endT ds p s a))
theorem okD_parts {ds : List TPattern} {p : TPattern} (h : okD ds p = true) : p.vld ds.length = true ∧ ∀ q ∈ ds, q.vld ds.length = true := by
 unfold okD at h
 simp only [Bool.and_eq_true] at h
 refine ⟨(okP_vld h.2.1).2.2.2, fun q hq => ?_⟩
 have := h.2.2
 unfold okDs at this
 exact (okP_vld (List.all_eq_true.1 this q hq)).2.2.2
theorem endV_out {ds : List TPattern} {p : TPattern} {s : ByteArray} {a : Int} {es : List TEnding} {st : Bool} {f : Int} (ho : OutE ((3000 : Nat) : Int) (resE ds s 3000 ((3000 : Nat) : Int) p a) es st f) : (0 ≤ f ∧ endV ds p s a = (es, st, true)) ∨ (f < 0 ∧ endV ds p s a = ([], false, false)) := by
 unfold resE at ho
 rw [if_pos (by omega), Int.toNat_natCast] at ho
 unfold endV
 rcases ho with ⟨l, t, g, r1, r2, r3, r4⟩ | ⟨r1, r2, r3, r4, r5⟩
 ·
  left
  rw [r1, r2, r3]
  exact ⟨by omega, rfl⟩
 ·
  right
  rw [r1]
  exact ⟨r2, rfl⟩
theorem made_none {w w' : World} (hb : Bel w w') {r : List TEnding × Bool × Bool} (hr : r = ([], false, false)) : EndsMade w r (.returned (.tuple #[.slice none 0 0, .bool false, .bool false])) w' := by
 subst hr
 exact ⟨_, [], rfl, OwnD.nil _ _ _, fun b hb => hb.elim (fun h => by cases h) (fun h => by cases h), hb⟩
set_option maxHeartbeats 4000000 in
theorem specEnds_any : EndTC 10 := by
 intro ds p s a w S S' A c vs hR hv hs hInA hct hcs
 obtain ⟨op, t, n, lo, hi, ks⟩ := p
 have HV := hide hv
 obtain ⟨Aq, cq, rfl, -, -, -, -, -, gq⟩ := TPattern.vals hv
 have HR := hide hR
 have hlc := hR.1
 have hcm := hR.2.1
 simp only [List.length_map] at hlc
 unfold maxLen at hcm hs
 have hqc := gq.1
 have hqm := gq.2.1
 simp only [List.length_map] at hqc
 unfold maxLen at hqm
 have HCT := hide hct
 have HCS := hide hcs
 clear hR hv hct hcs gq
 cases hok : okD ds (.mk op t n lo hi ks)
 case false => as_aux_lemma =>
  have HOK := hide hok
  have HE := hide (show endT ds (.mk op t n lo hi ks) s a = ([], false, false) by unfold endT; rw [if_neg (fun h => by rw [hok] at h; cases h.1)])
  clear hok
  go_enter Try.func10, Try.ntmps10
  go_wp2_with (go_at_call 30; refine (l18Defs_any ds (.mk op t n lo hi ks) _ _ _ _ _ _ (Row.bel bl HR.out) (Dat.HoldVals.bel bl HV.out) HCT.out HCS.out).mono ?_; rintro e w1 ⟨rfl, hb1⟩; rw [HOK.out]; (have hz1 := hb1.sz; obtain ⟨hk1_0, hf1_0, hl1_0, hn1_0⟩ := hb1.lay (w.heap.size)))
  all_goals
   go_returns
   exact made_none bl HE.out
 case true =>
 have HOK := hide hok
 by_cases h1 : s.size ≤ 120
 case neg => as_aux_lemma =>
  have d1 : decide ((120 : Int) < (s.size : Int)) = true := by simp; omega
  have HE := hide (show endT ds (.mk op t n lo hi ks) s a = ([], false, false) by unfold endT; rw [if_neg (fun h => h1 h.2.1)])
  clear hok
  go_enter Try.func10, Try.ntmps10
  go_wp2_with (go_at_call 30; refine (l18Defs_any ds (.mk op t n lo hi ks) _ _ _ _ _ _ (Row.bel bl HR.out) (Dat.HoldVals.bel bl HV.out) HCT.out HCS.out).mono ?_; rintro e w1 ⟨rfl, hb1⟩; rw [HOK.out]; (have hz1 := hb1.sz; obtain ⟨hk1_0, hf1_0, hl1_0, hn1_0⟩ := hb1.lay (w.heap.size)))
  all_goals
   go_returns
   exact made_none bl HE.out
 case pos =>
 have d1 : decide ((120 : Int) < (s.size : Int)) = false := by simp; omega
 by_cases h2 : 0 ≤ a
 case neg => as_aux_lemma =>
  have HIN := hide (show (decide (0 ≤ a) && decide (a ≤ (s.size : Int))) = false by rw [decide_eq_false h2]; rfl)
  have HE := hide (show endT ds (.mk op t n lo hi ks) s a = ([], false, false) by unfold endT; rw [if_neg (fun h => h2 h.2.2.1)])
  clear hok h2
  go_enter Try.func10, Try.ntmps10
  go_wp2_with (first | (go_at_call 30; refine (l18Defs_any ds (.mk op t n lo hi ks) _ _ _ _ _ _ (Row.bel bl HR.out) (Dat.HoldVals.bel bl HV.out) HCT.out HCS.out).mono ?_; rintro e w1 ⟨rfl, hb1⟩; rw [HOK.out]; (have hz1 := hb1.sz; obtain ⟨hk1_0, hf1_0, hl1_0, hn1_0⟩ := hb1.lay (w.heap.size))) | (go_at_call 31; refine (l1In_any _ _ _ _).mono ?_; rintro e w2 ⟨rfl, rfl⟩; rw [HIN.out]))
  all_goals
   go_returns
   exact made_none bl HE.out
 case pos =>
 by_cases h3 : a ≤ (s.size : Int)
 case neg => as_aux_lemma =>
  have HIN := hide (show (decide (0 ≤ a) && decide (a ≤ (s.size : Int))) = false by rw [decide_eq_false h3, Bool.and_false])
  have HE := hide (show endT ds (.mk op t n lo hi ks) s a = ([], false, false) by unfold endT; rw [if_neg (fun h => h3 h.2.2.2)])
  clear hok h3
  go_enter Try.func10, Try.ntmps10
  go_wp2_with (first | (go_at_call 30; refine (l18Defs_any ds (.mk op t n lo hi ks) _ _ _ _ _ _ (Row.bel bl HR.out) (Dat.HoldVals.bel bl HV.out) HCT.out HCS.out).mono ?_; rintro e w1 ⟨rfl, hb1⟩; rw [HOK.out]; (have hz1 := hb1.sz; obtain ⟨hk1_0, hf1_0, hl1_0, hn1_0⟩ := hb1.lay (w.heap.size))) | (go_at_call 31; refine (l1In_any _ _ _ _).mono ?_; rintro e w2 ⟨rfl, rfl⟩; rw [HIN.out]))
  all_goals
   go_returns
   exact made_none bl HE.out
 case pos =>
 have HIN := hide (show (decide (0 ≤ a) && decide (a ≤ (s.size : Int))) = true by rw [decide_eq_true h2, decide_eq_true h3]; rfl)
 have HE := hide (show endT ds (.mk op t n lo hi ks) s a = endV ds (.mk op t n lo hi ks) s a by unfold endT; rw [if_pos ⟨hok, h1, h2, h3⟩])
 obtain ⟨hvp, hds⟩ := okD_parts hok
 clear hok
 go_enter Try.func10, Try.ntmps10
 go_upto_region 4 with (first | (go_at_call 30; refine (l18Defs_any ds (.mk op t n lo hi ks) _ _ _ _ _ _ (Row.bel bl HR.out) (Dat.HoldVals.bel bl HV.out) HCT.out HCS.out).mono ?_; rintro e w1 ⟨rfl, hb1⟩; rw [HOK.out]; (have hz1 := hb1.sz; obtain ⟨hk1_0, hf1_0, hl1_0, hn1_0⟩ := hb1.lay (w.heap.size))) | (go_at_call 31; refine (l1In_any _ _ _ _).mono ?_; rintro e w2 ⟨rfl, rfl⟩; rw [HIN.out]))
 refine wp_namedJ fun wA hwA => ?_
 have hbA : Bel w1 wA := by rw [← hwA]; exact bl
 have hzA : wA.heap.size = w1.heap.size + 1 := by rw [← hwA]; simp
 have k0 : wA.cell? ⟨w.heap.size, 0, none⟩ = some (.int .i64 op) := (hbA.box w.heap.size hl1_0 _).trans ((hk1_0 0).trans (by simp))
 have k1 : wA.cell? ⟨w.heap.size, 1, none⟩ = some (.string t) := (hbA.box w.heap.size hl1_0 _).trans ((hk1_0 1).trans (by simp))
 have k2 : wA.cell? ⟨w.heap.size, 2, none⟩ = some (.int .i64 n) := (hbA.box w.heap.size hl1_0 _).trans ((hk1_0 2).trans (by simp))
 have k3 : wA.cell? ⟨w.heap.size, 3, none⟩ = some (.int .i64 lo) := (hbA.box w.heap.size hl1_0 _).trans ((hk1_0 3).trans (by simp))
 have k4 : wA.cell? ⟨w.heap.size, 4, none⟩ = some (.int .i64 hi) := (hbA.box w.heap.size hl1_0 _).trans ((hk1_0 4).trans (by simp))
 have k5 : wA.cell? ⟨w.heap.size, 5, none⟩ = some (.slice Aq ks.length cq) := (hbA.box w.heap.size hl1_0 _).trans ((hk1_0 5).trans (by simp))
 have HS := hide (show StE wA w1.heap.size A ds.length c s ((3000 : Nat) : Int) by
  refine ⟨by omega, fun o => by rw [← hwA]; clear hwA hzA; simp, ?_, ?_, ?_⟩
  all_goals (rw [← hwA]; clear hwA hzA; simp [go_sem])
  all_goals (first | done | rfl))
 have hlA : w.heap.size < wA.heap.size := by omega
 have hMA : w1.heap.size < wA.heap.size := by omega
 clear hzA hwA
 have hb01 : Bel w w1 := bl
 have hCON := l19Ends_any w1 ds s w1.heap.size A c S (Row.bel hb01 HR.out) hds h1 3000 (Nat.le_refl _) (.mk op t n lo hi ks) hvp
 have HCON := hide hCON
 clear hCON
 go_upto_region 5 with (go_at_call 32; refine (HCON.out _ _ S' ((3000 : Nat) : Int) a (Dat.HoldVals.bel hb01 HV.out) hbA (Nat.le_refl _) HS.out (Int.le_refl _) (by omega) (fun _ => ⟨h2, h3⟩) hInA).mono ?_; rintro e w2 ⟨v2, L2, es2, st2, f2, rfl, hst2, hoff2, hO2, hB2, -, hout2⟩)
 have hv2 := endV_out hout2
 have HV2 := hide hv2
 have hbw2 : Bel w w2 := hoff2.toBel (Bel.trans hb01 hbA) (fun x hx => by have := hb01.size; omega)
 have HO2 := hide hO2
 have HB2 := hide (show ∀ b, Blk v2 L2 b → w.heap.size ≤ b from fun b hb => by have := hB2 b hb; omega)
 obtain ⟨n0, n1, n2, n3, n4⟩ := hst2
 clear hO2 hB2 hout2 hv2 hoff2
 have hl2 : w.heap.size < w2.heap.size := by have := hbw2.size; omega
 by_cases h5 : f2 < 0
 case pos => as_aux_lemma =>
  have d5 : decide (f2 < 0) = true := by simpa using h5
  have HR2 := hide (HE.out.trans (HV2.out.elim (fun h => absurd h.1 (by omega)) (fun h => h.2)))
  go_wp2_with (fail)
  all_goals
   go_returns
   exact made_none bl HR2.out
 case neg => as_aux_lemma =>
  have d5 : decide (f2 < 0) = false := by simpa using h5
  have HR2 := hide (HE.out.trans (HV2.out.elim (fun h => h.2) (fun h => absurd h.1 (by omega))))
  go_wp2_with (fail)
  all_goals
   go_returns
   rw [HR2.out]
   exact ⟨_, L2, rfl, OwnD.bel HO2.out bl, HB2.out, bl⟩
set_option maxHeartbeats 4000000 in
theorem implEnds_any : EndTC 9 := by
 intro ds p s a w S S' A c vs hR hv hs hInA hct hcs
 obtain ⟨op, t, n, lo, hi, ks⟩ := p
 have HV := hide hv
 obtain ⟨Aq, cq, rfl, -, -, -, -, -, gq⟩ := TPattern.vals hv
 have HR := hide hR
 have hlc := hR.1
 have hcm := hR.2.1
 simp only [List.length_map] at hlc
 unfold maxLen at hcm hs
 have hqc := gq.1
 have hqm := gq.2.1
 simp only [List.length_map] at hqc
 unfold maxLen at hqm
 have HCT := hide hct
 have HCS := hide hcs
 clear hR hv hct hcs gq
 cases hok : okD ds (.mk op t n lo hi ks)
 case false => as_aux_lemma =>
  have HOK := hide hok
  have HE := hide (show endT ds (.mk op t n lo hi ks) s a = ([], false, false) by unfold endT; rw [if_neg (fun h => by rw [hok] at h; cases h.1)])
  clear hok
  go_enter Try.func9, Try.ntmps9
  go_wp2_with (go_at_call 28; refine (validDefinitions_any ds (.mk op t n lo hi ks) _ _ _ _ _ _ (Row.bel bl HR.out) (Dat.HoldVals.bel bl HV.out) HCT.out HCS.out).mono ?_; rintro e w1 ⟨rfl, hb1⟩; rw [HOK.out]; (have hz1 := hb1.sz; obtain ⟨hk1_0, hf1_0, hl1_0, hn1_0⟩ := hb1.lay (w.heap.size)))
  all_goals
   go_returns
   exact made_none bl HE.out
 case true =>
 have HOK := hide hok
 by_cases h1 : s.size ≤ 120
 case neg => as_aux_lemma =>
  have d1 : decide ((120 : Int) < (s.size : Int)) = true := by simp; omega
  have HE := hide (show endT ds (.mk op t n lo hi ks) s a = ([], false, false) by unfold endT; rw [if_neg (fun h => h1 h.2.1)])
  clear hok
  go_enter Try.func9, Try.ntmps9
  go_wp2_with (go_at_call 28; refine (validDefinitions_any ds (.mk op t n lo hi ks) _ _ _ _ _ _ (Row.bel bl HR.out) (Dat.HoldVals.bel bl HV.out) HCT.out HCS.out).mono ?_; rintro e w1 ⟨rfl, hb1⟩; rw [HOK.out]; (have hz1 := hb1.sz; obtain ⟨hk1_0, hf1_0, hl1_0, hn1_0⟩ := hb1.lay (w.heap.size)))
  all_goals
   go_returns
   exact made_none bl HE.out
 case pos =>
 have d1 : decide ((120 : Int) < (s.size : Int)) = false := by simp; omega
 by_cases h2 : 0 ≤ a
 case neg => as_aux_lemma =>
  have d2 : decide (a < 0) = true := by simp; omega
  have HE := hide (show endT ds (.mk op t n lo hi ks) s a = ([], false, false) by unfold endT; rw [if_neg (fun h => h2 h.2.2.1)])
  clear hok h2
  go_enter Try.func9, Try.ntmps9
  go_wp2_with (go_at_call 28; refine (validDefinitions_any ds (.mk op t n lo hi ks) _ _ _ _ _ _ (Row.bel bl HR.out) (Dat.HoldVals.bel bl HV.out) HCT.out HCS.out).mono ?_; rintro e w1 ⟨rfl, hb1⟩; rw [HOK.out]; (have hz1 := hb1.sz; obtain ⟨hk1_0, hf1_0, hl1_0, hn1_0⟩ := hb1.lay (w.heap.size)))
  all_goals
   go_returns
   exact made_none bl HE.out
 case pos =>
 by_cases h3 : a ≤ (s.size : Int)
 case neg => as_aux_lemma =>
  have d2 : decide (a < 0) = false := by simp; omega
  have d3 : decide ((s.size : Int) < a) = true := by simp; omega
  have HE := hide (show endT ds (.mk op t n lo hi ks) s a = ([], false, false) by unfold endT; rw [if_neg (fun h => h3 h.2.2.2)])
  clear hok h3
  go_enter Try.func9, Try.ntmps9
  go_wp2_with (go_at_call 28; refine (validDefinitions_any ds (.mk op t n lo hi ks) _ _ _ _ _ _ (Row.bel bl HR.out) (Dat.HoldVals.bel bl HV.out) HCT.out HCS.out).mono ?_; rintro e w1 ⟨rfl, hb1⟩; rw [HOK.out]; (have hz1 := hb1.sz; obtain ⟨hk1_0, hf1_0, hl1_0, hn1_0⟩ := hb1.lay (w.heap.size)))
  all_goals
   go_returns
   exact made_none bl HE.out
 case pos =>
 have d2 : decide (a < 0) = false := by simp; omega
 have d3 : decide ((s.size : Int) < a) = false := by simp; omega
 have HE := hide (show endT ds (.mk op t n lo hi ks) s a = endV ds (.mk op t n lo hi ks) s a by unfold endT; rw [if_pos ⟨hok, h1, h2, h3⟩])
 obtain ⟨hvp, hds⟩ := okD_parts hok
 clear hok
 go_enter Try.func9, Try.ntmps9
 go_upto_region 4 with (go_at_call 28; refine (validDefinitions_any ds (.mk op t n lo hi ks) _ _ _ _ _ _ (Row.bel bl HR.out) (Dat.HoldVals.bel bl HV.out) HCT.out HCS.out).mono ?_; rintro e w1 ⟨rfl, hb1⟩; rw [HOK.out]; (have hz1 := hb1.sz; obtain ⟨hk1_0, hf1_0, hl1_0, hn1_0⟩ := hb1.lay (w.heap.size)))
 refine wp_namedJ fun wA hwA => ?_
 have hbA : Bel w1 wA := by rw [← hwA]; exact bl
 have hzA : wA.heap.size = w1.heap.size + 1 := by rw [← hwA]; simp
 have k0 : wA.cell? ⟨w.heap.size, 0, none⟩ = some (.int .i64 op) := (hbA.box w.heap.size hl1_0 _).trans ((hk1_0 0).trans (by simp))
 have k1 : wA.cell? ⟨w.heap.size, 1, none⟩ = some (.string t) := (hbA.box w.heap.size hl1_0 _).trans ((hk1_0 1).trans (by simp))
 have k2 : wA.cell? ⟨w.heap.size, 2, none⟩ = some (.int .i64 n) := (hbA.box w.heap.size hl1_0 _).trans ((hk1_0 2).trans (by simp))
 have k3 : wA.cell? ⟨w.heap.size, 3, none⟩ = some (.int .i64 lo) := (hbA.box w.heap.size hl1_0 _).trans ((hk1_0 3).trans (by simp))
 have k4 : wA.cell? ⟨w.heap.size, 4, none⟩ = some (.int .i64 hi) := (hbA.box w.heap.size hl1_0 _).trans ((hk1_0 4).trans (by simp))
 have k5 : wA.cell? ⟨w.heap.size, 5, none⟩ = some (.slice Aq ks.length cq) := (hbA.box w.heap.size hl1_0 _).trans ((hk1_0 5).trans (by simp))
 have HS := hide (show StI wA w1.heap.size A ds.length c s ((3000 : Nat) : Int) by
  refine ⟨by omega, fun o => by rw [← hwA]; clear hwA hzA; simp, ?_, ?_, ?_, ?_⟩
  all_goals (rw [← hwA]; clear hwA hzA; simp [go_sem])
  all_goals (first | done | rfl))
 have hlA : w.heap.size < wA.heap.size := by omega
 have hMA : w1.heap.size < wA.heap.size := by omega
 clear hzA hwA
 have hb01 : Bel w w1 := bl
 have hCON := eval_any w1 ds s w1.heap.size A c S (Row.bel hb01 HR.out) hds h1 3000 (Nat.le_refl _) (.mk op t n lo hi ks) hvp
 have HCON := hide hCON
 clear hCON
 go_upto_region 5 with (go_at_call 29; refine (HCON.out _ _ S' ((3000 : Nat) : Int) a (Dat.HoldVals.bel hb01 HV.out) hbA (Nat.le_refl _) HS.out (Int.le_refl _) (by omega) (fun _ => ⟨h2, h3⟩) hInA).mono ?_; rintro e w2 ⟨v2, L2, es2, st2, f2, rfl, hst2, hoff2, hO2, hB2, -, hout2⟩)
 have hv2 := endV_out hout2
 have HV2 := hide hv2
 have hbw2 : Bel w w2 := hoff2.toBel (Bel.trans hb01 hbA) (fun x hx => by have := hb01.size; omega)
 have HO2 := hide hO2
 have HB2 := hide (show ∀ b, Blk v2 L2 b → w.heap.size ≤ b from fun b hb => by have := hB2 b hb; omega)
 obtain ⟨n0, n1, n2, n3, n4, n5⟩ := hst2
 clear hO2 hB2 hout2 hv2 hoff2
 have hl2 : w.heap.size < w2.heap.size := by have := hbw2.size; omega
 by_cases h5 : f2 < 0
 case pos => as_aux_lemma =>
  have d5 : decide (f2 < 0) = true := by simpa using h5
  rw [d5] at n5
  have HR2 := hide (HE.out.trans (HV2.out.elim (fun h => absurd h.1 (by omega)) (fun h => h.2)))
  go_wp2_with (fail)
  all_goals
   go_returns
   exact made_none bl HR2.out
 case neg => as_aux_lemma =>
  have d5 : decide (f2 < 0) = false := by simpa using h5
  rw [d5] at n5
  have HR2 := hide (HE.out.trans (HV2.out.elim (fun h => h.2) (fun h => absurd h.1 (by omega))))
  go_wp2_with (fail)
  all_goals
   go_returns
   rw [HR2.out]
   exact ⟨_, L2, rfl, OwnD.bel HO2.out bl, HB2.out, bl⟩
end Go.Proofs.Ytdjbfneniohaaaa
