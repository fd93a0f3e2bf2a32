/- FirstBytes, both sides. -/
import Derived.Test.YtmikipcfepgogaaP11
import Derived.Test.YtmikipcfepgogaaP14
namespace Go.Proofs.Ytmikipcfepgogaa
set_option linter.unusedVariables false
set_option linter.unusedSimpArgs false
set_option maxRecDepth 100000
open Go.RowKit

def fbR (t : TPattern) : FB := if okP 24 t then t.fb else ⟨0, 0, true⟩
set_option maxHeartbeats 1000000 in
theorem specFirstBytes_law (t : TPattern) (S : Nat → Prop) (w : World) (vs : List Value) (hv : Dat.HoldVals w S t.D vs) (hw : Dat.wtL t.D ≤ 1048576) :
    Calls Try.prog 43 #[.agg vs.toArray] w fun e w' => e = .returned (.tuple #[.agg #[.int .i64 (fbR t).lo, .int .i64 (fbR t).hi], .bool (fbR t).any]) ∧ Bel w w' := by
  have HV := hide hv
  have HW := hide hw
  have hv' := hv
  obtain ⟨x0, x1, x2, x3, x4, x5⟩ := t
  obtain ⟨A, c, rfl, -⟩ := TPattern.vals hv'
  clear hv hv' hw
  cases hk : okP 24 (TPattern.mk x0 x1 x2 x3 x4 x5)
  · have HK := hide hk
    have HE : Hid (fbR (TPattern.mk x0 x1 x2 x3 x4 x5) = ⟨0, 0, true⟩) := by show _ = _; unfold fbR; rw [hk]; rfl
    clear hk
    go_enter Try.func43, Try.ntmps43
    go_wp2_with (fail)
    refine (specIsValidPattern_law _ _ _ _ _ (Dat.HoldVals.bel (by repeat' (first | with_reducible exact Bel.refl _ | with_reducible assumption | with_reducible refine Bel.set ?_ ?_ _ | with_reducible refine Bel.alloc ?_ _ | with_reducible refine Bel.drew ?_ | with_reducible refine Bel.drewN ?_ _ | with_reducible refine Bel.trans ?_ (by with_reducible assumption) | (simp; done) | (simp; omega) | refine Bel.alloc ?_ _ | refine Bel.drew ?_ | refine Bel.drewN ?_ _ | refine Bel.set ?_ ?_ _)) HV.out) HW.out).mono ?_
    rintro e w1 ⟨rfl, hb1⟩
    rw [HK.out]
    (have hz1 := hb1.size; (try simp only [World.size_alloc, World.size_setCell, World.size_drew] at hz1); have hk1_0 := hb1.box (w.heap.size) (by first | (simp; done) | (simp; omega) | omega); have hf1_0 := hb1.boxf (w.heap.size) (by first | (simp; done) | (simp; omega) | omega); have hl1_0 : w.heap.size < w1.heap.size := (by omega); have hn1_0 : ¬ w.heap.size = w1.heap.size := (by omega); have hk1_1 := hb1.box (w.heap.size + 1) (by first | (simp; done) | (simp; omega) | omega); have hf1_1 := hb1.boxf (w.heap.size + 1) (by first | (simp; done) | (simp; omega) | omega); have hl1_1 : w.heap.size + 1 < w1.heap.size := (by omega); have hn1_1 : ¬ w.heap.size + 1 = w1.heap.size := (by omega))
    go_wp2_with (fail)
    all_goals exact bodyPost_ret (v := .tuple #[.agg #[.int .i64 0, .int .i64 0], .bool true]) (by simp [results, Try.results43, go_sem, hk1_1, hf1_1, hl1_1, hn1_1]) rfl ⟨by rw [HE.out], (by repeat' (first | with_reducible exact Bel.refl _ | with_reducible assumption | with_reducible refine Bel.set ?_ ?_ _ | with_reducible refine Bel.alloc ?_ _ | with_reducible refine Bel.drew ?_ | with_reducible refine Bel.drewN ?_ _ | with_reducible refine Bel.trans ?_ (by with_reducible assumption) | (simp; done) | (simp; omega) | refine Bel.alloc ?_ _ | refine Bel.drew ?_ | refine Bel.drewN ?_ _ | refine Bel.set ?_ ?_ _))⟩
  · have HK := hide hk
    have HE : Hid (fbR (TPattern.mk x0 x1 x2 x3 x4 x5) = (TPattern.mk x0 x1 x2 x3 x4 x5).fb) := by show _ = _; unfold fbR; rw [hk]; rfl
    clear hk
    go_enter Try.func43, Try.ntmps43
    go_wp2_with (fail)
    refine (specIsValidPattern_law _ _ _ _ _ (Dat.HoldVals.bel (by repeat' (first | with_reducible exact Bel.refl _ | with_reducible assumption | with_reducible refine Bel.set ?_ ?_ _ | with_reducible refine Bel.alloc ?_ _ | with_reducible refine Bel.drew ?_ | with_reducible refine Bel.drewN ?_ _ | with_reducible refine Bel.trans ?_ (by with_reducible assumption) | (simp; done) | (simp; omega) | refine Bel.alloc ?_ _ | refine Bel.drew ?_ | refine Bel.drewN ?_ _ | refine Bel.set ?_ ?_ _)) HV.out) HW.out).mono ?_
    rintro e w1 ⟨rfl, hb1⟩
    rw [HK.out]
    (have hz1 := hb1.size; (try simp only [World.size_alloc, World.size_setCell, World.size_drew] at hz1); have hk1_0 := hb1.box (w.heap.size) (by first | (simp; done) | (simp; omega) | omega); have hf1_0 := hb1.boxf (w.heap.size) (by first | (simp; done) | (simp; omega) | omega); have hl1_0 : w.heap.size < w1.heap.size := (by omega); have hn1_0 : ¬ w.heap.size = w1.heap.size := (by omega); have hk1_1 := hb1.box (w.heap.size + 1) (by first | (simp; done) | (simp; omega) | omega); have hf1_1 := hb1.boxf (w.heap.size + 1) (by first | (simp; done) | (simp; omega) | omega); have hl1_1 : w.heap.size + 1 < w1.heap.size := (by omega); have hn1_1 : ¬ w.heap.size + 1 = w1.heap.size := (by omega))
    go_wp2_with (fail)
    refine (l21First_any 24 _ _ _ _ (Dat.HoldVals.bel (by repeat' (first | with_reducible exact Bel.refl _ | with_reducible assumption | with_reducible refine Bel.set ?_ ?_ _ | with_reducible refine Bel.alloc ?_ _ | with_reducible refine Bel.drew ?_ | with_reducible refine Bel.drewN ?_ _ | with_reducible refine Bel.trans ?_ (by with_reducible assumption) | (simp; done) | (simp; omega) | refine Bel.alloc ?_ _ | refine Bel.drew ?_ | refine Bel.drewN ?_ _ | refine Bel.set ?_ ?_ _)) HV.out) (okP_vld HK.out).2.2.2).mono ?_
    rintro e w2 ⟨rfl, hb2⟩
    generalize (TPattern.mk x0 x1 x2 x3 x4 x5).fb = r at HE ⊢
    obtain ⟨r0, r1, r2⟩ := r
    simp only
    (have hz2 := hb2.size; (try simp only [World.size_alloc, World.size_setCell, World.size_drew] at hz2); have hk2_0 := hb2.box (w.heap.size) (by first | (simp; done) | (simp; omega) | omega); have hf2_0 := hb2.boxf (w.heap.size) (by first | (simp; done) | (simp; omega) | omega); have hl2_0 : w.heap.size < w2.heap.size := (by omega); have hn2_0 : ¬ w.heap.size = w2.heap.size := (by omega); have hk2_1 := hb2.box (w.heap.size + 1) (by first | (simp; done) | (simp; omega) | omega); have hf2_1 := hb2.boxf (w.heap.size + 1) (by first | (simp; done) | (simp; omega) | omega); have hl2_1 : w.heap.size + 1 < w2.heap.size := (by omega); have hn2_1 : ¬ w.heap.size + 1 = w2.heap.size := (by omega))
    go_wp2_with (fail)
    all_goals exact bodyPost_ret (v := .tuple #[.agg #[.int .i64 r0, .int .i64 r1], .bool r2]) (by simp [results, Try.results43, go_sem, hk1_1, hf1_1, hl1_1, hn1_1, hk2_1, hf2_1, hl2_1, hn2_1]) rfl ⟨by rw [HE.out], (by repeat' (first | with_reducible exact Bel.refl _ | with_reducible assumption | with_reducible refine Bel.set ?_ ?_ _ | with_reducible refine Bel.alloc ?_ _ | with_reducible refine Bel.drew ?_ | with_reducible refine Bel.drewN ?_ _ | with_reducible refine Bel.trans ?_ (by with_reducible assumption) | (simp; done) | (simp; omega) | refine Bel.alloc ?_ _ | refine Bel.drew ?_ | refine Bel.drewN ?_ _ | refine Bel.set ?_ ?_ _))⟩
set_option maxHeartbeats 1000000 in
theorem implFirstBytes_law (t : TPattern) (S : Nat → Prop) (w : World) (vs : List Value) (hv : Dat.HoldVals w S t.D vs) (hw : Dat.wtL t.D ≤ 1048576) :
    Calls Try.prog 44 #[.agg vs.toArray] w fun e w' => e = .returned (.tuple #[.agg #[.int .i64 (fbR t).lo, .int .i64 (fbR t).hi], .bool (fbR t).any]) ∧ Bel w w' := by
  have HV := hide hv
  have HW := hide hw
  have hv' := hv
  obtain ⟨x0, x1, x2, x3, x4, x5⟩ := t
  obtain ⟨A, c, rfl, -⟩ := TPattern.vals hv'
  clear hv hv' hw
  cases hk : okP 24 (TPattern.mk x0 x1 x2 x3 x4 x5)
  · have HK := hide hk
    have HE : Hid (fbR (TPattern.mk x0 x1 x2 x3 x4 x5) = ⟨0, 0, true⟩) := by show _ = _; unfold fbR; rw [hk]; rfl
    clear hk
    go_enter Try.func44, Try.ntmps44
    go_wp2_with (fail)
    refine (implIsValidPattern_law _ _ _ _ _ (Dat.HoldVals.bel (by repeat' (first | with_reducible exact Bel.refl _ | with_reducible assumption | with_reducible refine Bel.set ?_ ?_ _ | with_reducible refine Bel.alloc ?_ _ | with_reducible refine Bel.drew ?_ | with_reducible refine Bel.drewN ?_ _ | with_reducible refine Bel.trans ?_ (by with_reducible assumption) | (simp; done) | (simp; omega) | refine Bel.alloc ?_ _ | refine Bel.drew ?_ | refine Bel.drewN ?_ _ | refine Bel.set ?_ ?_ _)) HV.out) HW.out).mono ?_
    rintro e w1 ⟨rfl, hb1⟩
    rw [HK.out]
    (have hz1 := hb1.size; (try simp only [World.size_alloc, World.size_setCell, World.size_drew] at hz1); have hk1_0 := hb1.box (w.heap.size) (by first | (simp; done) | (simp; omega) | omega); have hf1_0 := hb1.boxf (w.heap.size) (by first | (simp; done) | (simp; omega) | omega); have hl1_0 : w.heap.size < w1.heap.size := (by omega); have hn1_0 : ¬ w.heap.size = w1.heap.size := (by omega); have hk1_1 := hb1.box (w.heap.size + 1) (by first | (simp; done) | (simp; omega) | omega); have hf1_1 := hb1.boxf (w.heap.size + 1) (by first | (simp; done) | (simp; omega) | omega); have hl1_1 : w.heap.size + 1 < w1.heap.size := (by omega); have hn1_1 : ¬ w.heap.size + 1 = w1.heap.size := (by omega))
    go_wp2_with (fail)
    all_goals exact bodyPost_ret (v := .tuple #[.agg #[.int .i64 0, .int .i64 0], .bool true]) (by simp [results, Try.results44, go_sem, hk1_1, hf1_1, hl1_1, hn1_1]) rfl ⟨by rw [HE.out], (by repeat' (first | with_reducible exact Bel.refl _ | with_reducible assumption | with_reducible refine Bel.set ?_ ?_ _ | with_reducible refine Bel.alloc ?_ _ | with_reducible refine Bel.drew ?_ | with_reducible refine Bel.drewN ?_ _ | with_reducible refine Bel.trans ?_ (by with_reducible assumption) | (simp; done) | (simp; omega) | refine Bel.alloc ?_ _ | refine Bel.drew ?_ | refine Bel.drewN ?_ _ | refine Bel.set ?_ ?_ _))⟩
  · have HK := hide hk
    have HE : Hid (fbR (TPattern.mk x0 x1 x2 x3 x4 x5) = (TPattern.mk x0 x1 x2 x3 x4 x5).fb) := by show _ = _; unfold fbR; rw [hk]; rfl
    clear hk
    go_enter Try.func44, Try.ntmps44
    go_wp2_with (fail)
    refine (implIsValidPattern_law _ _ _ _ _ (Dat.HoldVals.bel (by repeat' (first | with_reducible exact Bel.refl _ | with_reducible assumption | with_reducible refine Bel.set ?_ ?_ _ | with_reducible refine Bel.alloc ?_ _ | with_reducible refine Bel.drew ?_ | with_reducible refine Bel.drewN ?_ _ | with_reducible refine Bel.trans ?_ (by with_reducible assumption) | (simp; done) | (simp; omega) | refine Bel.alloc ?_ _ | refine Bel.drew ?_ | refine Bel.drewN ?_ _ | refine Bel.set ?_ ?_ _)) HV.out) HW.out).mono ?_
    rintro e w1 ⟨rfl, hb1⟩
    rw [HK.out]
    (have hz1 := hb1.size; (try simp only [World.size_alloc, World.size_setCell, World.size_drew] at hz1); have hk1_0 := hb1.box (w.heap.size) (by first | (simp; done) | (simp; omega) | omega); have hf1_0 := hb1.boxf (w.heap.size) (by first | (simp; done) | (simp; omega) | omega); have hl1_0 : w.heap.size < w1.heap.size := (by omega); have hn1_0 : ¬ w.heap.size = w1.heap.size := (by omega); have hk1_1 := hb1.box (w.heap.size + 1) (by first | (simp; done) | (simp; omega) | omega); have hf1_1 := hb1.boxf (w.heap.size + 1) (by first | (simp; done) | (simp; omega) | omega); have hl1_1 : w.heap.size + 1 < w1.heap.size := (by omega); have hn1_1 : ¬ w.heap.size + 1 = w1.heap.size := (by omega))
    go_wp2_with (fail)
    refine (firstBytes_any 24 _ _ _ _ (Dat.HoldVals.bel (by repeat' (first | with_reducible exact Bel.refl _ | with_reducible assumption | with_reducible refine Bel.set ?_ ?_ _ | with_reducible refine Bel.alloc ?_ _ | with_reducible refine Bel.drew ?_ | with_reducible refine Bel.drewN ?_ _ | with_reducible refine Bel.trans ?_ (by with_reducible assumption) | (simp; done) | (simp; omega) | refine Bel.alloc ?_ _ | refine Bel.drew ?_ | refine Bel.drewN ?_ _ | refine Bel.set ?_ ?_ _)) HV.out) (okP_vld HK.out).2.2.2).mono ?_
    rintro e w2 ⟨rfl, hb2⟩
    generalize (TPattern.mk x0 x1 x2 x3 x4 x5).fb = r at HE ⊢
    obtain ⟨r0, r1, r2⟩ := r
    simp only
    (have hz2 := hb2.size; (try simp only [World.size_alloc, World.size_setCell, World.size_drew] at hz2); have hk2_0 := hb2.box (w.heap.size) (by first | (simp; done) | (simp; omega) | omega); have hf2_0 := hb2.boxf (w.heap.size) (by first | (simp; done) | (simp; omega) | omega); have hl2_0 : w.heap.size < w2.heap.size := (by omega); have hn2_0 : ¬ w.heap.size = w2.heap.size := (by omega); have hk2_1 := hb2.box (w.heap.size + 1) (by first | (simp; done) | (simp; omega) | omega); have hf2_1 := hb2.boxf (w.heap.size + 1) (by first | (simp; done) | (simp; omega) | omega); have hl2_1 : w.heap.size + 1 < w2.heap.size := (by omega); have hn2_1 : ¬ w.heap.size + 1 = w2.heap.size := (by omega))
    go_wp2_with (fail)
    all_goals exact bodyPost_ret (v := .tuple #[.agg #[.int .i64 r0, .int .i64 r1], .bool r2]) (by simp [results, Try.results44, go_sem, hk1_1, hf1_1, hl1_1, hn1_1, hk2_1, hf2_1, hl2_1, hn2_1]) rfl ⟨by rw [HE.out], (by repeat' (first | with_reducible exact Bel.refl _ | with_reducible assumption | with_reducible refine Bel.set ?_ ?_ _ | with_reducible refine Bel.alloc ?_ _ | with_reducible refine Bel.drew ?_ | with_reducible refine Bel.drewN ?_ _ | with_reducible refine Bel.trans ?_ (by with_reducible assumption) | (simp; done) | (simp; omega) | refine Bel.alloc ?_ _ | refine Bel.drew ?_ | refine Bel.drewN ?_ _ | refine Bel.set ?_ ?_ _))⟩
end Go.Proofs.Ytmikipcfepgogaa
