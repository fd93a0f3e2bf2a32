/- ToInteger and ToCset, both sides. -/
import Derived.Test.YtmikipcfepgogaaDoorE10
import Derived.Test.YtmikipcfepgogaaDoorE12
import Derived.Test.YtmikipcfepgogaaDoorE13
import Derived.Test.YtmikipcfepgogaaDoorE14
namespace Go.Proofs.YtmikipcfepgogaaDoor
set_option linter.unusedVariables false
set_option linter.unusedSimpArgs false
set_option maxRecDepth 100000
open Go.RowKit

theorem VVal.Ok.tt {v : VVal} (h : v.Ok) : (ttT v).size ≤ maxLen := by
  unfold ttT
  split
  · have hn := h.n
    unfold InI at hn
    unfold maxLen
    have h1 : (Lib.decDigits v.n.natAbs).length ≤ 20 := by
      rw [Lib.decDigits_length]
      exact nDig_le 19 _ (by omega)
    have h2 : (Lib.decDigits v.n.toNat).length ≤ 20 := by
      rw [Lib.decDigits_length]
      exact nDig_le 19 _ (by omega)
    show (Lib.itoa v.n).toArray.size ≤ _
    unfold Lib.itoa
    split
    · simp; omega
    · simp; omega
  split
  · exact h.t
  split
  · rename_i h3
    unfold maxLen
    omega
  · decide

/-- ToInteger. -/
def tiN (v : VVal) : Int := if v.k = 1 then v.n else if ttB v then (iot (ttT v)).1 else 0
def tiB (v : VVal) : Bool := if v.k = 1 then true else ttB v && (iot (ttT v)).2
/-- ToCset. -/
def tcLo (v : VVal) : Int := if v.k = 3 then v.lo else if ttB v then nsLo (ttT v) else 0
def tcHi (v : VVal) : Int := if v.k = 3 then v.hi else if ttB v then nsHi (ttT v) else 0
def tcB (v : VVal) : Bool := if v.k = 3 then true else ttB v && nsOk (ttT v)

set_option maxHeartbeats 2000000 in
theorem specToInteger_any (v : VVal) (w : World) (hv : v.Ok) :
    Calls Tryd.prog 83 #[v.val] w fun e w' => e = .returned (.tuple #[.int .i64 (tiN v), .bool (tiB v)]) ∧ Bel w w' := by
  have hT := hv.tt
  obtain ⟨k, n, i, t, lo, hi⟩ := v
  simp only [VVal.val]
  by_cases h1 : k = 1
  · subst h1
    go_enter Tryd.func83, Tryd.ntmps83
    go_wp2_with (fail)
    all_goals
      go_returns
      exact ⟨rfl, (by repeat' (first | with_reducible exact Bel.refl _ | with_reducible assumption | with_reducible refine Bel.set ?_ ?_ _ | with_reducible refine Bel.alloc ?_ _ | with_reducible refine Bel.drew ?_ | with_reducible refine Bel.drewN ?_ _ | with_reducible refine Bel.trans ?_ (by with_reducible assumption) | (simp; done) | (simp; omega) | refine Bel.alloc ?_ _ | refine Bel.drew ?_ | refine Bel.drewN ?_ _ | refine Bel.set ?_ ?_ _))⟩
  · have e1 : (k == 1) = false := by simp [h1]
    have h1' := hide h1
    clear h1
    cases hB : ttB ⟨k, n, i, t, lo, hi⟩
    · have HB := hide hB
      clear hB
      have R0 := hide (show tiN ⟨k, n, i, t, lo, hi⟩ = 0 by simp [tiN, h1'.out, HB.out])
      have R1 := hide (show tiB ⟨k, n, i, t, lo, hi⟩ = false by simp [tiB, h1'.out, HB.out])
      go_enter Tryd.func83, Tryd.ntmps83
      go_wp2_with (first | (go_at_call 88; refine (specToText_any ⟨k, n, i, t, lo, hi⟩ _ hv).mono ?_; rintro e w1 ⟨rfl, hb1⟩; have hz1 := hb1.size; (try simp only [World.size_alloc, World.size_setCell, World.size_drew] at hz1); have hk1_0 := hb1.box (w.heap.size) (by first | (simp; done) | (simp; omega) | omega); have hf1_0 := hb1.boxf (w.heap.size) (by first | (simp; done) | (simp; omega) | omega); have hl1_0 : w.heap.size < w1.heap.size := (by omega); have hn1_0 : ¬ w.heap.size = w1.heap.size := (by omega); (try simp only [VVal.val])); (try simp only [HB.out]) | (go_at_call 104; refine (specIot_any (ttT ⟨k, n, i, t, lo, hi⟩) _ hT).mono ?_; rintro e w2 ⟨rfl, hb2⟩; have hz2 := hb2.size; (try simp only [World.size_alloc, World.size_setCell, World.size_drew] at hz2); have hk2_0 := hb2.box (w.heap.size) (by first | (simp; done) | (simp; omega) | omega); have hf2_0 := hb2.boxf (w.heap.size) (by first | (simp; done) | (simp; omega) | omega); have hl2_0 : w.heap.size < w2.heap.size := (by omega); have hn2_0 : ¬ w.heap.size = w2.heap.size := (by omega); (try simp only [VVal.val])))
      all_goals
        go_returns
        rw [R0.out, R1.out]
        exact ⟨rfl, (by repeat' (first | with_reducible exact Bel.refl _ | with_reducible assumption | with_reducible refine Bel.set ?_ ?_ _ | with_reducible refine Bel.alloc ?_ _ | with_reducible refine Bel.drew ?_ | with_reducible refine Bel.drewN ?_ _ | with_reducible refine Bel.trans ?_ (by with_reducible assumption) | (simp; done) | (simp; omega) | refine Bel.alloc ?_ _ | refine Bel.drew ?_ | refine Bel.drewN ?_ _ | refine Bel.set ?_ ?_ _))⟩
    · have HB := hide hB
      clear hB
      have R0 := hide (show tiN ⟨k, n, i, t, lo, hi⟩ = (iot (ttT ⟨k, n, i, t, lo, hi⟩)).1 by simp [tiN, h1'.out, HB.out])
      have R1 := hide (show tiB ⟨k, n, i, t, lo, hi⟩ = (iot (ttT ⟨k, n, i, t, lo, hi⟩)).2 by simp [tiB, h1'.out, HB.out])
      go_enter Tryd.func83, Tryd.ntmps83
      go_wp2_with (first | (go_at_call 88; refine (specToText_any ⟨k, n, i, t, lo, hi⟩ _ hv).mono ?_; rintro e w1 ⟨rfl, hb1⟩; have hz1 := hb1.size; (try simp only [World.size_alloc, World.size_setCell, World.size_drew] at hz1); have hk1_0 := hb1.box (w.heap.size) (by first | (simp; done) | (simp; omega) | omega); have hf1_0 := hb1.boxf (w.heap.size) (by first | (simp; done) | (simp; omega) | omega); have hl1_0 : w.heap.size < w1.heap.size := (by omega); have hn1_0 : ¬ w.heap.size = w1.heap.size := (by omega); (try simp only [VVal.val])); (try simp only [HB.out]) | (go_at_call 104; refine (specIot_any (ttT ⟨k, n, i, t, lo, hi⟩) _ hT).mono ?_; rintro e w2 ⟨rfl, hb2⟩; have hz2 := hb2.size; (try simp only [World.size_alloc, World.size_setCell, World.size_drew] at hz2); have hk2_0 := hb2.box (w.heap.size) (by first | (simp; done) | (simp; omega) | omega); have hf2_0 := hb2.boxf (w.heap.size) (by first | (simp; done) | (simp; omega) | omega); have hl2_0 : w.heap.size < w2.heap.size := (by omega); have hn2_0 : ¬ w.heap.size = w2.heap.size := (by omega); (try simp only [VVal.val])))
      all_goals
        go_returns
        rw [R0.out, R1.out]
        exact ⟨rfl, (by repeat' (first | with_reducible exact Bel.refl _ | with_reducible assumption | with_reducible refine Bel.set ?_ ?_ _ | with_reducible refine Bel.alloc ?_ _ | with_reducible refine Bel.drew ?_ | with_reducible refine Bel.drewN ?_ _ | with_reducible refine Bel.trans ?_ (by with_reducible assumption) | (simp; done) | (simp; omega) | refine Bel.alloc ?_ _ | refine Bel.drew ?_ | refine Bel.drewN ?_ _ | refine Bel.set ?_ ?_ _))⟩

set_option maxHeartbeats 2000000 in
theorem specToCset_any (v : VVal) (w : World) (hv : v.Ok) :
    Calls Tryd.prog 59 #[v.val] w fun e w' => e = .returned (.tuple #[.agg #[.int .i64 (tcLo v), .int .i64 (tcHi v)], .bool (tcB v)]) ∧ Bel w w' := by
  have hT := hv.tt
  obtain ⟨k, n, i, t, lo, hi⟩ := v
  simp only [VVal.val]
  by_cases h1 : k = 3
  · subst h1
    go_enter Tryd.func59, Tryd.ntmps59
    go_wp2_with (fail)
    all_goals
      go_returns
      exact ⟨rfl, (by repeat' (first | with_reducible exact Bel.refl _ | with_reducible assumption | with_reducible refine Bel.set ?_ ?_ _ | with_reducible refine Bel.alloc ?_ _ | with_reducible refine Bel.drew ?_ | with_reducible refine Bel.drewN ?_ _ | with_reducible refine Bel.trans ?_ (by with_reducible assumption) | (simp; done) | (simp; omega) | refine Bel.alloc ?_ _ | refine Bel.drew ?_ | refine Bel.drewN ?_ _ | refine Bel.set ?_ ?_ _))⟩
  · have e1 : (k == 3) = false := by simp [h1]
    have h1' := hide h1
    clear h1
    cases hB : ttB ⟨k, n, i, t, lo, hi⟩
    · have HB := hide hB
      clear hB
      have R0 := hide (show tcLo ⟨k, n, i, t, lo, hi⟩ = 0 by simp [tcLo, h1'.out, HB.out])
      have R1 := hide (show tcHi ⟨k, n, i, t, lo, hi⟩ = 0 by simp [tcHi, h1'.out, HB.out])
      have R2 := hide (show tcB ⟨k, n, i, t, lo, hi⟩ = false by simp [tcB, h1'.out, HB.out])
      go_enter Tryd.func59, Tryd.ntmps59
      go_wp2_with (first | (go_at_call 88; refine (specToText_any ⟨k, n, i, t, lo, hi⟩ _ hv).mono ?_; rintro e w1 ⟨rfl, hb1⟩; have hz1 := hb1.size; (try simp only [World.size_alloc, World.size_setCell, World.size_drew] at hz1); have hk1_0 := hb1.box (w.heap.size) (by first | (simp; done) | (simp; omega) | omega); have hf1_0 := hb1.boxf (w.heap.size) (by first | (simp; done) | (simp; omega) | omega); have hl1_0 : w.heap.size < w1.heap.size := (by omega); have hn1_0 : ¬ w.heap.size = w1.heap.size := (by omega); have hk1_1 := hb1.box (w.heap.size + 1) (by first | (simp; done) | (simp; omega) | omega); have hf1_1 := hb1.boxf (w.heap.size + 1) (by first | (simp; done) | (simp; omega) | omega); have hl1_1 : w.heap.size + 1 < w1.heap.size := (by omega); have hn1_1 : ¬ w.heap.size + 1 = w1.heap.size := (by omega); (try simp only [VVal.val])); (try simp only [HB.out]) | (go_at_call 92; refine (specNewCset_any (ttT ⟨k, n, i, t, lo, hi⟩) _ hT).mono ?_; rintro e w2 ⟨rfl, hb2⟩; have hz2 := hb2.size; (try simp only [World.size_alloc, World.size_setCell, World.size_drew] at hz2); have hk2_0 := hb2.box (w.heap.size) (by first | (simp; done) | (simp; omega) | omega); have hf2_0 := hb2.boxf (w.heap.size) (by first | (simp; done) | (simp; omega) | omega); have hl2_0 : w.heap.size < w2.heap.size := (by omega); have hn2_0 : ¬ w.heap.size = w2.heap.size := (by omega); have hk2_1 := hb2.box (w.heap.size + 1) (by first | (simp; done) | (simp; omega) | omega); have hf2_1 := hb2.boxf (w.heap.size + 1) (by first | (simp; done) | (simp; omega) | omega); have hl2_1 : w.heap.size + 1 < w2.heap.size := (by omega); have hn2_1 : ¬ w.heap.size + 1 = w2.heap.size := (by omega); (try simp only [VVal.val])))
      all_goals
        refine bodyPost_ret (by simp [results, Tryd.results59, hk1_1, go_sem]; try rfl) rfl ?_
        rw [R0.out, R1.out, R2.out]
        exact ⟨rfl, (by repeat' (first | with_reducible exact Bel.refl _ | with_reducible assumption | with_reducible refine Bel.set ?_ ?_ _ | with_reducible refine Bel.alloc ?_ _ | with_reducible refine Bel.drew ?_ | with_reducible refine Bel.drewN ?_ _ | with_reducible refine Bel.trans ?_ (by with_reducible assumption) | (simp; done) | (simp; omega) | refine Bel.alloc ?_ _ | refine Bel.drew ?_ | refine Bel.drewN ?_ _ | refine Bel.set ?_ ?_ _))⟩
    · have HB := hide hB
      clear hB
      have R0 := hide (show tcLo ⟨k, n, i, t, lo, hi⟩ = nsLo (ttT ⟨k, n, i, t, lo, hi⟩) by simp [tcLo, h1'.out, HB.out])
      have R1 := hide (show tcHi ⟨k, n, i, t, lo, hi⟩ = nsHi (ttT ⟨k, n, i, t, lo, hi⟩) by simp [tcHi, h1'.out, HB.out])
      have R2 := hide (show tcB ⟨k, n, i, t, lo, hi⟩ = nsOk (ttT ⟨k, n, i, t, lo, hi⟩) by simp [tcB, h1'.out, HB.out])
      go_enter Tryd.func59, Tryd.ntmps59
      go_wp2_with (first | (go_at_call 88; refine (specToText_any ⟨k, n, i, t, lo, hi⟩ _ hv).mono ?_; rintro e w1 ⟨rfl, hb1⟩; have hz1 := hb1.size; (try simp only [World.size_alloc, World.size_setCell, World.size_drew] at hz1); have hk1_0 := hb1.box (w.heap.size) (by first | (simp; done) | (simp; omega) | omega); have hf1_0 := hb1.boxf (w.heap.size) (by first | (simp; done) | (simp; omega) | omega); have hl1_0 : w.heap.size < w1.heap.size := (by omega); have hn1_0 : ¬ w.heap.size = w1.heap.size := (by omega); have hk1_1 := hb1.box (w.heap.size + 1) (by first | (simp; done) | (simp; omega) | omega); have hf1_1 := hb1.boxf (w.heap.size + 1) (by first | (simp; done) | (simp; omega) | omega); have hl1_1 : w.heap.size + 1 < w1.heap.size := (by omega); have hn1_1 : ¬ w.heap.size + 1 = w1.heap.size := (by omega); (try simp only [VVal.val])); (try simp only [HB.out]) | (go_at_call 92; refine (specNewCset_any (ttT ⟨k, n, i, t, lo, hi⟩) _ hT).mono ?_; rintro e w2 ⟨rfl, hb2⟩; have hz2 := hb2.size; (try simp only [World.size_alloc, World.size_setCell, World.size_drew] at hz2); have hk2_0 := hb2.box (w.heap.size) (by first | (simp; done) | (simp; omega) | omega); have hf2_0 := hb2.boxf (w.heap.size) (by first | (simp; done) | (simp; omega) | omega); have hl2_0 : w.heap.size < w2.heap.size := (by omega); have hn2_0 : ¬ w.heap.size = w2.heap.size := (by omega); have hk2_1 := hb2.box (w.heap.size + 1) (by first | (simp; done) | (simp; omega) | omega); have hf2_1 := hb2.boxf (w.heap.size + 1) (by first | (simp; done) | (simp; omega) | omega); have hl2_1 : w.heap.size + 1 < w2.heap.size := (by omega); have hn2_1 : ¬ w.heap.size + 1 = w2.heap.size := (by omega); (try simp only [VVal.val])))
      all_goals
        refine bodyPost_ret (by simp [results, Tryd.results59, hk1_1, hk2_1, go_sem]; try rfl) rfl ?_
        rw [R0.out, R1.out, R2.out]
        exact ⟨rfl, (by repeat' (first | with_reducible exact Bel.refl _ | with_reducible assumption | with_reducible refine Bel.set ?_ ?_ _ | with_reducible refine Bel.alloc ?_ _ | with_reducible refine Bel.drew ?_ | with_reducible refine Bel.drewN ?_ _ | with_reducible refine Bel.trans ?_ (by with_reducible assumption) | (simp; done) | (simp; omega) | refine Bel.alloc ?_ _ | refine Bel.drew ?_ | refine Bel.drewN ?_ _ | refine Bel.set ?_ ?_ _))⟩

set_option maxHeartbeats 2000000 in
theorem implToInteger_any (v : VVal) (w : World) (hv : v.Ok) (htab : P10 w) :
    Calls Tryd.prog 64 #[v.val] w fun e w' => e = .returned (.tuple #[.int .i64 (tiN v), .bool (tiB v)]) ∧ Bel w w' := by
  have hT := hv.tt
  obtain ⟨k, n, i, t, lo, hi⟩ := v
  simp only [VVal.val]
  by_cases h1 : k = 1
  · subst h1
    go_enter Tryd.func64, Tryd.ntmps64
    go_wp2_with (fail)
    all_goals
      go_returns
      exact ⟨rfl, (by repeat' (first | with_reducible exact Bel.refl _ | with_reducible assumption | with_reducible refine Bel.set ?_ ?_ _ | with_reducible refine Bel.alloc ?_ _ | with_reducible refine Bel.drew ?_ | with_reducible refine Bel.drewN ?_ _ | with_reducible refine Bel.trans ?_ (by with_reducible assumption) | (simp; done) | (simp; omega) | refine Bel.alloc ?_ _ | refine Bel.drew ?_ | refine Bel.drewN ?_ _ | refine Bel.set ?_ ?_ _))⟩
  · have e1 : (k == 1) = false := by simp [h1]
    have h1' := hide h1
    clear h1
    cases hB : ttB ⟨k, n, i, t, lo, hi⟩
    · have HB := hide hB
      clear hB
      have R0 := hide (show tiN ⟨k, n, i, t, lo, hi⟩ = 0 by simp [tiN, h1'.out, HB.out])
      have R1 := hide (show tiB ⟨k, n, i, t, lo, hi⟩ = false by simp [tiB, h1'.out, HB.out])
      go_enter Tryd.func64, Tryd.ntmps64
      go_wp2_with (first | (go_at_call 68; refine (implToText_any ⟨k, n, i, t, lo, hi⟩ _ hv (htab.on (Bel.alloc (Bel.refl w) _))).mono ?_; rintro e w1 ⟨rfl, hb1⟩; have hz1 := hb1.size; (try simp only [World.size_alloc, World.size_setCell, World.size_drew] at hz1); have hk1_0 := hb1.box (w.heap.size) (by first | (simp; done) | (simp; omega) | omega); have hf1_0 := hb1.boxf (w.heap.size) (by first | (simp; done) | (simp; omega) | omega); have hl1_0 : w.heap.size < w1.heap.size := (by omega); have hn1_0 : ¬ w.heap.size = w1.heap.size := (by omega); (try simp only [VVal.val])); (try simp only [HB.out]) | (go_at_call 93; refine (implIot_any (ttT ⟨k, n, i, t, lo, hi⟩) _ hT).mono ?_; rintro e w2 ⟨rfl, hb2⟩; have hz2 := hb2.size; (try simp only [World.size_alloc, World.size_setCell, World.size_drew] at hz2); have hk2_0 := hb2.box (w.heap.size) (by first | (simp; done) | (simp; omega) | omega); have hf2_0 := hb2.boxf (w.heap.size) (by first | (simp; done) | (simp; omega) | omega); have hl2_0 : w.heap.size < w2.heap.size := (by omega); have hn2_0 : ¬ w.heap.size = w2.heap.size := (by omega); (try simp only [VVal.val])))
      all_goals
        go_returns
        rw [R0.out, R1.out]
        exact ⟨rfl, (by repeat' (first | with_reducible exact Bel.refl _ | with_reducible assumption | with_reducible refine Bel.set ?_ ?_ _ | with_reducible refine Bel.alloc ?_ _ | with_reducible refine Bel.drew ?_ | with_reducible refine Bel.drewN ?_ _ | with_reducible refine Bel.trans ?_ (by with_reducible assumption) | (simp; done) | (simp; omega) | refine Bel.alloc ?_ _ | refine Bel.drew ?_ | refine Bel.drewN ?_ _ | refine Bel.set ?_ ?_ _))⟩
    · have HB := hide hB
      clear hB
      have R0 := hide (show tiN ⟨k, n, i, t, lo, hi⟩ = (iot (ttT ⟨k, n, i, t, lo, hi⟩)).1 by simp [tiN, h1'.out, HB.out])
      have R1 := hide (show tiB ⟨k, n, i, t, lo, hi⟩ = (iot (ttT ⟨k, n, i, t, lo, hi⟩)).2 by simp [tiB, h1'.out, HB.out])
      go_enter Tryd.func64, Tryd.ntmps64
      go_wp2_with (first | (go_at_call 68; refine (implToText_any ⟨k, n, i, t, lo, hi⟩ _ hv (htab.on (Bel.alloc (Bel.refl w) _))).mono ?_; rintro e w1 ⟨rfl, hb1⟩; have hz1 := hb1.size; (try simp only [World.size_alloc, World.size_setCell, World.size_drew] at hz1); have hk1_0 := hb1.box (w.heap.size) (by first | (simp; done) | (simp; omega) | omega); have hf1_0 := hb1.boxf (w.heap.size) (by first | (simp; done) | (simp; omega) | omega); have hl1_0 : w.heap.size < w1.heap.size := (by omega); have hn1_0 : ¬ w.heap.size = w1.heap.size := (by omega); (try simp only [VVal.val])); (try simp only [HB.out]) | (go_at_call 93; refine (implIot_any (ttT ⟨k, n, i, t, lo, hi⟩) _ hT).mono ?_; rintro e w2 ⟨rfl, hb2⟩; have hz2 := hb2.size; (try simp only [World.size_alloc, World.size_setCell, World.size_drew] at hz2); have hk2_0 := hb2.box (w.heap.size) (by first | (simp; done) | (simp; omega) | omega); have hf2_0 := hb2.boxf (w.heap.size) (by first | (simp; done) | (simp; omega) | omega); have hl2_0 : w.heap.size < w2.heap.size := (by omega); have hn2_0 : ¬ w.heap.size = w2.heap.size := (by omega); (try simp only [VVal.val])))
      all_goals
        go_returns
        rw [R0.out, R1.out]
        exact ⟨rfl, (by repeat' (first | with_reducible exact Bel.refl _ | with_reducible assumption | with_reducible refine Bel.set ?_ ?_ _ | with_reducible refine Bel.alloc ?_ _ | with_reducible refine Bel.drew ?_ | with_reducible refine Bel.drewN ?_ _ | with_reducible refine Bel.trans ?_ (by with_reducible assumption) | (simp; done) | (simp; omega) | refine Bel.alloc ?_ _ | refine Bel.drew ?_ | refine Bel.drewN ?_ _ | refine Bel.set ?_ ?_ _))⟩

set_option maxHeartbeats 2000000 in
theorem implToCset_any (v : VVal) (w : World) (hv : v.Ok) (htab : P10 w) :
    Calls Tryd.prog 71 #[v.val] w fun e w' => e = .returned (.tuple #[.agg #[.int .i64 (tcLo v), .int .i64 (tcHi v)], .bool (tcB v)]) ∧ Bel w w' := by
  have hT := hv.tt
  obtain ⟨k, n, i, t, lo, hi⟩ := v
  simp only [VVal.val]
  by_cases h1 : k = 3
  · subst h1
    go_enter Tryd.func71, Tryd.ntmps71
    go_wp2_with (fail)
    all_goals
      go_returns
      exact ⟨rfl, (by repeat' (first | with_reducible exact Bel.refl _ | with_reducible assumption | with_reducible refine Bel.set ?_ ?_ _ | with_reducible refine Bel.alloc ?_ _ | with_reducible refine Bel.drew ?_ | with_reducible refine Bel.drewN ?_ _ | with_reducible refine Bel.trans ?_ (by with_reducible assumption) | (simp; done) | (simp; omega) | refine Bel.alloc ?_ _ | refine Bel.drew ?_ | refine Bel.drewN ?_ _ | refine Bel.set ?_ ?_ _))⟩
  · have e1 : (k == 3) = false := by simp [h1]
    have h1' := hide h1
    clear h1
    cases hB : ttB ⟨k, n, i, t, lo, hi⟩
    · have HB := hide hB
      clear hB
      have R0 := hide (show tcLo ⟨k, n, i, t, lo, hi⟩ = 0 by simp [tcLo, h1'.out, HB.out])
      have R1 := hide (show tcHi ⟨k, n, i, t, lo, hi⟩ = 0 by simp [tcHi, h1'.out, HB.out])
      have R2 := hide (show tcB ⟨k, n, i, t, lo, hi⟩ = false by simp [tcB, h1'.out, HB.out])
      go_enter Tryd.func71, Tryd.ntmps71
      go_wp2_with (first | (go_at_call 68; refine (implToText_any ⟨k, n, i, t, lo, hi⟩ _ hv (htab.on (Bel.alloc (Bel.alloc (Bel.refl w) _) _))).mono ?_; rintro e w1 ⟨rfl, hb1⟩; have hz1 := hb1.size; (try simp only [World.size_alloc, World.size_setCell, World.size_drew] at hz1); have hk1_0 := hb1.box (w.heap.size) (by first | (simp; done) | (simp; omega) | omega); have hf1_0 := hb1.boxf (w.heap.size) (by first | (simp; done) | (simp; omega) | omega); have hl1_0 : w.heap.size < w1.heap.size := (by omega); have hn1_0 : ¬ w.heap.size = w1.heap.size := (by omega); have hk1_1 := hb1.box (w.heap.size + 1) (by first | (simp; done) | (simp; omega) | omega); have hf1_1 := hb1.boxf (w.heap.size + 1) (by first | (simp; done) | (simp; omega) | omega); have hl1_1 : w.heap.size + 1 < w1.heap.size := (by omega); have hn1_1 : ¬ w.heap.size + 1 = w1.heap.size := (by omega); (try simp only [VVal.val])); (try simp only [HB.out]) | (go_at_call 98; refine (implNewCset_any (ttT ⟨k, n, i, t, lo, hi⟩) _ hT).mono ?_; rintro e w2 ⟨rfl, hb2⟩; have hz2 := hb2.size; (try simp only [World.size_alloc, World.size_setCell, World.size_drew] at hz2); have hk2_0 := hb2.box (w.heap.size) (by first | (simp; done) | (simp; omega) | omega); have hf2_0 := hb2.boxf (w.heap.size) (by first | (simp; done) | (simp; omega) | omega); have hl2_0 : w.heap.size < w2.heap.size := (by omega); have hn2_0 : ¬ w.heap.size = w2.heap.size := (by omega); have hk2_1 := hb2.box (w.heap.size + 1) (by first | (simp; done) | (simp; omega) | omega); have hf2_1 := hb2.boxf (w.heap.size + 1) (by first | (simp; done) | (simp; omega) | omega); have hl2_1 : w.heap.size + 1 < w2.heap.size := (by omega); have hn2_1 : ¬ w.heap.size + 1 = w2.heap.size := (by omega); (try simp only [VVal.val])))
      all_goals
        refine bodyPost_ret (by simp [results, Tryd.results71, hk1_1, go_sem]; try rfl) rfl ?_
        rw [R0.out, R1.out, R2.out]
        exact ⟨rfl, (by repeat' (first | with_reducible exact Bel.refl _ | with_reducible assumption | with_reducible refine Bel.set ?_ ?_ _ | with_reducible refine Bel.alloc ?_ _ | with_reducible refine Bel.drew ?_ | with_reducible refine Bel.drewN ?_ _ | with_reducible refine Bel.trans ?_ (by with_reducible assumption) | (simp; done) | (simp; omega) | refine Bel.alloc ?_ _ | refine Bel.drew ?_ | refine Bel.drewN ?_ _ | refine Bel.set ?_ ?_ _))⟩
    · have HB := hide hB
      clear hB
      have R0 := hide (show tcLo ⟨k, n, i, t, lo, hi⟩ = nsLo (ttT ⟨k, n, i, t, lo, hi⟩) by simp [tcLo, h1'.out, HB.out])
      have R1 := hide (show tcHi ⟨k, n, i, t, lo, hi⟩ = nsHi (ttT ⟨k, n, i, t, lo, hi⟩) by simp [tcHi, h1'.out, HB.out])
      have R2 := hide (show tcB ⟨k, n, i, t, lo, hi⟩ = nsOk (ttT ⟨k, n, i, t, lo, hi⟩) by simp [tcB, h1'.out, HB.out])
      go_enter Tryd.func71, Tryd.ntmps71
      go_wp2_with (first | (go_at_call 68; refine (implToText_any ⟨k, n, i, t, lo, hi⟩ _ hv (htab.on (Bel.alloc (Bel.alloc (Bel.refl w) _) _))).mono ?_; rintro e w1 ⟨rfl, hb1⟩; have hz1 := hb1.size; (try simp only [World.size_alloc, World.size_setCell, World.size_drew] at hz1); have hk1_0 := hb1.box (w.heap.size) (by first | (simp; done) | (simp; omega) | omega); have hf1_0 := hb1.boxf (w.heap.size) (by first | (simp; done) | (simp; omega) | omega); have hl1_0 : w.heap.size < w1.heap.size := (by omega); have hn1_0 : ¬ w.heap.size = w1.heap.size := (by omega); have hk1_1 := hb1.box (w.heap.size + 1) (by first | (simp; done) | (simp; omega) | omega); have hf1_1 := hb1.boxf (w.heap.size + 1) (by first | (simp; done) | (simp; omega) | omega); have hl1_1 : w.heap.size + 1 < w1.heap.size := (by omega); have hn1_1 : ¬ w.heap.size + 1 = w1.heap.size := (by omega); (try simp only [VVal.val])); (try simp only [HB.out]) | (go_at_call 98; refine (implNewCset_any (ttT ⟨k, n, i, t, lo, hi⟩) _ hT).mono ?_; rintro e w2 ⟨rfl, hb2⟩; have hz2 := hb2.size; (try simp only [World.size_alloc, World.size_setCell, World.size_drew] at hz2); have hk2_0 := hb2.box (w.heap.size) (by first | (simp; done) | (simp; omega) | omega); have hf2_0 := hb2.boxf (w.heap.size) (by first | (simp; done) | (simp; omega) | omega); have hl2_0 : w.heap.size < w2.heap.size := (by omega); have hn2_0 : ¬ w.heap.size = w2.heap.size := (by omega); have hk2_1 := hb2.box (w.heap.size + 1) (by first | (simp; done) | (simp; omega) | omega); have hf2_1 := hb2.boxf (w.heap.size + 1) (by first | (simp; done) | (simp; omega) | omega); have hl2_1 : w.heap.size + 1 < w2.heap.size := (by omega); have hn2_1 : ¬ w.heap.size + 1 = w2.heap.size := (by omega); (try simp only [VVal.val])))
      all_goals
        refine bodyPost_ret (by simp [results, Tryd.results71, hk1_1, hk2_1, hn2_1, hl2_1, go_sem]; try rfl) rfl ?_
        rw [R0.out, R1.out, R2.out]
        exact ⟨rfl, (by repeat' (first | with_reducible exact Bel.refl _ | with_reducible assumption | with_reducible refine Bel.set ?_ ?_ _ | with_reducible refine Bel.alloc ?_ _ | with_reducible refine Bel.drew ?_ | with_reducible refine Bel.drewN ?_ _ | with_reducible refine Bel.trans ?_ (by with_reducible assumption) | (simp; done) | (simp; omega) | refine Bel.alloc ?_ _ | refine Bel.drew ?_ | refine Bel.drewN ?_ _ | refine Bel.set ?_ ?_ _))⟩

end Go.Proofs.YtmikipcfepgogaaDoor
