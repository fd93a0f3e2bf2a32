/- Small draws: one out of a list, a whole number. -/
import Derived.Test.YtmikipcfepgogaaF1
namespace Go.Proofs.Ytmikipcfepgogaa
set_option linter.unusedVariables false
set_option linter.unusedSimpArgs false
set_option maxRecDepth 100000
open Go.RowKit

/-- A number comes back; the cursor lies there still. -/
def DrewI (w : World) (c : Nat) (A : Option Addr) (n cap : Nat) (e : Ending) (w' : World) : Prop :=
  ∃ x : Int, InI x ∧ e = .returned (.int .i64 x) ∧ Cur w' c A n cap ∧ Oth c w w'
def DrewB (w : World) (c : Nat) (A : Option Addr) (n cap : Nat) (e : Ending) (w' : World) : Prop :=
  ∃ x : Bool, e = .returned (.bool x) ∧ Cur w' c A n cap ∧ Oth c w w'
/-- A text of at most m bytes comes back. -/
def DrewT (w : World) (c : Nat) (A : Option Addr) (n cap m : Nat) (e : Ending) (w' : World) : Prop :=
  ∃ x : ByteArray, x.size ≤ m ∧ e = .returned (.string x) ∧ Cur w' c A n cap ∧ Oth c w w'

set_option maxHeartbeats 400000 in
theorem l1Once_any (m : Int) (c : Nat) (A : Option Addr) (n cap : Nat) (w : World) (hc : Cur w c A n cap) (hm : InI m) :
    Calls Try.prog 105 #[.pointer (some ⟨c, 0, none⟩), .int .i64 m] w (DrewB w c A n cap) := by
  have HC := hide hc
  clear hc
  go_enter Try.func105, Try.ntmps105
  go_wp2_with (go_at_call 102; refine (l1Below_any m c A n cap _ HC.out hm).mono ?_; rintro e w1 ⟨x, x1, x2, rfl, hC1, hO1⟩; have HC1 := hide hC1; have HO1 := hide hO1; clear hC1 hO1)
  all_goals
    go_returns
    exact ⟨_, rfl, HC1.out, HO1.out⟩
/-- A row of numbers in memory. -/
def RowI (w : World) (g : Nat) (m : Nat) : Prop := g < w.heap.size ∧ ∀ j, j < m → ∃ x : Int, InI x ∧ w.cell? ⟨g, j, none⟩ = some (.int .i64 x)
theorem RowI.on {w w' : World} {c g m : Nat} (h : RowI w g m) (k : Oth c w w') (hg : g ≠ c) : RowI w' g m :=
  ⟨Nat.lt_of_lt_of_le h.1 k.size, fun j hj => by obtain ⟨x, hx, hc⟩ := h.2 j hj; exact ⟨x, hx, (k.cell h.1 hg).trans hc⟩⟩
theorem rowI_new {w : World} {t : TypeId} (xs : List Int) (h : xs.all (fun x => decide (-9223372036854775808 ≤ x) && decide (x ≤ 9223372036854775807)) = true) : RowI (w.alloc (.cells (xs.map (Value.int .i64)).toArray t)) w.heap.size xs.length := by
  refine ⟨by simp, fun j hj => ⟨xs[j], ?_, ?_⟩⟩
  · have := List.all_eq_true.1 h xs[j] (List.getElem_mem hj)
    simpa [InI] using this
  · unfold World.cell?
    show (match (w.alloc _).heap[w.heap.size]? with | some (.cells c _ _) => _ | _ => _) = _
    rw [heap_alloc_new]
    simp [hj]
set_option maxHeartbeats 400000 in
theorem l1PickInt_any (g m cap' : Nat) (c : Nat) (A : Option Addr) (n cap : Nat) (w : World) (hc : Cur w c A n cap) (hr : RowI w g m) (hg : g ≠ c) (h0 : 0 < m) (h1 : m ≤ 1000) :
    Calls Try.prog 126 #[.pointer (some ⟨c, 0, none⟩), .slice (some ⟨g, 0, none⟩) m cap'] w (DrewI w c A n cap) := by
  have HC := hide hc
  have HR := hide hr
  clear hc hr
  have hb := hide (show belowHi (m : Int) = m - 1 by unfold belowHi; rw [if_neg (by omega)])
  go_enter Try.func126, Try.ntmps126
  go_wp2_with (go_at_call 102; refine (l1Below_any m c A n cap _ HC.out (by unfold InI; omega)).mono ?_; rintro e w1 ⟨x, x1, x2, rfl, hC1, hO1⟩; have HC1 := hide hC1; have HO1 := hide hO1; clear hC1 hO1; rw [hb.out] at x2; obtain ⟨j, rfl⟩ := Int.eq_ofNat_of_zero_le x1; obtain ⟨y, hy, hcell⟩ := (HR.out.on HO1.out hg).2 j (by omega); have i1 : (j : Int) < (m : Int) := (by omega); have i2 : j < m := (by omega); have hy' := hide hy; clear hy)
  all_goals
    go_returns
    exact ⟨y, hy'.out, rfl, HC1.out, HO1.out⟩
set_option maxHeartbeats 1000000 in
theorem l1Whole_any (c : Nat) (A : Option Addr) (n cap : Nat) (w : World) (hc : Cur w c A n cap) :
    Calls Try.prog 115 #[.pointer (some ⟨c, 0, none⟩)] w (DrewI w c A n cap) := by
  have HC := hide hc
  have hlt := hc.1
  clear hc
  go_enter Try.func115, Try.ntmps115
  go_upto_region 2 with (go_at_call 102; refine (l1Below_any 3 c A n cap _ HC.out (by unfold InI; omega)).mono ?_; rintro e w1 ⟨x, x1, x2, rfl, hC1, hO1⟩; have HC1 := hide hC1; have HO1 := hide hO1; clear hC1 hO1)
  have hsz := HO1.out.size
  rcases (show x = 0 ∨ x = 1 ∨ x = 2 by have : belowHi 3 = 2 := rfl; omega) with rfl | rfl | rfl
  · go_wp2_with (go_at_call 126; refine (l1PickInt_any w1.heap.size 12 12 c A n cap _ (HC1.out.bel (by repeat' (first | with_reducible exact Bel.refl _ | with_reducible assumption | with_reducible refine Bel.set ?_ ?_ _ | with_reducible refine Bel.alloc ?_ _ | with_reducible refine Bel.drew ?_ | with_reducible refine Bel.drewN ?_ _ | with_reducible refine Bel.trans ?_ (by with_reducible assumption) | (simp; done) | (simp; omega) | refine Bel.alloc ?_ _ | refine Bel.drew ?_ | refine Bel.drewN ?_ _ | refine Bel.set ?_ ?_ _))) (rowI_new [0, 1, -1, 9, 10, 999999, 1000000, 999999999999, 1000000000000, -999999999999, 9223372036854775807, -9223372036854775808] (by decide)) (by have := HC1.out.1; omega) (by omega) (by omega)).mono ?_; rintro e w2 ⟨y, hy, rfl, hC2, hO2⟩; have HC2 := hide hC2; have HO2 := hide hO2; have hy' := hide hy; clear hC2 hO2 hy)
    all_goals
      go_returns
      exact ⟨_, hy'.out, rfl, HC2.out, HO1.out.trans (Oth.trans (Oth.of_bel (by repeat' (first | with_reducible exact Bel.refl _ | with_reducible assumption | with_reducible refine Bel.set ?_ ?_ _ | with_reducible refine Bel.alloc ?_ _ | with_reducible refine Bel.drew ?_ | with_reducible refine Bel.drewN ?_ _ | with_reducible refine Bel.trans ?_ (by with_reducible assumption) | (simp; done) | (simp; omega) | refine Bel.alloc ?_ _ | refine Bel.drew ?_ | refine Bel.drewN ?_ _ | refine Bel.set ?_ ?_ _))) HO2.out)⟩
  · go_wp2_with (go_at_call 102; refine (l1Below_any 1000000 c A n cap _ HC1.out (by unfold InI; omega)).mono ?_; rintro e w2 ⟨y, y1, y2, rfl, hC2, hO2⟩; have HC2 := hide hC2; have HO2 := hide hO2; clear hC2 hO2; have y3 : y ≤ 999999 := y2; clear y2)
    all_goals
      go_returns
      exact ⟨_, by unfold InI; omega, rfl, HC2.out, HO1.out.trans HO2.out⟩
  · go_wp2_with (go_at_call 102; refine (l1Below_any 20 c A n cap _ HC1.out (by unfold InI; omega)).mono ?_; rintro e w2 ⟨y, y1, y2, rfl, hC2, hO2⟩; have HC2 := hide hC2; have HO2 := hide hO2; clear hC2 hO2; have y3 : y ≤ 19 := y2; clear y2)
    all_goals
      go_returns
      exact ⟨_, by unfold InI; omega, rfl, HC2.out, HO1.out.trans HO2.out⟩

end Go.Proofs.Ytmikipcfepgogaa
