/- Draws: a word. -/
import Derived.Test.YtmikipcfepgogaaF5
namespace Go.Proofs.Ytmikipcfepgogaa
set_option linter.unusedVariables false
set_option linter.unusedSimpArgs false
set_option maxRecDepth 100000
open Go.RowKit

set_option maxHeartbeats 1000000 in
theorem l3Word_any (c : Nat) (A : Option Addr) (n cap : Nat) (w : World) (hc : Cur w c A n cap) :
    Calls Try.prog 90 #[.pointer (some ⟨c, 0, none⟩)] w (DrewT w c A n cap 160) := by
  have HC := hide hc
  have hlt := hc.1
  clear hc
  go_enter Try.func90, Try.ntmps90
  go_upto_region 2 with (go_at_call 106; refine (l1Pick_any w.heap.size 12 20 12 c A n cap _ (HC.out.bel (by repeat' (first | with_reducible exact Bel.refl _ | with_reducible assumption | with_reducible refine Bel.set ?_ ?_ _ | with_reducible refine Bel.alloc ?_ _ | with_reducible refine Bel.drew ?_ | with_reducible refine Bel.drewN ?_ _ | with_reducible refine Bel.trans ?_ (by with_reducible assumption) | (simp; done) | (simp; omega) | refine Bel.alloc ?_ _ | refine Bel.drew ?_ | refine Bel.drewN ?_ _ | refine Bel.set ?_ ?_ _))) (rowT_new 20 [⟨#[]⟩, ⟨#[97]⟩, ⟨#[98]⟩, ⟨#[97, 98]⟩, ⟨#[97, 98, 99]⟩, ⟨#[98, 97, 110, 97, 110, 97]⟩, ⟨#[104, 101, 108, 108, 111, 44, 32, 119, 111, 114, 108, 100]⟩, ⟨#[97, 44, 98, 44, 44, 99]⟩, ⟨#[49, 43, 50, 42, 51]⟩, ⟨#[40, 40, 41, 41]⟩, ⟨#[32, 120, 32]⟩, ⟨#[114, 97, 99, 101, 99, 97, 114]⟩] (by decide +kernel)) (by omega) (by omega) (by omega)).mono ?_; rintro e w1 ⟨x, hx, rfl, hC1, hO1⟩; have HC1 := hide hC1; have HO1 := hide hO1; clear hC1 hO1)
  go_upto_region 3 with (go_at_call 105; refine (l1Once_any 12 c A n cap _ HC1.out (by unfold InI; omega)).mono ?_; rintro e w2 ⟨y, rfl, hC2, hO2⟩; have HC2 := hide hC2; have HO2 := hide hO2; clear hC2 hO2)
  rotate_left
  · go_returns
    exact ⟨x, by omega, rfl, HC2.out, Oth.trans (Oth.trans (Oth.of_bel (by repeat' (first | with_reducible exact Bel.refl _ | with_reducible assumption | with_reducible refine Bel.set ?_ ?_ _ | with_reducible refine Bel.alloc ?_ _ | with_reducible refine Bel.drew ?_ | with_reducible refine Bel.drewN ?_ _ | with_reducible refine Bel.trans ?_ (by with_reducible assumption) | (simp; done) | (simp; omega) | refine Bel.alloc ?_ _ | refine Bel.drew ?_ | refine Bel.drewN ?_ _ | refine Bel.set ?_ ?_ _))) HO1.out) HO2.out⟩
  · go_wp2_with (first
      | (go_at_call 102; refine (l1Below_any 4 c A n cap _ HC2.out (by unfold InI; omega)).mono ?_; rintro e w3 ⟨z, z1, z2, rfl, hC3, hO3⟩; have HC3 := hide hC3; have HO3 := hide hO3; clear hC3 hO3; have z3 : z ≤ 3 := z2; clear z2)
      | (go_at_call 118; refine (l3Pad_any (118 - (x.size : Int) + z) 113 _ (by omega) (by omega) (by omega)).mono ?_; rintro e w4 ⟨rfl, hb4⟩; have HP := hide (show (⟨(List.replicate (118 - (x.size : Int) + z).toNat (UInt8.ofNat 113)).toArray⟩ : ByteArray).size ≤ 121 by show (List.replicate _ _).toArray.size ≤ _; simp; omega); have Hb4 := hide hb4; clear hb4; generalize (⟨(List.replicate (118 - (x.size : Int) + z).toNat (UInt8.ofNat 113)).toArray⟩ : ByteArray) = pd at HP ⊢; have hpd := HP.out))
    all_goals
      go_returns
      exact ⟨_, by rw [ByteArray.size_append]; have := HP.out; omega, rfl, HC3.out.bel Hb4.out, Oth.trans (Oth.trans (Oth.trans (Oth.trans (Oth.of_bel (by repeat' (first | with_reducible exact Bel.refl _ | with_reducible assumption | with_reducible refine Bel.set ?_ ?_ _ | with_reducible refine Bel.alloc ?_ _ | with_reducible refine Bel.drew ?_ | with_reducible refine Bel.drewN ?_ _ | with_reducible refine Bel.trans ?_ (by with_reducible assumption) | (simp; done) | (simp; omega) | refine Bel.alloc ?_ _ | refine Bel.drew ?_ | refine Bel.drewN ?_ _ | refine Bel.set ?_ ?_ _))) HO1.out) HO2.out) HO3.out) (Oth.of_bel Hb4.out)⟩

end Go.Proofs.Ytmikipcfepgogaa
