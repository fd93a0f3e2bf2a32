/- Draws: a place, a part of a text; the draws of ManyAt and of MatchAt. -/
import Derived.Test.YtmikipcfepgogaaF8
import Derived.Test.YtmikipcfepgogaaF3
namespace Go.Proofs.Ytmikipcfepgogaa
set_option linter.unusedVariables false
set_option linter.unusedSimpArgs false
set_option maxRecDepth 100000
open Go.RowKit

set_option maxHeartbeats 1000000 in
theorem l3Index_any (c : Nat) (A : Option Addr) (n cap : Nat) (w : World) (hc : Cur w c A n cap) :
    Calls Try.prog 91 #[.pointer (some ⟨c, 0, none⟩)] w (DrewI w c A n cap) := by
  have HC := hide hc
  clear hc
  go_enter Try.func91, Try.ntmps91
  go_wp2_with (first
    | (go_at_call 105; refine (l1Once_any 12 c A n cap _ HC.out (by unfold InI; omega)).mono ?_; rintro e w2 ⟨y, rfl, hC2, hO2⟩; have HC2 := hide hC2; have HO2 := hide hO2; clear hC2 hO2)
    | (go_at_call 115; refine (l1Whole_any c A n cap _ HC2.out).mono ?_; rintro e w3 ⟨z, hz, rfl, hC3, hO3⟩; have HZ3 := hide hz; have HC3 := hide hC3; have HO3 := hide hO3; clear hC3 hO3 hz)
    | (go_at_call 102; refine (l1Below_any 16 c A n cap _ HC2.out (by unfold InI; omega)).mono ?_; rintro e w4 ⟨u, u1, u2, rfl, hC4, hO4⟩; have HC4 := hide hC4; have HO4 := hide hO4; clear hC4 hO4; have u3 : u ≤ 15 := u2; clear u2))
  all_goals
    go_returns
    first
      | exact ⟨_, HZ3.out, rfl, HC3.out, HO2.out.trans HO3.out⟩
      | exact ⟨_, by unfold InI; omega, rfl, HC4.out, HO2.out.trans HO4.out⟩
set_option maxHeartbeats 1000000 in
theorem l17Part_any (c : Nat) (A : Option Addr) (n cap : Nat) (w : World) (hc : Cur w c A n cap) :
    Calls Try.prog 94 #[.pointer (some ⟨c, 0, none⟩)] w (DrewT w c A n cap 20) := by
  have HC := hide hc
  have hlt := hc.1
  clear hc
  go_enter Try.func94, Try.ntmps94
  go_wp2_with (go_at_call 106; refine (l1Pick_any w.heap.size 8 20 8 c A n cap _ (HC.out.bel (by repeat' (first | with_reducible exact Bel.refl _ | with_reducible assumption | with_reducible refine Bel.set ?_ ?_ _ | with_reducible refine Bel.alloc ?_ _ | with_reducible refine Bel.drew ?_ | with_reducible refine Bel.drewN ?_ _ | with_reducible refine Bel.trans ?_ (by with_reducible assumption) | (simp; done) | (simp; omega) | refine Bel.alloc ?_ _ | refine Bel.drew ?_ | refine Bel.drewN ?_ _ | refine Bel.set ?_ ?_ _))) (rowT_new 20 [⟨#[]⟩, ⟨#[97]⟩, ⟨#[97, 110]⟩, ⟨#[110, 97]⟩, ⟨#[97, 110, 97]⟩, ⟨#[98]⟩, ⟨#[44]⟩, ⟨#[120]⟩] (by decide +kernel)) (by omega) (by omega) (by omega)).mono ?_; rintro e w1 ⟨x, hx, rfl, hC1, hO1⟩; have HX := hide hx; have HC1 := hide hC1; have HO1 := hide hO1; clear hx hC1 hO1)
  all_goals
    go_returns
    exact ⟨x, HX.out, rfl, HC1.out, Oth.trans (Oth.of_bel (by repeat' (first | with_reducible exact Bel.refl _ | with_reducible assumption | with_reducible refine Bel.set ?_ ?_ _ | with_reducible refine Bel.alloc ?_ _ | with_reducible refine Bel.drew ?_ | with_reducible refine Bel.drewN ?_ _ | with_reducible refine Bel.trans ?_ (by with_reducible assumption) | (simp; done) | (simp; omega) | refine Bel.alloc ?_ _ | refine Bel.drew ?_ | refine Bel.drewN ?_ _ | refine Bel.set ?_ ?_ _))) HO1.out⟩
/-- A set, a text and a place come back. -/
def DrawnC (w : World) (e : Ending) (w' : World) : Prop := ∃ (lo hi : Int) (s : ByteArray) (n : Int), InI lo ∧ InI hi ∧ s.size ≤ 160 ∧ InI n ∧ e = .returned (.tuple #[.agg #[.int .i64 lo, .int .i64 hi], .string s, .int .i64 n]) ∧ Bel w w'
/-- Two texts and a place come back. -/
def DrawnT (w : World) (e : Ending) (w' : World) : Prop := ∃ (p s : ByteArray) (n : Int), p.size ≤ 160 ∧ s.size ≤ 160 ∧ InI n ∧ e = .returned (.tuple #[.string p, .string s, .int .i64 n]) ∧ Bel w w'
set_option maxHeartbeats 1000000 in
theorem drawMatchAt_any (A : Option Addr) (n cap : Nat) (w : World) (hn : n ≤ 1048576) (hB : ∀ c, w.heap.size ≤ c → Bts w c A n) :
    Calls Try.prog 67 #[.slice A n cap] w (DrawnT w) := by
  have HB := hide hB
  clear hB
  go_enter Try.func67, Try.ntmps67
  go_wp2_with (fail)
  refine (l1New_any A n cap _ hn (fun c h => HB.out c h)).mono ?_
  rintro e w1 ⟨rfl, hC1, hb1⟩
  have HC1 := hide hC1
  have Hb1 := hide hb1
  clear hC1 hb1
  go_wp2_with (first
    | (go_at_call 94; refine (l17Part_any _ A n cap _ HC1.out).mono ?_; rintro e w2 ⟨x, hx, rfl, hC2, hO2⟩; have HX := hide hx; have HC2 := hide hC2; have HO2 := hide hO2; clear hx hC2 hO2)
    | (go_at_call 90; refine (l3Word_any _ A n cap _ HC2.out).mono ?_; rintro e w3 ⟨y, hy, rfl, hC3, hO3⟩; have HY := hide hy; have HC3 := hide hC3; have HO3 := hide hO3; clear hy hC3 hO3)
    | (go_at_call 91; refine (l3Index_any _ A n cap _ HC3.out).mono ?_; rintro e w4 ⟨z, hz, rfl, hC4, hO4⟩; have HZ := hide hz; have HC4 := hide hC4; have HO4 := hide hO4; clear hz hC4 hO4))
  exact bodyPost_ret (v := .tuple #[.string x, .string y, .int .i64 z]) (by simp [results, Try.results67, go_sem]) rfl
    ⟨x, y, z, by have := HX.out; omega, HY.out, HZ.out, rfl, Oth.bel Hb1.out ((HO2.out.trans HO3.out).trans HO4.out) (Nat.le_refl _)⟩
set_option maxHeartbeats 400000 in
theorem drawFindFrom_any (A : Option Addr) (n cap : Nat) (w : World) (hn : n ≤ 1048576) (hB : ∀ c, w.heap.size ≤ c → Bts w c A n) :
    Calls Try.prog 32 #[.slice A n cap] w (DrawnT w) := by
  have HB := hide hB
  clear hB
  go_enter Try.func32, Try.ntmps32
  go_wp2_with (fail)
  refine (drawMatchAt_any A n cap _ hn HB.out).mono ?_
  rintro e w1 ⟨p, s, z, h1, h2, h3, rfl, hb1⟩
  have H1 := hide h1
  have H2 := hide h2
  have H3 := hide h3
  clear h1 h2 h3
  go_wp2_with (fail)
  exact bodyPost_ret (v := .tuple #[.string p, .string s, .int .i64 z]) (by simp [results, Try.results32, go_sem]) rfl ⟨p, s, z, H1.out, H2.out, H3.out, rfl, hb1⟩
set_option maxHeartbeats 1000000 in
theorem drawAnyAt_any (A : Option Addr) (n cap : Nat) (w : World) (hn : n ≤ 1048576) (hB : ∀ c, w.heap.size ≤ c → Bts w c A n) :
    Calls Try.prog 60 #[.slice A n cap] w (DrawnC w) := by
  have HB := hide hB
  clear hB
  go_enter Try.func60, Try.ntmps60
  go_wp2_with (fail)
  refine (l1New_any A n cap _ hn (fun c h => (HB.out c (by simp at h; omega)).on (Oth.of_bel (by repeat' (first | with_reducible exact Bel.refl _ | with_reducible assumption | with_reducible refine Bel.set ?_ ?_ _ | with_reducible refine Bel.alloc ?_ _ | with_reducible refine Bel.drew ?_ | with_reducible refine Bel.drewN ?_ _ | with_reducible refine Bel.trans ?_ (by with_reducible assumption) | (simp; done) | (simp; omega) | refine Bel.alloc ?_ _ | refine Bel.drew ?_ | refine Bel.drewN ?_ _ | refine Bel.set ?_ ?_ _))))).mono ?_
  rintro e w1 ⟨rfl, hC1, hb1⟩
  have HC1 := hide hC1
  have Hb1 := hide hb1
  have X1 := hide (Box2.on Box2.new hb1)
  have hne : w.heap.size ≠ w.heap.size + 1 := by omega
  clear hC1 hb1
  go_wp2_with (first
    | (go_at_call 89; refine (l2Draw_any _ A n cap _ (by simpa using HC1.out)).mono ?_; rintro e w2 ⟨lo, hi, hlo, hhi, rfl, hC2, hO2⟩; have HL := hide hlo; have HH := hide hhi; have HC2 := hide hC2; have HO2 := hide hO2; have X2 := hide (X1.out.oth hO2 hne); clear hlo hhi hC2 hO2)
    | (go_at_call 90; refine (l3Word_any _ A n cap _ HC2.out).mono ?_; rintro e w3 ⟨y, hy, rfl, hC3, hO3⟩; have HY := hide hy; have HC3 := hide hC3; have HO3 := hide hO3; have X3 := hide (X2.out.oth hO3 hne); clear hy hC3 hO3)
    | (go_at_call 91; refine (l3Index_any _ A n cap _ HC3.out).mono ?_; rintro e w4 ⟨z, hz, rfl, hC4, hO4⟩; have HZ := hide hz; have HC4 := hide hC4; have HO4 := hide hO4; have X4 := X3.out.oth hO4 hne; obtain ⟨x0, x1, x2, x3, x4⟩ := X4; clear hz hC4 hO4))
  have D := Box2.put (⟨x0, x1, x2, x3, x4⟩ : Box2 w4 w.heap.size 0 0) lo hi
  obtain ⟨d0, d1, d2, d3, d4⟩ := D
  exact bodyPost_ret (v := .tuple #[.agg #[.int .i64 lo, .int .i64 hi], .string y, .int .i64 z]) (by simp [results, Try.results60, d0, d1, go_sem]; try rfl) rfl
    ⟨lo, hi, y, z, HL.out, HH.out, HY.out, HZ.out, rfl, Bel.set (Bel.set (Oth.bel (Bel.trans (by repeat' (first | with_reducible exact Bel.refl _ | with_reducible assumption | with_reducible refine Bel.set ?_ ?_ _ | with_reducible refine Bel.alloc ?_ _ | with_reducible refine Bel.drew ?_ | with_reducible refine Bel.drewN ?_ _ | with_reducible refine Bel.trans ?_ (by with_reducible assumption) | (simp; done) | (simp; omega) | refine Bel.alloc ?_ _ | refine Bel.drew ?_ | refine Bel.drewN ?_ _ | refine Bel.set ?_ ?_ _)) Hb1.out) ((HO2.out.trans HO3.out).trans HO4.out) (by simp)) (Nat.le_refl _) _) (Nat.le_refl _) _⟩
set_option maxHeartbeats 400000 in
theorem drawManyAt_any (A : Option Addr) (n cap : Nat) (w : World) (hn : n ≤ 1048576) (hB : ∀ c, w.heap.size ≤ c → Bts w c A n) :
    Calls Try.prog 26 #[.slice A n cap] w (DrawnC w) := by
  have HB := hide hB
  clear hB
  go_enter Try.func26, Try.ntmps26
  go_wp2_with (fail)
  refine (drawAnyAt_any A n cap _ hn (fun c h => (HB.out c (by simp at h; omega)).on (Oth.of_bel (by repeat' (first | with_reducible exact Bel.refl _ | with_reducible assumption | with_reducible refine Bel.set ?_ ?_ _ | with_reducible refine Bel.alloc ?_ _ | with_reducible refine Bel.drew ?_ | with_reducible refine Bel.drewN ?_ _ | with_reducible refine Bel.trans ?_ (by with_reducible assumption) | (simp; done) | (simp; omega) | refine Bel.alloc ?_ _ | refine Bel.drew ?_ | refine Bel.drewN ?_ _ | refine Bel.set ?_ ?_ _))))).mono ?_
  rintro e w1 ⟨lo, hi, s, z, h0, h1, h2, h3, rfl, hb1⟩
  have H0 := hide h0
  have H1 := hide h1
  have H2 := hide h2
  have H3 := hide h3
  have X1 := Box2.on Box2.new hb1
  obtain ⟨x0, x1, x2, x3, x4⟩ := X1
  clear h0 h1 h2 h3
  go_wp2_with (fail)
  have D := Box2.put (⟨x0, x1, x2, x3, x4⟩ : Box2 w1 w.heap.size 0 0) lo hi
  obtain ⟨d0, d1, d2, d3, d4⟩ := D
  exact bodyPost_ret (v := .tuple #[.agg #[.int .i64 lo, .int .i64 hi], .string s, .int .i64 z]) (by simp [results, Try.results26, d0, d1, go_sem]; try rfl) rfl
    ⟨lo, hi, s, z, H0.out, H1.out, H2.out, H3.out, rfl, (by repeat' (first | with_reducible exact Bel.refl _ | with_reducible assumption | with_reducible refine Bel.set ?_ ?_ _ | with_reducible refine Bel.alloc ?_ _ | with_reducible refine Bel.drew ?_ | with_reducible refine Bel.drewN ?_ _ | with_reducible refine Bel.trans ?_ (by with_reducible assumption) | (simp; done) | (simp; omega) | refine Bel.alloc ?_ _ | refine Bel.drew ?_ | refine Bel.drewN ?_ _ | refine Bel.set ?_ ?_ _))⟩
end Go.Proofs.Ytmikipcfepgogaa
