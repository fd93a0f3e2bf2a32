/- The text of a set, and sets and texts in quotes: both sides. -/
import Derived.Test.YtmikipcfepgogaaDoorQb
import Derived.Test.YtmikipcfepgogaaDoorA3
namespace Go.Proofs.YtmikipcfepgogaaDoor
set_option linter.unusedVariables false
set_option linter.unusedSimpArgs false
set_option maxRecDepth 100000
open Go.RowKit

def csL (lo hi : Int) : Nat → List Nat
  | 0 => []
  | k + 1 => csL lo hi k ++ (if hasB lo hi k then [k] else [])
theorem csL_len (lo hi : Int) : ∀ k, (csL lo hi k).length ≤ k
  | 0 => by simp [csL]
  | k + 1 => by
    have := csL_len lo hi k
    simp only [csL, List.length_append]
    split <;> simp <;> omega
theorem csL_lt (lo hi : Int) : ∀ k, ∀ x ∈ csL lo hi k, x < k
  | 0 => by simp [csL]
  | k + 1 => by
    intro x hx
    simp only [csL, List.mem_append] at hx
    rcases hx with hx | hx
    · have := csL_lt lo hi k x hx; omega
    · split at hx
      · simp at hx; omega
      · simp at hx
theorem csL_yes {lo hi : Int} {k : Nat} (h : hasB lo hi k = true) : csL lo hi (k + 1) = csL lo hi k ++ [k] := by simp [csL, h]
theorem csL_no {lo hi : Int} {k : Nat} (h : hasB lo hi k = false) : csL lo hi (k + 1) = csL lo hi k := by simp [csL, h]
/-- The text of a set. -/
def csT (lo hi : Int) : ByteArray := txt (csL lo hi 128)
theorem csT_size (lo hi : Int) : (csT lo hi).size ≤ 128 := by unfold csT; rw [txt_size]; exact csL_len lo hi 128

set_option maxHeartbeats 2000000 in
theorem specCsetTextQ_any (lo hi : Int) (w : World) :
    Calls Tryd.prog 48 #[.agg #[.int .i64 lo, .int .i64 hi]] w fun e w' => e = .returned (.string (csT lo hi)) ∧ Bel w w' := by
  obtain ⟨i0, hi0, iz0, iz1, iz2⟩ := info_parts infoQ8
  go_enter Tryd.func48, Tryd.ntmps48
  go_wp2_with (fail)
  go_loopw [3, 4] (fun v i wr => ∃ k : Nat, i = .int .i64 k ∧ k ≤ 128 ∧ wr.ownsRow (w.heap.size + 1) 5 1 v (csL lo hi k).length (ByL (csL lo hi k)) ∧ Bel (w.alloc (.cells #[.int .i64 lo, .int .i64 hi] 29)) wr) (fun _ i _ => 128 - (intOf i).toNat)
  case atStart => exact ⟨0, rfl, by omega, by have := own_new (w.alloc (.cells #[.int .i64 lo, .int .i64 hi] 29)) (w.heap.size + 1) 5 0 #[] (by simp) rfl (by unfold maxLen; omega); rw [World.size_alloc] at this; exact this, (by repeat' (first | with_reducible exact Bel.refl _ | with_reducible assumption | with_reducible refine Bel.set ?_ ?_ _ | with_reducible refine Bel.alloc ?_ _ | with_reducible refine Bel.drew ?_ | with_reducible refine Bel.drewN ?_ _ | with_reducible refine Bel.trans ?_ (by with_reducible assumption) | (simp; done) | (simp; omega) | refine Bel.alloc ?_ _ | refine Bel.drew ?_ | refine Bel.drewN ?_ _ | refine Bel.set ?_ ?_ _))⟩
  case round =>
    obtain ⟨k, rfl, hk, hown, hbx⟩ := hrel
    have p0 : wr.cell? ⟨w.heap.size, 0, none⟩ = some (.int .i64 lo) := (hbx.box _ (by simp) 0).trans (by simp)
    have p1 : wr.cell? ⟨w.heap.size, 1, none⟩ = some (.int .i64 hi) := (hbx.box _ (by simp) 1).trans (by simp)
    have hsz := hbx.size
    simp only [World.size_alloc] at hsz
    have hbw : Bel w wr := Bel.trans (by repeat' (first | with_reducible exact Bel.refl _ | with_reducible assumption | with_reducible refine Bel.set ?_ ?_ _ | with_reducible refine Bel.alloc ?_ _ | with_reducible refine Bel.drew ?_ | with_reducible refine Bel.drewN ?_ _ | with_reducible refine Bel.trans ?_ (by with_reducible assumption) | (simp; done) | (simp; omega) | refine Bel.alloc ?_ _ | refine Bel.drew ?_ | refine Bel.drewN ?_ _ | refine Bel.set ?_ ?_ _)) hbx
    have hcl := csL_len lo hi k
    by_cases h : k < 128
    · have hd : decide ((k : Int) < 128) = true := by simp; omega
      have hw8 : IntKind.u8.wrap (k : Int) = k := by rw [IntKind.wrap_u8]; omega
      cases hh : hasB lo hi k
      · have HH := hide hh
        clear hh
        go_wp2_with (fail)
        refine (specHasByte_any lo hi k _ (by omega)).mono ?_
        rintro e w1 ⟨rfl, hb1⟩
        rw [HH.out]
        have hown1 := own_belQ hown hb1
        go_wp2_with (fail)
        exact ⟨⟨k + 1, by go_num, by omega, by rw [csL_no HH.out]; exact hown1, (by repeat' (first | with_reducible exact Bel.refl _ | with_reducible assumption | with_reducible refine Bel.set ?_ ?_ _ | with_reducible refine Bel.alloc ?_ _ | with_reducible refine Bel.drew ?_ | with_reducible refine Bel.drewN ?_ _ | with_reducible refine Bel.trans ?_ (by with_reducible assumption) | (simp; done) | (simp; omega) | refine Bel.alloc ?_ _ | refine Bel.drew ?_ | refine Bel.drewN ?_ _ | refine Bel.set ?_ ?_ _))⟩, by simp only [intOf]; omega⟩
      · have HH := hide hh
        clear hh
        go_wp2_with (fail)
        refine (specHasByte_any lo hi k _ (by omega)).mono ?_
        rintro e w1 ⟨rfl, hb1⟩
        rw [HH.out]
        have hown1 := own_belQ hown hb1
        have hz1 := hb1.size
        have hbw1 : Bel (w.alloc (.cells #[.int .i64 lo, .int .i64 hi] 29)) w1 := (by repeat' (first | with_reducible exact Bel.refl _ | with_reducible assumption | with_reducible refine Bel.set ?_ ?_ _ | with_reducible refine Bel.alloc ?_ _ | with_reducible refine Bel.drew ?_ | with_reducible refine Bel.drewN ?_ _ | with_reducible refine Bel.trans ?_ (by with_reducible assumption) | (simp; done) | (simp; omega) | refine Bel.alloc ?_ _ | refine Bel.drew ?_ | refine Bel.drewN ?_ _ | refine Bel.set ?_ ?_ _))
        clear hown p0 p1
        go_wp2_with (at_builtin; go_loud (refine wpList_append_own _ rfl _ _ 75 rfl (w.heap.size + 1) 5 i0 (.int .u8 0) 1 1 Tryd.underlying75 hi0 iz0 iz1 iz2 rfl (by decide) _ _ _ rfl (hown1.alloc _) ⟨w1.heap.size, 0, none⟩ 1 1 [.int .u8 k] rfl rfl ?c1 ?c2 ?c3 ?c4 ?c5 ?_))
        case c1 =>
          intro j u hj
          match j, hj with
          | 0, hj => simp at hj; subst hj; simp [Addr.add]
        case c2 => intro u hu; simp at hu; subst hu; rfl
        case c3 => unfold maxLen; omega
        case c4 => omega
        case c5 => simp; omega
        intro v' w9 hown9 hgrow _
        have hbw9 : Bel (w.alloc (.cells #[.int .i64 lo, .int .i64 hi] 29)) w9 := Below.grown (by show Bel (w.alloc (.cells #[.int .i64 lo, .int .i64 hi] 29)) _; exact (by repeat' (first | with_reducible exact Bel.refl _ | with_reducible assumption | with_reducible refine Bel.set ?_ ?_ _ | with_reducible refine Bel.alloc ?_ _ | with_reducible refine Bel.drew ?_ | with_reducible refine Bel.drewN ?_ _ | with_reducible refine Bel.trans ?_ (by with_reducible assumption) | (simp; done) | (simp; omega) | refine Bel.alloc ?_ _ | refine Bel.drew ?_ | refine Bel.drewN ?_ _ | refine Bel.set ?_ ?_ _))) hgrow (by simp; omega) (fun x hx => by have := (hown1.lt x hx).1; simp; omega)
        have hown : w9.ownsRow (w.heap.size + 1) 5 1 v' (csL lo hi (k + 1)).length (ByL (csL lo hi (k + 1))) := by
          rw [csL_yes HH.out, ByL_append, List.length_append]; exact hown9
        clear hgrow hown9 hown1
        go_wp2_with (fail)
        exact ⟨⟨k + 1, by go_num, by omega, hown, hbw9⟩, by simp only [intOf]; omega⟩
    · have hd : decide ((k : Int) < 128) = false := by simp; omega
      obtain rfl : k = 128 := by omega
      have hT := bytes_text (csL lo hi 128) (fun x hx => by have := csL_lt lo hi 128 x hx; omega) wr _ _ hown
      go_wp2_with (fail)
      all_goals
        go_returns
        exact ⟨rfl, hbw⟩

set_option maxHeartbeats 400000 in
theorem specQuoteText_any (s : ByteArray) (w : World) (hs : s.size ≤ 300000000) :
    Calls Tryd.prog 23 #[.string s] w fun e w' => e = .returned (.string (qt 34 s)) ∧ Bel w w' := by
  go_enter Tryd.func23, Tryd.ntmps23
  go_wp2_with (fail)
  refine (l4Quote_any s 34 _ (by omega) hs).mono ?_
  rintro e w1 ⟨rfl, hb1⟩
  go_wp2_with (fail)
  all_goals
    go_returns
    exact ⟨rfl, (by repeat' (first | with_reducible exact Bel.refl _ | with_reducible assumption | with_reducible refine Bel.set ?_ ?_ _ | with_reducible refine Bel.alloc ?_ _ | with_reducible refine Bel.drew ?_ | with_reducible refine Bel.drewN ?_ _ | with_reducible refine Bel.trans ?_ (by with_reducible assumption) | (simp; done) | (simp; omega) | refine Bel.alloc ?_ _ | refine Bel.drew ?_ | refine Bel.drewN ?_ _ | refine Bel.set ?_ ?_ _))⟩
set_option maxHeartbeats 400000 in
theorem specQuoteCset_any (lo hi : Int) (w : World) :
    Calls Tryd.prog 25 #[.agg #[.int .i64 lo, .int .i64 hi]] w fun e w' => e = .returned (.string (qt 39 (csT lo hi))) ∧ Bel w w' := by
  have hcs := csT_size lo hi
  go_enter Tryd.func25, Tryd.ntmps25
  go_wp2_with (fail)
  refine (specCsetTextQ_any lo hi _).mono ?_
  rintro e w1 ⟨rfl, hb1⟩
  go_wp2_with (fail)
  refine (l4Quote_any (csT lo hi) 39 _ (by omega) (by omega)).mono ?_
  rintro e w2 ⟨rfl, hb2⟩
  go_wp2_with (fail)
  all_goals
    go_returns
    exact ⟨rfl, (by repeat' (first | with_reducible exact Bel.refl _ | with_reducible assumption | with_reducible refine Bel.set ?_ ?_ _ | with_reducible refine Bel.alloc ?_ _ | with_reducible refine Bel.drew ?_ | with_reducible refine Bel.drewN ?_ _ | with_reducible refine Bel.trans ?_ (by with_reducible assumption) | (simp; done) | (simp; omega) | refine Bel.alloc ?_ _ | refine Bel.drew ?_ | refine Bel.drewN ?_ _ | refine Bel.set ?_ ?_ _))⟩

set_option maxHeartbeats 2000000 in
theorem implCsetTextQ_any (lo hi : Int) (w : World) :
    Calls Tryd.prog 51 #[.agg #[.int .i64 lo, .int .i64 hi]] w fun e w' => e = .returned (.string (csT lo hi)) ∧ Bel w w' := by
  obtain ⟨i0, hi0, iz0, iz1, iz2⟩ := info_parts infoQ8
  go_enter Tryd.func51, Tryd.ntmps51
  go_wp2_with (fail)
  go_loopw [3, 4] (fun v i wr => ∃ k : Nat, i = .int .i64 k ∧ k ≤ 128 ∧ wr.ownsRow (w.heap.size + 1) 5 1 v (csL lo hi k).length (ByL (csL lo hi k)) ∧ Bel (w.alloc (.cells #[.int .i64 lo, .int .i64 hi] 29)) wr) (fun _ i _ => 128 - (intOf i).toNat)
  case atStart => exact ⟨0, rfl, by omega, by have := own_new (w.alloc (.cells #[.int .i64 lo, .int .i64 hi] 29)) (w.heap.size + 1) 5 0 #[] (by simp) rfl (by unfold maxLen; omega); rw [World.size_alloc] at this; exact this, (by repeat' (first | with_reducible exact Bel.refl _ | with_reducible assumption | with_reducible refine Bel.set ?_ ?_ _ | with_reducible refine Bel.alloc ?_ _ | with_reducible refine Bel.drew ?_ | with_reducible refine Bel.drewN ?_ _ | with_reducible refine Bel.trans ?_ (by with_reducible assumption) | (simp; done) | (simp; omega) | refine Bel.alloc ?_ _ | refine Bel.drew ?_ | refine Bel.drewN ?_ _ | refine Bel.set ?_ ?_ _))⟩
  case round =>
    obtain ⟨k, rfl, hk, hown, hbx⟩ := hrel
    have p0 : wr.cell? ⟨w.heap.size, 0, none⟩ = some (.int .i64 lo) := (hbx.box _ (by simp) 0).trans (by simp)
    have p1 : wr.cell? ⟨w.heap.size, 1, none⟩ = some (.int .i64 hi) := (hbx.box _ (by simp) 1).trans (by simp)
    have hsz := hbx.size
    simp only [World.size_alloc] at hsz
    have hbw : Bel w wr := Bel.trans (by repeat' (first | with_reducible exact Bel.refl _ | with_reducible assumption | with_reducible refine Bel.set ?_ ?_ _ | with_reducible refine Bel.alloc ?_ _ | with_reducible refine Bel.drew ?_ | with_reducible refine Bel.drewN ?_ _ | with_reducible refine Bel.trans ?_ (by with_reducible assumption) | (simp; done) | (simp; omega) | refine Bel.alloc ?_ _ | refine Bel.drew ?_ | refine Bel.drewN ?_ _ | refine Bel.set ?_ ?_ _)) hbx
    have hcl := csL_len lo hi k
    by_cases h : k < 128
    · have hd : decide ((k : Int) < 128) = true := by simp; omega
      have hw8 : IntKind.u8.wrap (k : Int) = k := by rw [IntKind.wrap_u8]; omega
      cases hh : hasB lo hi k
      · have HH := hide hh
        clear hh
        go_wp2_with (fail)
        refine (implHasByte_any lo hi k _ (by omega)).mono ?_
        rintro e w1 ⟨rfl, hb1⟩
        rw [HH.out]
        have hown1 := own_belQ hown hb1
        go_wp2_with (fail)
        exact ⟨⟨k + 1, by go_num, by omega, by rw [csL_no HH.out]; exact hown1, (by repeat' (first | with_reducible exact Bel.refl _ | with_reducible assumption | with_reducible refine Bel.set ?_ ?_ _ | with_reducible refine Bel.alloc ?_ _ | with_reducible refine Bel.drew ?_ | with_reducible refine Bel.drewN ?_ _ | with_reducible refine Bel.trans ?_ (by with_reducible assumption) | (simp; done) | (simp; omega) | refine Bel.alloc ?_ _ | refine Bel.drew ?_ | refine Bel.drewN ?_ _ | refine Bel.set ?_ ?_ _))⟩, by simp only [intOf]; omega⟩
      · have HH := hide hh
        clear hh
        go_wp2_with (fail)
        refine (implHasByte_any lo hi k _ (by omega)).mono ?_
        rintro e w1 ⟨rfl, hb1⟩
        rw [HH.out]
        have hown1 := own_belQ hown hb1
        have hz1 := hb1.size
        have hbw1 : Bel (w.alloc (.cells #[.int .i64 lo, .int .i64 hi] 29)) w1 := (by repeat' (first | with_reducible exact Bel.refl _ | with_reducible assumption | with_reducible refine Bel.set ?_ ?_ _ | with_reducible refine Bel.alloc ?_ _ | with_reducible refine Bel.drew ?_ | with_reducible refine Bel.drewN ?_ _ | with_reducible refine Bel.trans ?_ (by with_reducible assumption) | (simp; done) | (simp; omega) | refine Bel.alloc ?_ _ | refine Bel.drew ?_ | refine Bel.drewN ?_ _ | refine Bel.set ?_ ?_ _))
        clear hown p0 p1
        go_wp2_with (at_builtin; go_loud (refine wpList_append_own _ rfl _ _ 75 rfl (w.heap.size + 1) 5 i0 (.int .u8 0) 1 1 Tryd.underlying75 hi0 iz0 iz1 iz2 rfl (by decide) _ _ _ rfl (hown1.alloc _) ⟨w1.heap.size, 0, none⟩ 1 1 [.int .u8 k] rfl rfl ?c1 ?c2 ?c3 ?c4 ?c5 ?_))
        case c1 =>
          intro j u hj
          match j, hj with
          | 0, hj => simp at hj; subst hj; simp [Addr.add]
        case c2 => intro u hu; simp at hu; subst hu; rfl
        case c3 => unfold maxLen; omega
        case c4 => omega
        case c5 => simp; omega
        intro v' w9 hown9 hgrow _
        have hbw9 : Bel (w.alloc (.cells #[.int .i64 lo, .int .i64 hi] 29)) w9 := Below.grown (by show Bel (w.alloc (.cells #[.int .i64 lo, .int .i64 hi] 29)) _; exact (by repeat' (first | with_reducible exact Bel.refl _ | with_reducible assumption | with_reducible refine Bel.set ?_ ?_ _ | with_reducible refine Bel.alloc ?_ _ | with_reducible refine Bel.drew ?_ | with_reducible refine Bel.drewN ?_ _ | with_reducible refine Bel.trans ?_ (by with_reducible assumption) | (simp; done) | (simp; omega) | refine Bel.alloc ?_ _ | refine Bel.drew ?_ | refine Bel.drewN ?_ _ | refine Bel.set ?_ ?_ _))) hgrow (by simp; omega) (fun x hx => by have := (hown1.lt x hx).1; simp; omega)
        have hown : w9.ownsRow (w.heap.size + 1) 5 1 v' (csL lo hi (k + 1)).length (ByL (csL lo hi (k + 1))) := by
          rw [csL_yes HH.out, ByL_append, List.length_append]; exact hown9
        clear hgrow hown9 hown1
        go_wp2_with (fail)
        exact ⟨⟨k + 1, by go_num, by omega, hown, hbw9⟩, by simp only [intOf]; omega⟩
    · have hd : decide ((k : Int) < 128) = false := by simp; omega
      obtain rfl : k = 128 := by omega
      have hT := bytes_text (csL lo hi 128) (fun x hx => by have := csL_lt lo hi 128 x hx; omega) wr _ _ hown
      go_wp2_with (fail)
      all_goals
        go_returns
        exact ⟨rfl, hbw⟩

set_option maxHeartbeats 400000 in
theorem implQuoteText_any (s : ByteArray) (w : World) (hs : s.size ≤ 300000000) :
    Calls Tryd.prog 30 #[.string s] w fun e w' => e = .returned (.string (qt 34 s)) ∧ Bel w w' := by
  go_enter Tryd.func30, Tryd.ntmps30
  go_wp2_with (fail)
  refine (quoteWith_any s 34 _ (by omega) hs).mono ?_
  rintro e w1 ⟨rfl, hb1⟩
  go_wp2_with (fail)
  all_goals
    go_returns
    exact ⟨rfl, (by repeat' (first | with_reducible exact Bel.refl _ | with_reducible assumption | with_reducible refine Bel.set ?_ ?_ _ | with_reducible refine Bel.alloc ?_ _ | with_reducible refine Bel.drew ?_ | with_reducible refine Bel.drewN ?_ _ | with_reducible refine Bel.trans ?_ (by with_reducible assumption) | (simp; done) | (simp; omega) | refine Bel.alloc ?_ _ | refine Bel.drew ?_ | refine Bel.drewN ?_ _ | refine Bel.set ?_ ?_ _))⟩
set_option maxHeartbeats 400000 in
theorem implQuoteCset_any (lo hi : Int) (w : World) :
    Calls Tryd.prog 31 #[.agg #[.int .i64 lo, .int .i64 hi]] w fun e w' => e = .returned (.string (qt 39 (csT lo hi))) ∧ Bel w w' := by
  have hcs := csT_size lo hi
  go_enter Tryd.func31, Tryd.ntmps31
  go_wp2_with (fail)
  refine (implCsetTextQ_any lo hi _).mono ?_
  rintro e w1 ⟨rfl, hb1⟩
  go_wp2_with (fail)
  refine (quoteWith_any (csT lo hi) 39 _ (by omega) (by omega)).mono ?_
  rintro e w2 ⟨rfl, hb2⟩
  go_wp2_with (fail)
  all_goals
    go_returns
    exact ⟨rfl, (by repeat' (first | with_reducible exact Bel.refl _ | with_reducible assumption | with_reducible refine Bel.set ?_ ?_ _ | with_reducible refine Bel.alloc ?_ _ | with_reducible refine Bel.drew ?_ | with_reducible refine Bel.drewN ?_ _ | with_reducible refine Bel.trans ?_ (by with_reducible assumption) | (simp; done) | (simp; omega) | refine Bel.alloc ?_ _ | refine Bel.drew ?_ | refine Bel.drewN ?_ _ | refine Bel.set ?_ ?_ _))⟩

end Go.Proofs.YtmikipcfepgogaaDoor
