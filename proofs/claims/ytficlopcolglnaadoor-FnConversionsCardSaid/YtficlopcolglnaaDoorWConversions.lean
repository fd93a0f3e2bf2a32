/- The walk of FnConversions. -/
import Derived.Test.YtficlopcolglnaaDoorF4
import Derived.Test.YtficlopcolglnaaDoorE0
namespace Go.Proofs.YtficlopcolglnaaDoor
set_option linter.unusedVariables false
set_option linter.unusedSimpArgs false
set_option maxRecDepth 100000
open Go.RowKit

theorem laws_big (A : Option Addr) (n cap : Nat) (w : World) :
    Calls Tryd.prog 27 #[.slice A n cap] w fun e w' => e = .returned (.bool (decide ((1048576 : Int) < (n : Int)))) ∧ w = w' := by
  go_enter Tryd.func27, Tryd.ntmps27
  go_wp2
  all_goals
    go_returns
    exact ⟨rfl, rfl⟩
theorem inI_0 : InI 0 := by unfold InI; omega
theorem ok_zero : VVal.zero.Ok := ⟨inI_0, inI_0, inI_0, by decide, inI_0, inI_0⟩
theorem ok_int {x : Int} (h : InI x) : (VVal.ofInt x).Ok := ⟨by show InI 1; unfold InI; omega, h, inI_0, by show ByteArray.empty.size ≤ maxLen; decide, inI_0, inI_0⟩
theorem ok_text {s : ByteArray} (h : s.size ≤ maxLen) : (VVal.ofText s).Ok := ⟨by show InI 2; unfold InI; omega, inI_0, inI_0, h, inI_0, inI_0⟩
theorem convT_no (w : World) (h : P10 w) : Calls Tryd.prog 26 #[.agg #[.int .i64 0, .int .i64 0, .int .i64 0, .string ByteArray.empty, .int .i64 0, .int .i64 0]] w fun e w' => e = .returned (.tuple #[.string ByteArray.empty, .bool false]) ∧ Bel w w' := implToText_any VVal.zero w ok_zero h
theorem convS_no (w : World) : Calls Tryd.prog 30 #[.string ByteArray.empty] w fun e w' => e = .returned (.tuple #[.agg #[.int .i64 2, .int .i64 0, .int .i64 0, .string (ByteArray.empty), .int .i64 0, .int .i64 0], .bool true]) ∧ Bel w w' := implStringValue_any ByteArray.empty w (by decide)
theorem convI_no (w : World) (h : P10 w) : Calls Tryd.prog 31 #[.agg #[.int .i64 2, .int .i64 0, .int .i64 0, .string (ByteArray.empty), .int .i64 0, .int .i64 0]] w fun e w' => e = .returned (.tuple #[.int .i64 (iot ByteArray.empty).1, .bool (iot ByteArray.empty).2]) ∧ Bel w w' := by
  have := implToInteger_any (VVal.ofText ByteArray.empty) w (ok_text (by decide)) h
  rw [show tiB (VVal.ofText ByteArray.empty) = (iot ByteArray.empty).2 by simp [tiB, VVal.ofText, ttB, ttT], show tiN (VVal.ofText ByteArray.empty) = (iot ByteArray.empty).1 by simp [tiN, VVal.ofText, ttB, ttT]] at this
  exact this
theorem convT_yes (x : Int) (w : World) (hx : InI x) (h : P10 w) : Calls Tryd.prog 26 #[.agg #[.int .i64 1, .int .i64 x, .int .i64 0, .string ByteArray.empty, .int .i64 0, .int .i64 0]] w fun e w' => e = .returned (.tuple #[.string (itT x), .bool true]) ∧ Bel w w' := implToText_any (VVal.ofInt x) w (ok_int hx) h
theorem convS_yes (x : Int) (w : World) (hx : InM x) : Calls Tryd.prog 30 #[.string (itT x)] w fun e w' => e = .returned (.tuple #[.agg #[.int .i64 2, .int .i64 0, .int .i64 0, .string (itT x), .int .i64 0, .int .i64 0], .bool true]) ∧ Bel w w' := by
  have hz := (iot_itoa x hx).2
  have := implStringValue_any (itT x) w (by unfold maxLen; omega)
  rw [show textOk (itT x) = true by simp [textOk, hz], show textV (itT x) = VVal.ofText (itT x) by simp [textV, textOk, hz]] at this
  exact this
theorem convI_yes (x : Int) (w : World) (hx : InM x) (h : P10 w) : Calls Tryd.prog 31 #[.agg #[.int .i64 2, .int .i64 0, .int .i64 0, .string (itT x), .int .i64 0, .int .i64 0]] w fun e w' => e = .returned (.tuple #[.int .i64 x, .bool true]) ∧ Bel w w' := by
  obtain ⟨hi, hz⟩ := iot_itoa x hx
  have := implToInteger_any (VVal.ofText (itT x)) w (ok_text (by unfold maxLen; omega)) h
  rw [show tiB (VVal.ofText (itT x)) = true by simp [tiB, VVal.ofText, ttB, ttT, hi], show tiN (VVal.ofText (itT x)) = x by simp [tiN, VVal.ofText, ttB, ttT, hi]] at this
  exact this
theorem convV (x : Int) (w : World) (hx : InI x) (hm : InM x) : Calls Tryd.prog 32 #[.agg #[.int .i64 1, .int .i64 x, .int .i64 0, .string ByteArray.empty, .int .i64 0, .int .i64 0]] w fun e w' => e = .returned (.bool true) ∧ Bel w w' := by
  have := implIsWellFormed_any (VVal.ofInt x) w (ok_int hx)
  unfold InM at hm
  rw [show wellB (VVal.ofInt x) = true by (simp [wellB, VVal.ofInt, hm]; (try decide))] at this
  exact this
theorem convW (x : Int) (w : World) (hm : InM x) : Calls Tryd.prog 32 #[.agg #[.int .i64 2, .int .i64 0, .int .i64 0, .string (itT x), .int .i64 0, .int .i64 0]] w fun e w' => e = .returned (.bool true) ∧ Bel w w' := by
  obtain ⟨hi, hz⟩ := iot_itoa x hm
  have := implIsWellFormed_any (VVal.ofText (itT x)) w (ok_text (by unfold maxLen; omega))
  rw [show wellB (VVal.ofText (itT x)) = true by simp [wellB, VVal.ofText, hz]] at this
  exact this
def DrawnI (w : World) (e : Ending) (w' : World) : Prop := ∃ x : Int, InI x ∧ e = .returned (.int .i64 x) ∧ Bel w w'
set_option maxHeartbeats 400000 in
theorem drawInteger_any (A : Option Addr) (n cap : Nat) (w : World) (hn : n ≤ 1048576) (hB : ∀ c, w.heap.size ≤ c → Bts w c A n) :
    Calls Tryd.prog 28 #[.slice A n cap] w (DrawnI w) := by
  have HB := hide hB
  clear hB
  go_enter Tryd.func28, Tryd.ntmps28
  go_wp2_with (first
    | (go_at_call 56; refine (l1New_any A n cap _ hn HB.out).mono ?_; rintro e w1 ⟨rfl, hC1, hb1⟩; have HC1 := hide hC1; have Hb1 := hide hb1; clear hC1 hb1)
    | (go_at_call 57; refine (l1Whole_any w.heap.size A n cap _ HC1.out).mono ?_; rintro e w2 ⟨x, hx, rfl, hC2, hO2⟩; have HO2 := hide hO2; have hx' := hide hx; clear hC2 hO2 hx))
  all_goals
    go_returns
    exact ⟨_, hx'.out, rfl, Oth.bel Hb1.out HO2.out (Nat.le_refl _)⟩
set_option maxHeartbeats 2000000 in
theorem FnConversions_walk (A : Option Addr) (n cap : Nat) (w : World) (hB : ∀ c, w.heap.size ≤ c → n ≤ 1048576 → Bts w c A n) (htab : P10 w) :
    Calls Tryd.prog 8 #[.slice A n cap] w fun e w' => e = .returned (.bool true) ∧ Bel w w' := by
  have HB := hide hB
  have HP := hide htab
  clear hB htab
  by_cases hn : n ≤ 1048576
  · have hd := hide (show decide ((1048576 : Int) < (n : Int)) = false by simp; omega)
    go_enter Tryd.func8, Tryd.ntmps8
    go_upto_region 4 with (first
      | (go_at_call 27; refine (laws_big A n cap _).mono ?_; rintro e w1 ⟨rfl, rfl⟩; rw [hd.out])
      | (go_at_call 28; refine (drawInteger_any A n cap _ hn (fun c h => HB.out c h hn)).mono ?_; rintro e w1 ⟨x, hx, rfl, hb1⟩; have hz1 := hb1.size))
    cases hk : intOk x
    · have HK := hide hk
      have hk' : ¬ (-999999999999 ≤ x ∧ x ≤ 999999999999) := fun h => by rw [(intOk_iff x).2 h] at hk; cases hk
      clear hk
      have HT := hide (fun w h => convT_no w h)
      have HS := hide (fun w => convS_no w)
      have HI := hide (fun w h => convI_no w h)
      generalize (iot ByteArray.empty).1 = y1 at HI
      generalize (iot ByteArray.empty).2 = y2 at HI
      rcases (show x < -999999999999 ∨ 999999999999 < x by omega) with q | q
      all_goals
        go_wp2_with (first
          | (go_at_call 29; refine (implIV_no x _ HK.out).mono ?_; rintro e w2 ⟨rfl, hb2⟩)
          | (go_at_call 26; (with_reducible refine (HT.out _ (HP.out.on (by repeat' (first | exact Bel.refl _ | with_reducible assumption | refine Bel.trans ?_ (by with_reducible assumption) | refine Bel.alloc ?_ _ | refine Bel.drew ?_ | refine Bel.drewN ?_ _ | refine Bel.set ?_ ?_ _ | (simp; done) | (simp; omega))))).mono ?_); rintro e w3 ⟨rfl, hb3⟩; have hz3 := hb3.size; (try simp only [World.size_alloc, World.size_setCell, World.size_drew] at hz3); have hk3_0 := hb3.box (w2.heap.size) (by first | (simp; done) | (simp; omega) | omega); have hf3_0 := hb3.boxf (w2.heap.size) (by first | (simp; done) | (simp; omega) | omega); have hl3_0 : w2.heap.size < w3.heap.size := (by omega); have hn3_0 : ¬ w2.heap.size = w3.heap.size := (by omega); (try simp only [VVal.val]))
          | (go_at_call 30; (with_reducible refine (HS.out _).mono ?_); rintro e w4 ⟨rfl, hb4⟩; have hz4 := hb4.size; (try simp only [World.size_alloc, World.size_setCell, World.size_drew] at hz4); have hk4_0 := hb4.box (w2.heap.size) (by first | (simp; done) | (simp; omega) | omega); have hf4_0 := hb4.boxf (w2.heap.size) (by first | (simp; done) | (simp; omega) | omega); have hl4_0 : w2.heap.size < w4.heap.size := (by omega); have hn4_0 : ¬ w2.heap.size = w4.heap.size := (by omega); (try simp only [VVal.val]))
          | (go_at_call 31; (with_reducible refine (HI.out _ (HP.out.on (by repeat' (first | exact Bel.refl _ | with_reducible assumption | refine Bel.trans ?_ (by with_reducible assumption) | refine Bel.alloc ?_ _ | refine Bel.drew ?_ | refine Bel.drewN ?_ _ | refine Bel.set ?_ ?_ _ | (simp; done) | (simp; omega))))).mono ?_); rintro e w5 ⟨rfl, hb5⟩; have hz5 := hb5.size; (try simp only [World.size_alloc, World.size_setCell, World.size_drew] at hz5); have hk5_0 := hb5.box (w2.heap.size) (by first | (simp; done) | (simp; omega) | omega); have hf5_0 := hb5.boxf (w2.heap.size) (by first | (simp; done) | (simp; omega) | omega); have hl5_0 : w2.heap.size < w5.heap.size := (by omega); have hn5_0 : ¬ w2.heap.size = w5.heap.size := (by omega); have hk5_1 := hb5.box (w4.heap.size) (by first | (simp; done) | (simp; omega) | omega); have hf5_1 := hb5.boxf (w4.heap.size) (by first | (simp; done) | (simp; omega) | omega); have hl5_1 : w4.heap.size < w5.heap.size := (by omega); have hn5_1 : ¬ w4.heap.size = w5.heap.size := (by omega); (try simp only [VVal.val])))
        all_goals
          go_returns
          exact ⟨rfl, (by repeat' (first | exact Bel.refl _ | with_reducible assumption | refine Bel.trans ?_ (by with_reducible assumption) | refine Bel.alloc ?_ _ | refine Bel.drew ?_ | refine Bel.drewN ?_ _ | refine Bel.set ?_ ?_ _ | (simp; done) | (simp; omega)))⟩
    · have HK := hide hk
      have hk' := (intOk_iff x).1 hk
      obtain ⟨r1, r2⟩ := hk'
      clear hk
      have HT := hide (fun w h => convT_yes x w hx h)
      have HS := hide (fun w => convS_yes x w ⟨r1, r2⟩)
      have HI := hide (fun w h => convI_yes x w ⟨r1, r2⟩ h)
      have HV := hide (fun w => convV x w hx ⟨r1, r2⟩)
      have HW := hide (fun w => convW x w ⟨r1, r2⟩)
      generalize itT x = s at HT HS HI HW
      go_wp2_with (first
        | (go_at_call 29; refine (implIV_yes x _ HK.out).mono ?_; rintro e w2 ⟨rfl, hb2⟩)
        | (go_at_call 26; (with_reducible refine (HT.out _ (HP.out.on (by repeat' (first | exact Bel.refl _ | with_reducible assumption | refine Bel.trans ?_ (by with_reducible assumption) | refine Bel.alloc ?_ _ | refine Bel.drew ?_ | refine Bel.drewN ?_ _ | refine Bel.set ?_ ?_ _ | (simp; done) | (simp; omega))))).mono ?_); rintro e w3 ⟨rfl, hb3⟩; have hz3 := hb3.size; (try simp only [World.size_alloc, World.size_setCell, World.size_drew] at hz3); have hk3_0 := hb3.box (w2.heap.size) (by first | (simp; done) | (simp; omega) | omega); have hf3_0 := hb3.boxf (w2.heap.size) (by first | (simp; done) | (simp; omega) | omega); have hl3_0 : w2.heap.size < w3.heap.size := (by omega); have hn3_0 : ¬ w2.heap.size = w3.heap.size := (by omega); (try simp only [VVal.val]))
        | (go_at_call 30; (with_reducible refine (HS.out _).mono ?_); rintro e w4 ⟨rfl, hb4⟩; have hz4 := hb4.size; (try simp only [World.size_alloc, World.size_setCell, World.size_drew] at hz4); have hk4_0 := hb4.box (w2.heap.size) (by first | (simp; done) | (simp; omega) | omega); have hf4_0 := hb4.boxf (w2.heap.size) (by first | (simp; done) | (simp; omega) | omega); have hl4_0 : w2.heap.size < w4.heap.size := (by omega); have hn4_0 : ¬ w2.heap.size = w4.heap.size := (by omega); (try simp only [VVal.val]))
        | (go_at_call 31; (with_reducible refine (HI.out _ (HP.out.on (by repeat' (first | exact Bel.refl _ | with_reducible assumption | refine Bel.trans ?_ (by with_reducible assumption) | refine Bel.alloc ?_ _ | refine Bel.drew ?_ | refine Bel.drewN ?_ _ | refine Bel.set ?_ ?_ _ | (simp; done) | (simp; omega))))).mono ?_); rintro e w5 ⟨rfl, hb5⟩; have hz5 := hb5.size; (try simp only [World.size_alloc, World.size_setCell, World.size_drew] at hz5); have hk5_0 := hb5.box (w2.heap.size) (by first | (simp; done) | (simp; omega) | omega); have hf5_0 := hb5.boxf (w2.heap.size) (by first | (simp; done) | (simp; omega) | omega); have hl5_0 : w2.heap.size < w5.heap.size := (by omega); have hn5_0 : ¬ w2.heap.size = w5.heap.size := (by omega); have hk5_1 := hb5.box (w4.heap.size) (by first | (simp; done) | (simp; omega) | omega); have hf5_1 := hb5.boxf (w4.heap.size) (by first | (simp; done) | (simp; omega) | omega); have hl5_1 : w4.heap.size < w5.heap.size := (by omega); have hn5_1 : ¬ w4.heap.size = w5.heap.size := (by omega); (try simp only [VVal.val]))
        | (go_at_call 32; (with_reducible refine (HV.out _).mono ?_); rintro e w6 ⟨rfl, hb6⟩; have hz6 := hb6.size; (try simp only [World.size_alloc, World.size_setCell, World.size_drew] at hz6); have hk6_0 := hb6.box (w2.heap.size) (by first | (simp; done) | (simp; omega) | omega); have hf6_0 := hb6.boxf (w2.heap.size) (by first | (simp; done) | (simp; omega) | omega); have hl6_0 : w2.heap.size < w6.heap.size := (by omega); have hn6_0 : ¬ w2.heap.size = w6.heap.size := (by omega); have hk6_1 := hb6.box (w4.heap.size) (by first | (simp; done) | (simp; omega) | omega); have hf6_1 := hb6.boxf (w4.heap.size) (by first | (simp; done) | (simp; omega) | omega); have hl6_1 : w4.heap.size < w6.heap.size := (by omega); have hn6_1 : ¬ w4.heap.size = w6.heap.size := (by omega); (try simp only [VVal.val]))
        | (go_at_call 32; (with_reducible refine (HW.out _).mono ?_); rintro e w7 ⟨rfl, hb7⟩; have hz7 := hb7.size; (try simp only [World.size_alloc, World.size_setCell, World.size_drew] at hz7); have hk7_0 := hb7.box (w2.heap.size) (by first | (simp; done) | (simp; omega) | omega); have hf7_0 := hb7.boxf (w2.heap.size) (by first | (simp; done) | (simp; omega) | omega); have hl7_0 : w2.heap.size < w7.heap.size := (by omega); have hn7_0 : ¬ w2.heap.size = w7.heap.size := (by omega); have hk7_1 := hb7.box (w4.heap.size) (by first | (simp; done) | (simp; omega) | omega); have hf7_1 := hb7.boxf (w4.heap.size) (by first | (simp; done) | (simp; omega) | omega); have hl7_1 : w4.heap.size < w7.heap.size := (by omega); have hn7_1 : ¬ w4.heap.size = w7.heap.size := (by omega); (try simp only [VVal.val])))
      all_goals
        go_returns
        exact ⟨rfl, (by repeat' (first | exact Bel.refl _ | with_reducible assumption | refine Bel.trans ?_ (by with_reducible assumption) | refine Bel.alloc ?_ _ | refine Bel.drew ?_ | refine Bel.drewN ?_ _ | refine Bel.set ?_ ?_ _ | (simp; done) | (simp; omega)))⟩
  · have hd := hide (show decide ((1048576 : Int) < (n : Int)) = true by simp; omega)
    go_enter Tryd.func8, Tryd.ntmps8
    go_wp2_with (go_at_call 27; refine (laws_big A n cap _).mono ?_; rintro e w1 ⟨rfl, rfl⟩; rw [hd.out])
    all_goals
      go_returns
      exact ⟨rfl, (by repeat' (first | exact Bel.refl _ | with_reducible assumption | refine Bel.trans ?_ (by with_reducible assumption) | refine Bel.alloc ?_ _ | refine Bel.drew ?_ | refine Bel.drewN ?_ _ | refine Bel.set ?_ ?_ _ | (simp; done) | (simp; omega)))⟩

end Go.Proofs.YtficlopcolglnaaDoor
