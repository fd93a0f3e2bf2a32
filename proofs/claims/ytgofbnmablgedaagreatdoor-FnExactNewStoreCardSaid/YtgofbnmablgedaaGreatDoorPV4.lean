/- Valid cores: the program's closures. -/
import Derived.Test.YtgofbnmablgedaaGreatDoorPV1
import Derived.Deep.RegionHeld3
import Derived.Deep.Cut
import Derived.Deep.CutBlock
import Derived.OwnWalk
namespace Go.Proofs.YtgofbnmablgedaaGreatDoor
set_option linter.unusedVariables false
set_option linter.unusedSimpArgs false
set_option maxRecDepth 100000
open Go.RowKit
theorem num_lt (n a : Int) : decide (n ≤ a - 1) = decide (n < a) := by rw [decide_eq_decide]; omega
theorem within_any (a n : Int) (b : Nat) (w : World) (h : w.cell? ⟨b, 2, none⟩ = some (.int .i64 n)) :
  Calls Tryz.prog 82 #[.int .i64 a, .pointer (some ⟨b, 0, none⟩)] w fun e w' => e = .returned (.bool (decide (0 ≤ n) && decide (n < a))) ∧ Bel w w' := by
 by_cases h0 : 0 ≤ n
 ·
  have d0 : decide ((0 : Int) ≤ n) = true := by simpa using h0
  go_enter Tryz.func82, Tryz.ntmps82
  go_wp2_with (fail)
  all_goals
   go_returns
   exact ⟨by simp [h0], bl⟩
 ·
  have d0 : decide ((0 : Int) ≤ n) = false := by simpa using h0
  go_enter Tryz.func82, Tryz.ntmps82
  go_wp2_with (fail)
  all_goals
   go_returns
   exact ⟨by simp [h0], bl⟩
def badS (s : ByteArray) : Bool := !decide (s.size = 0) && !nameB s
theorem slotFn_any (s : ByteArray) (w : World) (ht : Sp w) :
  Calls Tryz.prog 54 #[.string s] w fun e w' => e = .returned (.bool (badS s)) ∧ Bel w w' := by
 have HT := hide ht
 clear ht
 by_cases h0 : s.size = 0
 ·
  have tE : s.toList.isEmpty = true := tlE.2 h0
  have tEn : (!s.toList.isEmpty) = false := by rw [tE]; rfl
  have HB := hide (show badS s = false by unfold badS; rw [decide_eq_true h0]; rfl)
  clear h0
  go_enter Tryz.func54, Tryz.ntmps54
  go_wp2_with (fail)
  all_goals
   go_returns
   exact ⟨by rw [HB.out]; first | done | rfl, bl⟩
 ·
  have tE : s.toList.isEmpty = false := by have := fun e => h0 (tlE.1 e); simpa using this
  have tEn : (!s.toList.isEmpty) = true := by rw [tE]; rfl
  have HB := hide (show badS s = !nameB s by unfold badS; rw [decide_eq_false h0]; rfl)
  clear h0
  go_enter Tryz.func54, Tryz.ntmps54
  go_wp2_with (go_at_call 52; refine (implIsName_any _ _ (HT.out.on bl)).mono ?_; rintro e w1 ⟨rfl, hb1⟩)
  all_goals
   go_returns
   exact ⟨by rw [HB.out]; first | done | rfl, bl⟩
def IdxPost (l : List ByteArray) (w : World) (e : Ending) (w' : World) : Prop := ∃ r : Int, e = .returned (.int .i64 r) ∧ decide (0 ≤ r) = l.any badS ∧ Bel w w'
theorem indexFn_any (l : List ByteArray) (S : Nat → Prop) (w : World) (A : Option Addr) (c : Nat) (hR : Row w S 1 A c (strsD l)) (ht : Sp w) :
  Calls Tryz.prog 80 #[.slice A l.length c, .func (.func 54) #[] #[]] w (IdxPost l w) := by
 have HT := hide ht
 have HR := hide hR
 have hlc := hR.1
 have hcm := hR.2.1
 simp only [strsD, List.length_map] at hlc
 unfold maxLen at hcm
 clear ht hR
 go_enter Tryz.func80, Tryz.ntmps80
 go_wp2_with (fail)
 go_loopw [8] (fun v wr => ∃ m : Nat, v = .int .i64 m ∧ m ≤ l.length ∧ Hid (∀ j (hj : j < l.length), j < m → badS l[j] = false) ∧ Bel w wr) (fun v _ => l.length - (intOf v).toNat)
 case atStart => exact ⟨0, rfl, by omega, fun j _ hj => by omega, bl⟩
 case round =>
  obtain ⟨m, rfl, hm, hK, hbw⟩ := hrel
  by_cases h1 : m < l.length
  ·
   have hd : decide ((m : Int) < (l.length : Int)) = true := by simp [h1]
   obtain ⟨b1, o1, hA1, hS1, hl1, hz1, c1x⟩ := strAt HR.out m h1
   subst hA1
   replace c1x := (hbw.box b1 hl1 _).trans c1x
   cases hbd : badS l[m]
   ·
    have HBD := hide hbd
    clear hbd
    go_wp2_with (go_at_call 54; refine (slotFn_any _ _ (HT.out.on bl)).mono ?_; rintro e w1 ⟨rfl, hb1⟩; rw [HBD.out])
    go_roundw
    case rel => exact ⟨m + 1, by go_num, by omega, hide (fun j hj hjm => by
     by_cases e : j = m
     ·
      subst e; exact HBD.out
     ·
      exact hK.out j hj (by omega)), bl⟩
    case measure => simp [intOf]; omega
   ·
    have HBD := hide hbd
    clear hbd
    have HRR := hide (show decide ((0 : Int) ≤ (m : Int)) = l.any badS by rw [List.any_eq_true.2 ⟨l[m], List.getElem_mem h1, HBD.out⟩]; simp)
    go_wp2_with (go_at_call 54; refine (slotFn_any _ _ (HT.out.on bl)).mono ?_; rintro e w1 ⟨rfl, hb1⟩; rw [HBD.out])
    all_goals
     go_returns
     exact ⟨_, rfl, HRR.out, bl⟩
  ·
   have hd : decide ((m : Int) < (l.length : Int)) = false := by simp [h1]
   have HRR := hide (show decide ((0 : Int) ≤ -1) = l.any badS by
    rw [List.any_eq_false.2 fun x hx => by
     obtain ⟨j, hj, rfl⟩ := List.mem_iff_getElem.1 hx
     rw [hK.out j hj (by omega)]; simp]
    rfl)
   go_wp2_with (fail)
   all_goals
    go_returns
    exact ⟨_, rfl, HRR.out, bl⟩
theorem containsFn_any (l : List ByteArray) (S : Nat → Prop) (w : World) (A : Option Addr) (c : Nat) (hR : Row w S 1 A c (strsD l)) (ht : Sp w) :
  Calls Tryz.prog 53 #[.slice A l.length c, .func (.func 54) #[] #[]] w fun e w' => e = .returned (.bool (l.any badS)) ∧ Bel w w' := by
 have HT := hide ht
 have HR := hide hR
 clear ht hR
 go_enter Tryz.func53, Tryz.ntmps53
 go_wp2_with (go_at_call 80; refine (indexFn_any l S _ _ _ (Row.bel bl HR.out) (HT.out.on bl)).mono ?_; rintro e w1 ⟨r, rfl, hr, hb1⟩)
 all_goals
  go_returns
  exact ⟨by first | (rw [← hr]; done) | (rw [← hr]; rfl) | (simp [← hr]), bl⟩
abbrev IVld (t : TCore) : Prop := ∀ (S : Nat → Prop) (w : World) (vs : List Value) (sl gl ro re : Int) (loop made : Bool), Sp w → Dat.HoldVals w S t.D vs →
 Calls Tryz.prog 57 #[.agg #[.int .i64 sl, .int .i64 gl, .int .i64 ro, .int .i64 re], .agg vs.toArray, .bool loop, .bool made] w fun e w' => e = .returned (.bool (t.vld sl gl ro re loop made)) ∧ Bel w w'
theorem vldB_no {sl gl ro re k op n li : Int} {t : ByteArray} {ks : List TCore} {loop made : Bool} (h : (hdOk k op li ks.length && numOk sl gl ro re k n && opOk k op && txtOk k t && ctxOk k loop made && kidsOk op ks) = false) :
  (TCore.mk k op n li t ks).vld sl gl ro re loop made = false := by rw [vld_mk, h, Bool.false_and]
theorem vldB_kid {sl gl ro re k op n li : Int} {t : ByteArray} {ks : List TCore} {loop made : Bool} (m : Nat) (hm : m < ks.length) (h : ks[m].vld sl gl ro re (innerB k m loop) (made || decide (k = 26)) = false) :
  (TCore.mk k op n li t ks).vld sl gl ro re loop made = false := by
 rw [vld_mk, TCore.vlds_at (m := m) (i := 0) hm (by rw [Nat.zero_add]; exact h), Bool.and_false]
theorem vldB_yes {sl gl ro re k op n li : Int} {t : ByteArray} {ks : List TCore} {loop made : Bool} (h : (hdOk k op li ks.length && numOk sl gl ro re k n && opOk k op && txtOk k t && ctxOk k loop made && kidsOk op ks) = true)
  (hk : ∀ m (hm : m < ks.length), ks[m].vld sl gl ro re (innerB k m loop) (made || decide (k = 26)) = true) : (TCore.mk k op n li t ks).vld sl gl ro re loop made = true := by
 rw [vld_mk, h, TCore.vlds_all (i := 0) fun m hm => by rw [Nat.zero_add]; exact hk m hm]
 rfl
theorem kids_op {k op : Int} (h : opOk k op = true) (h0 : ¬ op = 0) : k = 11 := by
 unfold opOk at h
 simp only [Bool.or_eq_true, decide_eq_true_eq] at h
 exact h.resolve_right h0
end Go.Proofs.YtgofbnmablgedaaGreatDoor
