/- The walk of FnLocals. -/
import Derived.Test.YtdacpljinffnaaaDoorPDx9
import Derived.Test.YtdacpljinffnaaaDoorPYs
import Derived.Test.YtdacpljinffnaaaDoorPY7
import Derived.Test.YtdacpljinffnaaaDoorPY8
import Derived.Test.YtdacpljinffnaaaDoorPYz
namespace Go.Proofs.YtdacpljinffnaaaDoor
set_option linter.unusedVariables false
set_option linter.unusedSimpArgs false
set_option maxRecDepth 100000
open Go.RowKit
theorem lawBig_any (A : Option Addr) (n cap : Nat) (w : World) :
  Calls Tryd.prog 4 #[.slice A n cap] w fun e w' => e = .returned (.bool (decide ((1048576 : Int) < (n : Int)))) ∧ w = w' := by
 go_enter Tryd.func4, Tryd.ntmps4
 go_wp2
 all_goals
  go_returns
  exact ⟨rfl, rfl⟩
structure LcS (w wx : World) (b : Nat) (v0 v1 v2 : Value) (t : TUnit) (l : List ByteArray) (A5 : Option Addr) (c5 : Nat) : Prop where
 bel : Bel w wx
 box : TB wx b v0 v1 v2
 val : Dat.HoldVals wx (fun _ => True) t.D [v0, v1, v2]
 row : Row wx (fun _ => True) 1 A5 c5 (strsD l)
theorem LcS.on {w wx wy : World} {b : Nat} {v0 v1 v2 : Value} {t : TUnit} {l : List ByteArray} {A5 : Option Addr} {c5 : Nat} (h : LcS w wx b v0 v1 v2 t l A5 c5) (k : Bel wx wy) : LcS w wy b v0 v1 v2 t l A5 c5 := ⟨h.bel.trans k, h.box.on k, Dat.HoldVals.bel k h.val, Row.bel k h.row⟩
theorem specChkT_any (t : TUnit) (w : World) (htab : Sp w) (S : Nat → Prop) (vs : List Value) (h : Dat.HoldVals w S t.D vs) (hw : Dat.wtL t.D ≤ 1048576) :
  Calls Tryd.prog 8 #[.agg vs.toArray] w fun e w' => e = .returned (.tuple #[.int .i64 (chkOfT t).1, .int .i64 (chkOfT t).2]) ∧ Bel w w' := by
 obtain ⟨R, G, P⟩ := t
 exact specChk_of specUnit_any R G P S w vs htab h hw
theorem implResT_any (t : TUnit) (n : Int) (s : ByteArray) (w : World) (htab : Sp w) (S : Nat → Prop) (vs : List Value) (h : Dat.HoldVals w S t.D vs) (hw : Dat.wtL t.D ≤ 1048576) :
  Calls Tryd.prog 9 #[.agg vs.toArray, .int .i64 n, .string s] w fun e w' => e = .returned (.tuple #[.int .i64 (resT t n s).1, .int .i64 (resT t n s).2]) ∧ Bel w w' := by
 obtain ⟨R, G, P⟩ := t
 exact implRes_of implUnit_any R G P n s S w vs htab h hw
set_option maxRecDepth 8000 in
set_option maxHeartbeats 4000000 in
theorem FnLocals_walk (A : Option Addr) (n cap : Nat) (w : World) (hB : ∀ c, w.heap.size ≤ c → n ≤ 1048576 → Bts w c A n) (htab : Sp w) :
  Calls Tryd.prog 3 #[.slice A n cap] w fun e w' => e = .returned (.bool true) ∧ Bel w w' := by
 have HB := hide hB
 have HTB := hide htab
 clear hB htab
 by_cases hn : n ≤ 1048576
 case neg =>
  have hd := hide (show decide ((1048576 : Int) < (n : Int)) = true by simp; omega)
  go_enter Tryd.func3, Tryd.ntmps3
  go_wp2_with (go_at_call 4; refine (lawBig_any A n cap _).mono ?_; rintro e w1 ⟨rfl, rfl⟩; rw [hd.out])
  all_goals
   go_returns
   exact ⟨rfl, bl⟩
 have hd := hide (show decide ((1048576 : Int) < (n : Int)) = false by simp; omega)
 go_enter Tryd.func3, Tryd.ntmps3
 go_upto_region 4 with (first
  | (go_at_call 4; refine (lawBig_any A n cap _).mono ?_; rintro e w1 ⟨rfl, rfl⟩; rw [hd.out])
  | (go_at_call 5; refine (drawLocalNames_any A n cap _ hn (fun c h => HB.out c h hn)).mono ?_; rintro e w1 ⟨t, x0, x1, x2, k, rfl, hv, hwt, hk1, hk2, hb1⟩; have HV := hide hv; have HWT := hide (Nat.le_trans hwt (show 1000000 ≤ 1048576 by omega)); have Hb1 := hide hb1; clear hv hwt hb1; obtain ⟨A0, n0, c0, A1, n1, c1, A2, n2, c2, rfl, rfl, rfl⟩ := unit_slices HV.out))
 refine wp_namedF fun w2 hw2 => ?_
 have hb2 : Bel w1 w2 := by rw [← hw2]; exact bl
 have L2 := hide (show LcS w w2 w1.heap.size (.slice A0 n0 c0) (.slice A1 n1 c1) (.slice A2 n2 c2) t [] none 0 from ⟨Hb1.out.trans hb2, by rw [← hw2]; first | exact TB.new _ _ | exact (((TB.new _ _).put0 _).put1 _).put2 _, Dat.HoldVals.bel hb2 HV.out, by simp [strsD], by unfold maxLen; omega, fun h => absurd rfl h⟩)
 clear hw2 hb2 HV Hb1
 generalize w1.heap.size = b at L2 ⊢
 clear w1
 obtain ⟨hl2, f2, k20, k21, k22⟩ := L2.out.box
 obtain ⟨l, hl⟩ : ∃ l, locT t k = l := ⟨_, rfl⟩
 have hll : l.length ≤ 700 := by rw [← hl]; exact locT_len t k
 have HL := hide hl
 go_upto_region 5 with (go_at_call 6; refine (implLocT_of implUnit_any t k _ (HTB.out.on L2.out.bel) _ [.slice A0 n0 c0, .slice A1 n1 c1, .slice A2 n2 c2] L2.out.val HWT.out).mono ?_; rintro e w3 ⟨A5, c5, L5, rfl, hown, -, -, hb3⟩; rw [hl] at hown ⊢; have L3 := hide (show LcS w w3 b (.slice A0 n0 c0) (.slice A1 n1 c1) (.slice A2 n2 c2) t l A5 c5 from by have q := L2.out.on hb3; exact ⟨q.bel, q.box, q.val, OwnRow.row (fun _ _ => trivial) hown⟩); clear hown hb3; obtain ⟨hl3, f3, k30, k31, k32⟩ := L3.out.box; simp only [List.length_map])
 clear k20 k21 k22 f2 hl2 L2
 have hne : ((l.length : Int) != (l.length : Int)) = false := by simp
 have hne2 : (l.length != l.length) = false := by simp
 go_upto_region 7 with (go_at_call 7; refine (specLocT_of specUnit_any t k _ (HTB.out.on L3.out.bel) _ [.slice A0 n0 c0, .slice A1 n1 c1, .slice A2 n2 c2] L3.out.val HWT.out).mono ?_; rintro e w4 ⟨A6, c6, L6, rfl, -, -, -, hb4⟩; rw [hl]; have L4 := hide (L3.out.on hb4); clear hb4; obtain ⟨hl4, f4, k40, k41, k42⟩ := L4.out.box; simp only [List.length_map])
 clear k30 k31 k32 f3 hl3 L3
 have HLAW := hide (fun h => locals_law (t := t) (k := k) h)
 obtain ⟨bad, hbad⟩ : ∃ x, (chkOfT t).1 = x := ⟨_, rfl⟩
 have HBAD := hide hbad
 go_wp2_with (go_at_call 8; refine (specChkT_any t _ (HTB.out.on L4.out.bel) _ [.slice A0 n0 c0, .slice A1 n1 c1, .slice A2 n2 c2] L4.out.val HWT.out).mono ?_; rintro e w5 ⟨rfl, hb5⟩; rw [hbad]; have L5 := hide (L4.out.on hb5); clear hb5)
 clear k40 k41 k42 f4 hl4 L4
 go_loopw [8] (fun iv wr => ∃ i : Nat, iv = .int .i64 i ∧ i ≤ l.length ∧ Hid (LcS w wr b (.slice A0 n0 c0) (.slice A1 n1 c1) (.slice A2 n2 c2) t l A5 c5)) (fun iv _ => l.length - (intOf iv).toNat)
 case atStart => exact ⟨0, rfl, Nat.zero_le _, L5⟩
 case round =>
  obtain ⟨i, rfl, hi, HT⟩ := hrel
  clear L5
  by_cases h : i < l.length
  ·
   skip
   have hdc : decide ((i : Int) < (l.length : Int)) = true := by simp; omega
   have hdn : decide (i < l.length) = true := by simp; omega
   by_cases hb0 : bad = 0
   ·
    subst hb0
    go_upto_region 11 with (fail)
    obtain ⟨hl6, f6, k60, k61, k62⟩ := HT.out.box
    obtain ⟨bL, oL, rfl, -, hbL⟩ := Row.addr HT.out.row (by simpa using Nat.lt_of_le_of_lt (Nat.zero_le i) h)
    have hcs := Row.strs HT.out.row i h
    rw [getD_lt2 l i h] at hcs
    have hi1 : (0 : Int) ≤ (i : Int) := by omega
    have hi2 : (i : Int) < (l.length : Int) := by omega
    have HR := hide (HLAW.out HBAD.out i (by rw [HL.out]; exact h))
    have HRI := hide (show resT t k l[i] = (1, (i : Int)) by have q := HR.out; simp only [HL.out] at q; exact q)
    clear HR
    refine wp_region_held_drew (S := fun w' => w'.cell? ⟨b, 0, none⟩ = some (.slice A0 n0 c0) ∧ w'.cell? ⟨b, 1, none⟩ = some (.slice A1 n1 c1) ∧ w'.cell? ⟨b, 2, none⟩ = some (.slice A2 n2 c2) ∧ w'.cell? ⟨bL, oL + i, none⟩ = some (.string l[i])) (by kernel_rfl) ⟨k60, k61, k62, hcs⟩ (fun hHeld => ?_)
    refine tkI 0 ?_
    refine tkI 1 ?_
    refine tkI 2 ?_
    refine tkI 3 ?_
    refine tkI 4 ?_
    refine tkI 5 ?_
    refine wpAnyH_ready (rs := [6]) (by kernel_rfl) (by simp) ?_
    refine AllReadyH.cons (o := _) rfl (fun K hK => ?_) AllReadyH.nil
    go_simp
    go_at_call 9
    have L7 := hide (HT.out.on (show Bel wr wr.drew from bl))
    refine (implResT_any t k l[i] _ (HTB.out.on L7.out.bel) _ [.slice A0 n0 c0, .slice A1 n1 c1, .slice A2 n2 c2] L7.out.val HWT.out).mono ?_
    rintro e w8 ⟨rfl, hb8⟩
    rw [HRI.out]
    have L8 := hide (L7.out.on hb8)
    have hcs8 := (hb8.box bL hbL _).trans hcs
    clear hb8 hHeld
    obtain ⟨hl8, f8, k80, k81, k82⟩ := L8.out.box
    refine hK.out _ _ ⟨k80, k81, k82, hcs8⟩ (fun hHeld => ?_)
    clear hK K
    (try simp only [Act.put, List.setIfInBounds_toArray, List.set_cons_zero, List.set_cons_succ, List.getElem_toArray, List.getElem_cons_zero, List.getElem_cons_succ])
    refine tkI 7 ?_
    refine tkI 8 ?_
    refine tkI 9 ?_
    refine tkI 10 ?_
    refine tkI 11 ?_
    refine wpAnyH_done (by kernel_rfl) ?_ _
    clear hHeld
    go_wp2_with (fail)
    all_goals go_roundw
    case rel => exact ⟨i + 1, by go_num, by omega, L8⟩
    case measure => simp [intOf]; omega
   ·
    have hbd : decide (bad = 0) = false := by simp [hb0]
    go_wp2_with (fail)
    all_goals
     go_returns
     exact ⟨rfl, HT.out.bel.trans bl⟩
  ·
   skip
   have hdc : decide ((i : Int) < (l.length : Int)) = false := by simp; omega
   have hdn : decide (i < l.length) = false := by simp; omega
   go_wp2_with (fail)
   all_goals
    go_returns
    exact ⟨rfl, HT.out.bel.trans bl⟩
end Go.Proofs.YtdacpljinffnaaaDoor
