/- The text of a pattern: the walk of the program. -/
import Derived.Test.YtmikipcfepgogaaDoorP16
import Derived.Deep.RegionHeld3
import Derived.Deep.Cut
namespace Go.Proofs.YtmikipcfepgogaaDoor
set_option linter.unusedVariables false
set_option linter.unusedSimpArgs false
set_option maxRecDepth 100000
open Go.RowKit

set_option maxHeartbeats 2000000 in
theorem implFormat_lo (t : ByteArray) (n lo hi : Int) (ks : List TPattern) (op : Int) (h : op < 1) : FmtC 9 (.mk op t n lo hi ks) := by
  intro S w vs htab hv hsz
  have HT := hide htab
  have HV0 := hide hv
  obtain ⟨A, c, rfl, -, hts, hn, -, -, hR⟩ := TPattern.vals hv
  have HR := hide hR
  have HSZ := hide hsz
  have HN := hide hn
  have hlc := HR.out.1
  have hcm := HR.out.2.1
  simp only [List.length_map, List.length_cons, List.length_nil] at hlc
  unfold maxLen at hcm
  have hit := itoa_size hn
  clear hR hv hsz htab hn
  have f1 : decide (op < 1) = true := by simp [h]
  have HE : Hid ((TPattern.mk op t n lo hi ks).fmt = ⟨#[63]⟩) := by show _ = _; simp only [TPattern.fmt]; rw [if_neg (by omega)]
  go_enter Tryd.func9, Tryd.ntmps9
  go_wp2_with (fail)
  go_quiet ((go_at_call 28; exact quiet_ws (patternKids_any _ _)))
  go_wp2_with (fail)
  all_goals
    go_returns
    exact ⟨ret_str HE.out.symm, (by repeat' (first | with_reducible exact Bel.refl _ | with_reducible assumption | with_reducible refine Bel.set ?_ ?_ _ | with_reducible refine Bel.alloc ?_ _ | with_reducible refine Bel.drew ?_ | with_reducible refine Bel.drewN ?_ _ | with_reducible refine Bel.trans ?_ (by with_reducible assumption) | (simp; done) | (simp; omega) | refine Bel.alloc ?_ _ | refine Bel.drew ?_ | refine Bel.drewN ?_ _ | refine Bel.set ?_ ?_ _))⟩
set_option maxHeartbeats 2000000 in
theorem implFormat_hi (t : ByteArray) (n lo hi : Int) (ks : List TPattern) (op : Int) (h : 23 < op) : FmtC 9 (.mk op t n lo hi ks) := by
  intro S w vs htab hv hsz
  have HT := hide htab
  have HV0 := hide hv
  obtain ⟨A, c, rfl, -, hts, hn, -, -, hR⟩ := TPattern.vals hv
  have HR := hide hR
  have HSZ := hide hsz
  have HN := hide hn
  have hlc := HR.out.1
  have hcm := HR.out.2.1
  simp only [List.length_map, List.length_cons, List.length_nil] at hlc
  unfold maxLen at hcm
  have hit := itoa_size hn
  clear hR hv hsz htab hn
  have f1 : decide (op < 1) = false := by simp; omega
  have f2 : decide (23 < op) = true := by simp [h]
  have HE : Hid ((TPattern.mk op t n lo hi ks).fmt = ⟨#[63]⟩) := by show _ = _; simp only [TPattern.fmt]; rw [if_neg (by omega)]
  go_enter Tryd.func9, Tryd.ntmps9
  go_wp2_with (fail)
  go_quiet ((go_at_call 28; exact quiet_ws (patternKids_any _ _)))
  go_wp2_with (fail)
  all_goals
    go_returns
    exact ⟨ret_str HE.out.symm, (by repeat' (first | with_reducible exact Bel.refl _ | with_reducible assumption | with_reducible refine Bel.set ?_ ?_ _ | with_reducible refine Bel.alloc ?_ _ | with_reducible refine Bel.drew ?_ | with_reducible refine Bel.drewN ?_ _ | with_reducible refine Bel.trans ?_ (by with_reducible assumption) | (simp; done) | (simp; omega) | refine Bel.alloc ?_ _ | refine Bel.drew ?_ | refine Bel.drewN ?_ _ | refine Bel.set ?_ ?_ _))⟩
set_option maxHeartbeats 2000000 in
theorem implFormat_kids (t : ByteArray) (n lo hi : Int) (ks : List TPattern) (op : Int) (h1 : 1 ≤ op) (h2 : op ≤ 23) (hm : ¬ ks.length = kidsN op) : FmtC 9 (.mk op t n lo hi ks) := by
  intro S w vs htab hv hsz
  have HT := hide htab
  have HV0 := hide hv
  obtain ⟨A, c, rfl, -, hts, hn, -, -, hR⟩ := TPattern.vals hv
  have HR := hide hR
  have HSZ := hide hsz
  have HN := hide hn
  have hlc := HR.out.1
  have hcm := HR.out.2.1
  simp only [List.length_map, List.length_cons, List.length_nil] at hlc
  unfold maxLen at hcm
  have hit := itoa_size hn
  clear hR hv hsz htab hn
  have f1 : decide (op < 1) = false := by simp; omega
  have f2 : decide (23 < op) = false := by simp; omega
  have f3 : (((ks.length : Nat) : Int) != ((kidsN op : Nat) : Int)) = true := by simp; omega
  have HE : Hid ((TPattern.mk op t n lo hi ks).fmt = ⟨#[63]⟩) := by show _ = _; simp only [TPattern.fmt]; rw [if_neg (by omega)]
  clear hm
  go_enter Tryd.func9, Tryd.ntmps9
  go_wp2_with (fail)
  go_quiet ((go_at_call 28; exact quiet_ws (patternKids_any _ _)))
  go_wp2_with (fail)
  all_goals
    go_returns
    exact ⟨ret_str HE.out.symm, (by repeat' (first | with_reducible exact Bel.refl _ | with_reducible assumption | with_reducible refine Bel.set ?_ ?_ _ | with_reducible refine Bel.alloc ?_ _ | with_reducible refine Bel.drew ?_ | with_reducible refine Bel.drewN ?_ _ | with_reducible refine Bel.trans ?_ (by with_reducible assumption) | (simp; done) | (simp; omega) | refine Bel.alloc ?_ _ | refine Bel.drew ?_ | refine Bel.drewN ?_ _ | refine Bel.set ?_ ?_ _))⟩
set_option maxHeartbeats 2000000 in
theorem implFormat_1 (t : ByteArray) (n lo hi : Int)  : FmtC 9 (.mk 1 t n lo hi []) := by
  intro S w vs htab hv hsz
  have HT := hide htab
  have HV0 := hide hv
  obtain ⟨A, c, rfl, -, hts, hn, -, -, hR⟩ := TPattern.vals hv
  have HR := hide hR
  have HSZ := hide hsz
  have HN := hide hn
  have hlc := HR.out.1
  have hcm := HR.out.2.1
  simp only [List.length_map, List.length_cons, List.length_nil] at hlc
  unfold maxLen at hcm
  have hit := itoa_size hn
  clear hR hv hsz htab hn
  have HE : Hid ((TPattern.mk 1 t n lo hi []).fmt = qt 34 t) := by show _ = _; simp only [TPattern.fmt]; rw [if_pos ⟨by decide, by decide, rfl⟩, fmtB_1]
  have f3 : (((0 : Nat) : Int) != ((kidsN 1 : Nat) : Int)) = false := by decide
  have f3' : ((0 : Int) != ((kidsN 1 : Nat) : Int)) = false := by decide
  have hq := qt_size 34 t
  have htz : t.size ≤ 300000000 := by have := HSZ.out; rw [TPattern.D_mk] at this; simp only [Dat.wtL, Dat.wt] at this; omega
  go_enter Tryd.func9, Tryd.ntmps9
  go_wp2_with (fail)
  go_quiet ((go_at_call 28; exact quiet_ws (patternKids_any _ _)))
  go_wp2_with (first | (go_at_call 29; refine (implFormatInt_any n _ HN.out (HT.out.on (by repeat' (first | with_reducible exact Bel.refl _ | with_reducible assumption | with_reducible refine Bel.set ?_ ?_ _ | with_reducible refine Bel.alloc ?_ _ | with_reducible refine Bel.drew ?_ | with_reducible refine Bel.drewN ?_ _ | with_reducible refine Bel.trans ?_ (by with_reducible assumption) | (simp; done) | (simp; omega) | refine Bel.alloc ?_ _ | refine Bel.drew ?_ | refine Bel.drewN ?_ _ | refine Bel.set ?_ ?_ _)))).mono ?_; rintro e w5 ⟨rfl, hb5⟩; (have hz5 := hb5.size; (try simp only [World.size_alloc, World.size_setCell, World.size_drew, World.heap_drewN] at hz5); have hk5_0 := hb5.box (w.heap.size) (by first | (simp; done) | (simp; omega) | omega); have hf5_0 := hb5.boxf (w.heap.size) (by first | (simp; done) | (simp; omega) | omega); have hl5_0 : w.heap.size < w5.heap.size := (by omega); have hn5_0 : ¬ w.heap.size = w5.heap.size := (by omega))) | (go_at_call 30; refine (implQuoteText_any t _ htz).mono ?_; rintro e w6 ⟨rfl, hb6⟩))
  all_goals
    go_returns
    exact ⟨ret_str (HE.out.trans (by first | rfl | (simp only [ByteArray.append_assoc]; rfl) | (simp only [ByteArray.append_assoc]; congr 1))).symm, (by repeat' (first | with_reducible exact Bel.refl _ | with_reducible assumption | with_reducible refine Bel.set ?_ ?_ _ | with_reducible refine Bel.alloc ?_ _ | with_reducible refine Bel.drew ?_ | with_reducible refine Bel.drewN ?_ _ | with_reducible refine Bel.trans ?_ (by with_reducible assumption) | (simp; done) | (simp; omega) | refine Bel.alloc ?_ _ | refine Bel.drew ?_ | refine Bel.drewN ?_ _ | refine Bel.set ?_ ?_ _))⟩
set_option maxHeartbeats 2000000 in
theorem implFormat_2 (t : ByteArray) (n lo hi : Int)  : FmtC 9 (.mk 2 t n lo hi []) := by
  intro S w vs htab hv hsz
  have HT := hide htab
  have HV0 := hide hv
  obtain ⟨A, c, rfl, -, hts, hn, -, -, hR⟩ := TPattern.vals hv
  have HR := hide hR
  have HSZ := hide hsz
  have HN := hide hn
  have hlc := HR.out.1
  have hcm := HR.out.2.1
  simp only [List.length_map, List.length_cons, List.length_nil] at hlc
  unfold maxLen at hcm
  have hit := itoa_size hn
  clear hR hv hsz htab hn
  have HE : Hid ((TPattern.mk 2 t n lo hi []).fmt = (⟨#[76, 101, 110]⟩ : ByteArray) ++ (⟨#[40]⟩ : ByteArray) ++ (⟨(Lib.itoa n).toArray⟩ : ByteArray) ++ (⟨#[41]⟩ : ByteArray)) := by show _ = _; simp only [TPattern.fmt]; rw [if_pos ⟨by decide, by decide, rfl⟩, fmtB_2]
  have f3 : (((0 : Nat) : Int) != ((kidsN 2 : Nat) : Int)) = false := by decide
  have f3' : ((0 : Int) != ((kidsN 2 : Nat) : Int)) = false := by decide
  have ga0 := run_addS (show ((⟨#[76, 101, 110]⟩ : ByteArray)).size ≤ 3 by decide) (show ((⟨#[40]⟩ : ByteArray)).size ≤ 1 by decide) (by omega)
  have ga1 := run_addS (sz_app (show ((⟨#[76, 101, 110]⟩ : ByteArray)).size ≤ 3 by decide) (show ((⟨#[40]⟩ : ByteArray)).size ≤ 1 by decide)) hit (by omega)
  have ga2 := run_addS (sz_app (sz_app (show ((⟨#[76, 101, 110]⟩ : ByteArray)).size ≤ 3 by decide) (show ((⟨#[40]⟩ : ByteArray)).size ≤ 1 by decide)) hit) (show ((⟨#[41]⟩ : ByteArray)).size ≤ 1 by decide) (by omega)
  go_enter Tryd.func9, Tryd.ntmps9
  go_wp2_with (fail)
  go_quiet ((go_at_call 28; exact quiet_ws (patternKids_any _ _)))
  go_wp2_with ((go_at_call 29; refine (implFormatInt_any n _ HN.out (HT.out.on (by repeat' (first | with_reducible exact Bel.refl _ | with_reducible assumption | with_reducible refine Bel.set ?_ ?_ _ | with_reducible refine Bel.alloc ?_ _ | with_reducible refine Bel.drew ?_ | with_reducible refine Bel.drewN ?_ _ | with_reducible refine Bel.trans ?_ (by with_reducible assumption) | (simp; done) | (simp; omega) | refine Bel.alloc ?_ _ | refine Bel.drew ?_ | refine Bel.drewN ?_ _ | refine Bel.set ?_ ?_ _)))).mono ?_; rintro e w5 ⟨rfl, hb5⟩; (have hz5 := hb5.size; (try simp only [World.size_alloc, World.size_setCell, World.size_drew, World.heap_drewN] at hz5); have hk5_0 := hb5.box (w.heap.size) (by first | (simp; done) | (simp; omega) | omega); have hf5_0 := hb5.boxf (w.heap.size) (by first | (simp; done) | (simp; omega) | omega); have hl5_0 : w.heap.size < w5.heap.size := (by omega); have hn5_0 : ¬ w.heap.size = w5.heap.size := (by omega))))
  all_goals
    go_returns
    exact ⟨ret_str (HE.out.trans (by first | rfl | (simp only [ByteArray.append_assoc]; rfl) | (simp only [ByteArray.append_assoc]; congr 1))).symm, (by repeat' (first | with_reducible exact Bel.refl _ | with_reducible assumption | with_reducible refine Bel.set ?_ ?_ _ | with_reducible refine Bel.alloc ?_ _ | with_reducible refine Bel.drew ?_ | with_reducible refine Bel.drewN ?_ _ | with_reducible refine Bel.trans ?_ (by with_reducible assumption) | (simp; done) | (simp; omega) | refine Bel.alloc ?_ _ | refine Bel.drew ?_ | refine Bel.drewN ?_ _ | refine Bel.set ?_ ?_ _))⟩
set_option maxHeartbeats 2000000 in
theorem implFormat_3 (t : ByteArray) (n lo hi : Int)  : FmtC 9 (.mk 3 t n lo hi []) := by
  intro S w vs htab hv hsz
  have HT := hide htab
  have HV0 := hide hv
  obtain ⟨A, c, rfl, -, hts, hn, -, -, hR⟩ := TPattern.vals hv
  have HR := hide hR
  have HSZ := hide hsz
  have HN := hide hn
  have hlc := HR.out.1
  have hcm := HR.out.2.1
  simp only [List.length_map, List.length_cons, List.length_nil] at hlc
  unfold maxLen at hcm
  have hit := itoa_size hn
  clear hR hv hsz htab hn
  have HE : Hid ((TPattern.mk 3 t n lo hi []).fmt = (⟨#[80, 111, 115]⟩ : ByteArray) ++ (⟨#[40]⟩ : ByteArray) ++ (⟨(Lib.itoa n).toArray⟩ : ByteArray) ++ (⟨#[41]⟩ : ByteArray)) := by show _ = _; simp only [TPattern.fmt]; rw [if_pos ⟨by decide, by decide, rfl⟩, fmtB_3]
  have f3 : (((0 : Nat) : Int) != ((kidsN 3 : Nat) : Int)) = false := by decide
  have f3' : ((0 : Int) != ((kidsN 3 : Nat) : Int)) = false := by decide
  have ga0 := run_addS (show ((⟨#[80, 111, 115]⟩ : ByteArray)).size ≤ 3 by decide) (show ((⟨#[40]⟩ : ByteArray)).size ≤ 1 by decide) (by omega)
  have ga1 := run_addS (sz_app (show ((⟨#[80, 111, 115]⟩ : ByteArray)).size ≤ 3 by decide) (show ((⟨#[40]⟩ : ByteArray)).size ≤ 1 by decide)) hit (by omega)
  have ga2 := run_addS (sz_app (sz_app (show ((⟨#[80, 111, 115]⟩ : ByteArray)).size ≤ 3 by decide) (show ((⟨#[40]⟩ : ByteArray)).size ≤ 1 by decide)) hit) (show ((⟨#[41]⟩ : ByteArray)).size ≤ 1 by decide) (by omega)
  go_enter Tryd.func9, Tryd.ntmps9
  go_wp2_with (fail)
  go_quiet ((go_at_call 28; exact quiet_ws (patternKids_any _ _)))
  go_wp2_with ((go_at_call 29; refine (implFormatInt_any n _ HN.out (HT.out.on (by repeat' (first | with_reducible exact Bel.refl _ | with_reducible assumption | with_reducible refine Bel.set ?_ ?_ _ | with_reducible refine Bel.alloc ?_ _ | with_reducible refine Bel.drew ?_ | with_reducible refine Bel.drewN ?_ _ | with_reducible refine Bel.trans ?_ (by with_reducible assumption) | (simp; done) | (simp; omega) | refine Bel.alloc ?_ _ | refine Bel.drew ?_ | refine Bel.drewN ?_ _ | refine Bel.set ?_ ?_ _)))).mono ?_; rintro e w5 ⟨rfl, hb5⟩; (have hz5 := hb5.size; (try simp only [World.size_alloc, World.size_setCell, World.size_drew, World.heap_drewN] at hz5); have hk5_0 := hb5.box (w.heap.size) (by first | (simp; done) | (simp; omega) | omega); have hf5_0 := hb5.boxf (w.heap.size) (by first | (simp; done) | (simp; omega) | omega); have hl5_0 : w.heap.size < w5.heap.size := (by omega); have hn5_0 : ¬ w.heap.size = w5.heap.size := (by omega))))
  all_goals
    go_returns
    exact ⟨ret_str (HE.out.trans (by first | rfl | (simp only [ByteArray.append_assoc]; rfl) | (simp only [ByteArray.append_assoc]; congr 1))).symm, (by repeat' (first | with_reducible exact Bel.refl _ | with_reducible assumption | with_reducible refine Bel.set ?_ ?_ _ | with_reducible refine Bel.alloc ?_ _ | with_reducible refine Bel.drew ?_ | with_reducible refine Bel.drewN ?_ _ | with_reducible refine Bel.trans ?_ (by with_reducible assumption) | (simp; done) | (simp; omega) | refine Bel.alloc ?_ _ | refine Bel.drew ?_ | refine Bel.drewN ?_ _ | refine Bel.set ?_ ?_ _))⟩
set_option maxHeartbeats 2000000 in
theorem implFormat_4 (t : ByteArray) (n lo hi : Int)  : FmtC 9 (.mk 4 t n lo hi []) := by
  intro S w vs htab hv hsz
  have HT := hide htab
  have HV0 := hide hv
  obtain ⟨A, c, rfl, -, hts, hn, -, -, hR⟩ := TPattern.vals hv
  have HR := hide hR
  have HSZ := hide hsz
  have HN := hide hn
  have hlc := HR.out.1
  have hcm := HR.out.2.1
  simp only [List.length_map, List.length_cons, List.length_nil] at hlc
  unfold maxLen at hcm
  have hit := itoa_size hn
  clear hR hv hsz htab hn
  have HE : Hid ((TPattern.mk 4 t n lo hi []).fmt = (⟨#[82, 80, 111, 115]⟩ : ByteArray) ++ (⟨#[40]⟩ : ByteArray) ++ (⟨(Lib.itoa n).toArray⟩ : ByteArray) ++ (⟨#[41]⟩ : ByteArray)) := by show _ = _; simp only [TPattern.fmt]; rw [if_pos ⟨by decide, by decide, rfl⟩, fmtB_4]
  have f3 : (((0 : Nat) : Int) != ((kidsN 4 : Nat) : Int)) = false := by decide
  have f3' : ((0 : Int) != ((kidsN 4 : Nat) : Int)) = false := by decide
  have ga0 := run_addS (show ((⟨#[82, 80, 111, 115]⟩ : ByteArray)).size ≤ 4 by decide) (show ((⟨#[40]⟩ : ByteArray)).size ≤ 1 by decide) (by omega)
  have ga1 := run_addS (sz_app (show ((⟨#[82, 80, 111, 115]⟩ : ByteArray)).size ≤ 4 by decide) (show ((⟨#[40]⟩ : ByteArray)).size ≤ 1 by decide)) hit (by omega)
  have ga2 := run_addS (sz_app (sz_app (show ((⟨#[82, 80, 111, 115]⟩ : ByteArray)).size ≤ 4 by decide) (show ((⟨#[40]⟩ : ByteArray)).size ≤ 1 by decide)) hit) (show ((⟨#[41]⟩ : ByteArray)).size ≤ 1 by decide) (by omega)
  go_enter Tryd.func9, Tryd.ntmps9
  go_wp2_with (fail)
  go_quiet ((go_at_call 28; exact quiet_ws (patternKids_any _ _)))
  go_wp2_with ((go_at_call 29; refine (implFormatInt_any n _ HN.out (HT.out.on (by repeat' (first | with_reducible exact Bel.refl _ | with_reducible assumption | with_reducible refine Bel.set ?_ ?_ _ | with_reducible refine Bel.alloc ?_ _ | with_reducible refine Bel.drew ?_ | with_reducible refine Bel.drewN ?_ _ | with_reducible refine Bel.trans ?_ (by with_reducible assumption) | (simp; done) | (simp; omega) | refine Bel.alloc ?_ _ | refine Bel.drew ?_ | refine Bel.drewN ?_ _ | refine Bel.set ?_ ?_ _)))).mono ?_; rintro e w5 ⟨rfl, hb5⟩; (have hz5 := hb5.size; (try simp only [World.size_alloc, World.size_setCell, World.size_drew, World.heap_drewN] at hz5); have hk5_0 := hb5.box (w.heap.size) (by first | (simp; done) | (simp; omega) | omega); have hf5_0 := hb5.boxf (w.heap.size) (by first | (simp; done) | (simp; omega) | omega); have hl5_0 : w.heap.size < w5.heap.size := (by omega); have hn5_0 : ¬ w.heap.size = w5.heap.size := (by omega))))
  all_goals
    go_returns
    exact ⟨ret_str (HE.out.trans (by first | rfl | (simp only [ByteArray.append_assoc]; rfl) | (simp only [ByteArray.append_assoc]; congr 1))).symm, (by repeat' (first | with_reducible exact Bel.refl _ | with_reducible assumption | with_reducible refine Bel.set ?_ ?_ _ | with_reducible refine Bel.alloc ?_ _ | with_reducible refine Bel.drew ?_ | with_reducible refine Bel.drewN ?_ _ | with_reducible refine Bel.trans ?_ (by with_reducible assumption) | (simp; done) | (simp; omega) | refine Bel.alloc ?_ _ | refine Bel.drew ?_ | refine Bel.drewN ?_ _ | refine Bel.set ?_ ?_ _))⟩
set_option maxHeartbeats 2000000 in
theorem implFormat_5 (t : ByteArray) (n lo hi : Int)  : FmtC 9 (.mk 5 t n lo hi []) := by
  intro S w vs htab hv hsz
  have HT := hide htab
  have HV0 := hide hv
  obtain ⟨A, c, rfl, -, hts, hn, -, -, hR⟩ := TPattern.vals hv
  have HR := hide hR
  have HSZ := hide hsz
  have HN := hide hn
  have hlc := HR.out.1
  have hcm := HR.out.2.1
  simp only [List.length_map, List.length_cons, List.length_nil] at hlc
  unfold maxLen at hcm
  have hit := itoa_size hn
  clear hR hv hsz htab hn
  have HE : Hid ((TPattern.mk 5 t n lo hi []).fmt = (⟨#[84, 97, 98]⟩ : ByteArray) ++ (⟨#[40]⟩ : ByteArray) ++ (⟨(Lib.itoa n).toArray⟩ : ByteArray) ++ (⟨#[41]⟩ : ByteArray)) := by show _ = _; simp only [TPattern.fmt]; rw [if_pos ⟨by decide, by decide, rfl⟩, fmtB_5]
  have f3 : (((0 : Nat) : Int) != ((kidsN 5 : Nat) : Int)) = false := by decide
  have f3' : ((0 : Int) != ((kidsN 5 : Nat) : Int)) = false := by decide
  have ga0 := run_addS (show ((⟨#[84, 97, 98]⟩ : ByteArray)).size ≤ 3 by decide) (show ((⟨#[40]⟩ : ByteArray)).size ≤ 1 by decide) (by omega)
  have ga1 := run_addS (sz_app (show ((⟨#[84, 97, 98]⟩ : ByteArray)).size ≤ 3 by decide) (show ((⟨#[40]⟩ : ByteArray)).size ≤ 1 by decide)) hit (by omega)
  have ga2 := run_addS (sz_app (sz_app (show ((⟨#[84, 97, 98]⟩ : ByteArray)).size ≤ 3 by decide) (show ((⟨#[40]⟩ : ByteArray)).size ≤ 1 by decide)) hit) (show ((⟨#[41]⟩ : ByteArray)).size ≤ 1 by decide) (by omega)
  go_enter Tryd.func9, Tryd.ntmps9
  go_wp2_with (fail)
  go_quiet ((go_at_call 28; exact quiet_ws (patternKids_any _ _)))
  go_wp2_with ((go_at_call 29; refine (implFormatInt_any n _ HN.out (HT.out.on (by repeat' (first | with_reducible exact Bel.refl _ | with_reducible assumption | with_reducible refine Bel.set ?_ ?_ _ | with_reducible refine Bel.alloc ?_ _ | with_reducible refine Bel.drew ?_ | with_reducible refine Bel.drewN ?_ _ | with_reducible refine Bel.trans ?_ (by with_reducible assumption) | (simp; done) | (simp; omega) | refine Bel.alloc ?_ _ | refine Bel.drew ?_ | refine Bel.drewN ?_ _ | refine Bel.set ?_ ?_ _)))).mono ?_; rintro e w5 ⟨rfl, hb5⟩; (have hz5 := hb5.size; (try simp only [World.size_alloc, World.size_setCell, World.size_drew, World.heap_drewN] at hz5); have hk5_0 := hb5.box (w.heap.size) (by first | (simp; done) | (simp; omega) | omega); have hf5_0 := hb5.boxf (w.heap.size) (by first | (simp; done) | (simp; omega) | omega); have hl5_0 : w.heap.size < w5.heap.size := (by omega); have hn5_0 : ¬ w.heap.size = w5.heap.size := (by omega))))
  all_goals
    go_returns
    exact ⟨ret_str (HE.out.trans (by first | rfl | (simp only [ByteArray.append_assoc]; rfl) | (simp only [ByteArray.append_assoc]; congr 1))).symm, (by repeat' (first | with_reducible exact Bel.refl _ | with_reducible assumption | with_reducible refine Bel.set ?_ ?_ _ | with_reducible refine Bel.alloc ?_ _ | with_reducible refine Bel.drew ?_ | with_reducible refine Bel.drewN ?_ _ | with_reducible refine Bel.trans ?_ (by with_reducible assumption) | (simp; done) | (simp; omega) | refine Bel.alloc ?_ _ | refine Bel.drew ?_ | refine Bel.drewN ?_ _ | refine Bel.set ?_ ?_ _))⟩
set_option maxHeartbeats 2000000 in
theorem implFormat_6 (t : ByteArray) (n lo hi : Int)  : FmtC 9 (.mk 6 t n lo hi []) := by
  intro S w vs htab hv hsz
  have HT := hide htab
  have HV0 := hide hv
  obtain ⟨A, c, rfl, -, hts, hn, -, -, hR⟩ := TPattern.vals hv
  have HR := hide hR
  have HSZ := hide hsz
  have HN := hide hn
  have hlc := HR.out.1
  have hcm := HR.out.2.1
  simp only [List.length_map, List.length_cons, List.length_nil] at hlc
  unfold maxLen at hcm
  have hit := itoa_size hn
  clear hR hv hsz htab hn
  have HE : Hid ((TPattern.mk 6 t n lo hi []).fmt = (⟨#[82, 84, 97, 98]⟩ : ByteArray) ++ (⟨#[40]⟩ : ByteArray) ++ (⟨(Lib.itoa n).toArray⟩ : ByteArray) ++ (⟨#[41]⟩ : ByteArray)) := by show _ = _; simp only [TPattern.fmt]; rw [if_pos ⟨by decide, by decide, rfl⟩, fmtB_6]
  have f3 : (((0 : Nat) : Int) != ((kidsN 6 : Nat) : Int)) = false := by decide
  have f3' : ((0 : Int) != ((kidsN 6 : Nat) : Int)) = false := by decide
  have ga0 := run_addS (show ((⟨#[82, 84, 97, 98]⟩ : ByteArray)).size ≤ 4 by decide) (show ((⟨#[40]⟩ : ByteArray)).size ≤ 1 by decide) (by omega)
  have ga1 := run_addS (sz_app (show ((⟨#[82, 84, 97, 98]⟩ : ByteArray)).size ≤ 4 by decide) (show ((⟨#[40]⟩ : ByteArray)).size ≤ 1 by decide)) hit (by omega)
  have ga2 := run_addS (sz_app (sz_app (show ((⟨#[82, 84, 97, 98]⟩ : ByteArray)).size ≤ 4 by decide) (show ((⟨#[40]⟩ : ByteArray)).size ≤ 1 by decide)) hit) (show ((⟨#[41]⟩ : ByteArray)).size ≤ 1 by decide) (by omega)
  go_enter Tryd.func9, Tryd.ntmps9
  go_wp2_with (fail)
  go_quiet ((go_at_call 28; exact quiet_ws (patternKids_any _ _)))
  go_wp2_with ((go_at_call 29; refine (implFormatInt_any n _ HN.out (HT.out.on (by repeat' (first | with_reducible exact Bel.refl _ | with_reducible assumption | with_reducible refine Bel.set ?_ ?_ _ | with_reducible refine Bel.alloc ?_ _ | with_reducible refine Bel.drew ?_ | with_reducible refine Bel.drewN ?_ _ | with_reducible refine Bel.trans ?_ (by with_reducible assumption) | (simp; done) | (simp; omega) | refine Bel.alloc ?_ _ | refine Bel.drew ?_ | refine Bel.drewN ?_ _ | refine Bel.set ?_ ?_ _)))).mono ?_; rintro e w5 ⟨rfl, hb5⟩; (have hz5 := hb5.size; (try simp only [World.size_alloc, World.size_setCell, World.size_drew, World.heap_drewN] at hz5); have hk5_0 := hb5.box (w.heap.size) (by first | (simp; done) | (simp; omega) | omega); have hf5_0 := hb5.boxf (w.heap.size) (by first | (simp; done) | (simp; omega) | omega); have hl5_0 : w.heap.size < w5.heap.size := (by omega); have hn5_0 : ¬ w.heap.size = w5.heap.size := (by omega))))
  all_goals
    go_returns
    exact ⟨ret_str (HE.out.trans (by first | rfl | (simp only [ByteArray.append_assoc]; rfl) | (simp only [ByteArray.append_assoc]; congr 1))).symm, (by repeat' (first | with_reducible exact Bel.refl _ | with_reducible assumption | with_reducible refine Bel.set ?_ ?_ _ | with_reducible refine Bel.alloc ?_ _ | with_reducible refine Bel.drew ?_ | with_reducible refine Bel.drewN ?_ _ | with_reducible refine Bel.trans ?_ (by with_reducible assumption) | (simp; done) | (simp; omega) | refine Bel.alloc ?_ _ | refine Bel.drew ?_ | refine Bel.drewN ?_ _ | refine Bel.set ?_ ?_ _))⟩
set_option maxHeartbeats 2000000 in
theorem implFormat_7 (t : ByteArray) (n lo hi : Int)  : FmtC 9 (.mk 7 t n lo hi []) := by
  intro S w vs htab hv hsz
  have HT := hide htab
  have HV0 := hide hv
  obtain ⟨A, c, rfl, -, hts, hn, -, -, hR⟩ := TPattern.vals hv
  have HR := hide hR
  have HSZ := hide hsz
  have HN := hide hn
  have hlc := HR.out.1
  have hcm := HR.out.2.1
  simp only [List.length_map, List.length_cons, List.length_nil] at hlc
  unfold maxLen at hcm
  have hit := itoa_size hn
  clear hR hv hsz htab hn
  have HE : Hid ((TPattern.mk 7 t n lo hi []).fmt = (⟨#[65, 110, 121]⟩ : ByteArray) ++ (⟨#[40]⟩ : ByteArray) ++ qt 39 (csT lo hi) ++ (⟨#[41]⟩ : ByteArray)) := by show _ = _; simp only [TPattern.fmt]; rw [if_pos ⟨by decide, by decide, rfl⟩, fmtB_7]
  have f3 : (((0 : Nat) : Int) != ((kidsN 7 : Nat) : Int)) = false := by decide
  have f3' : ((0 : Int) != ((kidsN 7 : Nat) : Int)) = false := by decide
  have hq := qt_size 39 (csT lo hi)
  have hq2 := csT_size lo hi
  have hqc : (qt 39 (csT lo hi)).size ≤ 600 := by omega
  have ga0 := run_addS (show ((⟨#[65, 110, 121]⟩ : ByteArray)).size ≤ 3 by decide) (show ((⟨#[40]⟩ : ByteArray)).size ≤ 1 by decide) (by omega)
  have ga1 := run_addS (sz_app (show ((⟨#[65, 110, 121]⟩ : ByteArray)).size ≤ 3 by decide) (show ((⟨#[40]⟩ : ByteArray)).size ≤ 1 by decide)) hqc (by omega)
  have ga2 := run_addS (sz_app (sz_app (show ((⟨#[65, 110, 121]⟩ : ByteArray)).size ≤ 3 by decide) (show ((⟨#[40]⟩ : ByteArray)).size ≤ 1 by decide)) hqc) (show ((⟨#[41]⟩ : ByteArray)).size ≤ 1 by decide) (by omega)
  go_enter Tryd.func9, Tryd.ntmps9
  go_wp2_with (fail)
  go_quiet ((go_at_call 28; exact quiet_ws (patternKids_any _ _)))
  go_wp2_with ((go_at_call 29; refine (implFormatInt_any n _ HN.out (HT.out.on (by repeat' (first | with_reducible exact Bel.refl _ | with_reducible assumption | with_reducible refine Bel.set ?_ ?_ _ | with_reducible refine Bel.alloc ?_ _ | with_reducible refine Bel.drew ?_ | with_reducible refine Bel.drewN ?_ _ | with_reducible refine Bel.trans ?_ (by with_reducible assumption) | (simp; done) | (simp; omega) | refine Bel.alloc ?_ _ | refine Bel.drew ?_ | refine Bel.drewN ?_ _ | refine Bel.set ?_ ?_ _)))).mono ?_; rintro e w5 ⟨rfl, hb5⟩; (have hz5 := hb5.size; (try simp only [World.size_alloc, World.size_setCell, World.size_drew, World.heap_drewN] at hz5); have hk5_0 := hb5.box (w.heap.size) (by first | (simp; done) | (simp; omega) | omega); have hf5_0 := hb5.boxf (w.heap.size) (by first | (simp; done) | (simp; omega) | omega); have hl5_0 : w.heap.size < w5.heap.size := (by omega); have hn5_0 : ¬ w.heap.size = w5.heap.size := (by omega))))
  go_region_held3 (fun w' => w'.cell? ⟨w.heap.size, 0, none⟩ = some (.int .i64 7) ∧ w'.cell? ⟨w.heap.size, 3, none⟩ = some (.int .i64 lo) ∧ w'.cell? ⟨w.heap.size, 4, none⟩ = some (.int .i64 hi) ∧ w'.cell? ⟨w5.heap.size, 7, none⟩ = some (.string ⟨#[65, 110, 121]⟩)) (go_keep) (first | (go_at_call 31; refine (implQuoteCset_any lo hi _).mono ?_; rintro e w7 ⟨rfl, hb7⟩; (have hz7 := hb7.size; (try simp only [World.size_alloc, World.size_setCell, World.size_drew, World.heap_drewN] at hz7); have hk7_0 := hb7.box (w.heap.size) (by first | (simp; done) | (simp; omega) | omega); have hf7_0 := hb7.boxf (w.heap.size) (by first | (simp; done) | (simp; omega) | omega); have hl7_0 : w.heap.size < w7.heap.size := (by omega); have hn7_0 : ¬ w.heap.size = w7.heap.size := (by omega); have hk7_1 := hb7.box (w5.heap.size) (by first | (simp; done) | (simp; omega) | omega); have hf7_1 := hb7.boxf (w5.heap.size) (by first | (simp; done) | (simp; omega) | omega); have hl7_1 : w5.heap.size < w7.heap.size := (by omega); have hn7_1 : ¬ w5.heap.size = w7.heap.size := (by omega))))
  all_goals (go_wp2_with (fail))
  all_goals
    go_returns
    exact ⟨ret_str (HE.out.trans (by first | rfl | (simp only [ByteArray.append_assoc]; rfl) | (simp only [ByteArray.append_assoc]; congr 1))).symm, (by repeat' (first | with_reducible exact Bel.refl _ | with_reducible assumption | with_reducible refine Bel.set ?_ ?_ _ | with_reducible refine Bel.alloc ?_ _ | with_reducible refine Bel.drew ?_ | with_reducible refine Bel.drewN ?_ _ | with_reducible refine Bel.trans ?_ (by with_reducible assumption) | (simp; done) | (simp; omega) | refine Bel.alloc ?_ _ | refine Bel.drew ?_ | refine Bel.drewN ?_ _ | refine Bel.set ?_ ?_ _))⟩
set_option maxHeartbeats 2000000 in
theorem implFormat_8 (t : ByteArray) (n lo hi : Int)  : FmtC 9 (.mk 8 t n lo hi []) := by
  intro S w vs htab hv hsz
  have HT := hide htab
  have HV0 := hide hv
  obtain ⟨A, c, rfl, -, hts, hn, -, -, hR⟩ := TPattern.vals hv
  have HR := hide hR
  have HSZ := hide hsz
  have HN := hide hn
  have hlc := HR.out.1
  have hcm := HR.out.2.1
  simp only [List.length_map, List.length_cons, List.length_nil] at hlc
  unfold maxLen at hcm
  have hit := itoa_size hn
  clear hR hv hsz htab hn
  have HE : Hid ((TPattern.mk 8 t n lo hi []).fmt = (⟨#[78, 111, 116, 65, 110, 121]⟩ : ByteArray) ++ (⟨#[40]⟩ : ByteArray) ++ qt 39 (csT lo hi) ++ (⟨#[41]⟩ : ByteArray)) := by show _ = _; simp only [TPattern.fmt]; rw [if_pos ⟨by decide, by decide, rfl⟩, fmtB_8]
  have f3 : (((0 : Nat) : Int) != ((kidsN 8 : Nat) : Int)) = false := by decide
  have f3' : ((0 : Int) != ((kidsN 8 : Nat) : Int)) = false := by decide
  have hq := qt_size 39 (csT lo hi)
  have hq2 := csT_size lo hi
  have hqc : (qt 39 (csT lo hi)).size ≤ 600 := by omega
  have ga0 := run_addS (show ((⟨#[78, 111, 116, 65, 110, 121]⟩ : ByteArray)).size ≤ 6 by decide) (show ((⟨#[40]⟩ : ByteArray)).size ≤ 1 by decide) (by omega)
  have ga1 := run_addS (sz_app (show ((⟨#[78, 111, 116, 65, 110, 121]⟩ : ByteArray)).size ≤ 6 by decide) (show ((⟨#[40]⟩ : ByteArray)).size ≤ 1 by decide)) hqc (by omega)
  have ga2 := run_addS (sz_app (sz_app (show ((⟨#[78, 111, 116, 65, 110, 121]⟩ : ByteArray)).size ≤ 6 by decide) (show ((⟨#[40]⟩ : ByteArray)).size ≤ 1 by decide)) hqc) (show ((⟨#[41]⟩ : ByteArray)).size ≤ 1 by decide) (by omega)
  go_enter Tryd.func9, Tryd.ntmps9
  go_wp2_with (fail)
  go_quiet ((go_at_call 28; exact quiet_ws (patternKids_any _ _)))
  go_wp2_with ((go_at_call 29; refine (implFormatInt_any n _ HN.out (HT.out.on (by repeat' (first | with_reducible exact Bel.refl _ | with_reducible assumption | with_reducible refine Bel.set ?_ ?_ _ | with_reducible refine Bel.alloc ?_ _ | with_reducible refine Bel.drew ?_ | with_reducible refine Bel.drewN ?_ _ | with_reducible refine Bel.trans ?_ (by with_reducible assumption) | (simp; done) | (simp; omega) | refine Bel.alloc ?_ _ | refine Bel.drew ?_ | refine Bel.drewN ?_ _ | refine Bel.set ?_ ?_ _)))).mono ?_; rintro e w5 ⟨rfl, hb5⟩; (have hz5 := hb5.size; (try simp only [World.size_alloc, World.size_setCell, World.size_drew, World.heap_drewN] at hz5); have hk5_0 := hb5.box (w.heap.size) (by first | (simp; done) | (simp; omega) | omega); have hf5_0 := hb5.boxf (w.heap.size) (by first | (simp; done) | (simp; omega) | omega); have hl5_0 : w.heap.size < w5.heap.size := (by omega); have hn5_0 : ¬ w.heap.size = w5.heap.size := (by omega))))
  go_region_held3 (fun w' => w'.cell? ⟨w.heap.size, 0, none⟩ = some (.int .i64 8) ∧ w'.cell? ⟨w.heap.size, 3, none⟩ = some (.int .i64 lo) ∧ w'.cell? ⟨w.heap.size, 4, none⟩ = some (.int .i64 hi) ∧ w'.cell? ⟨w5.heap.size, 8, none⟩ = some (.string ⟨#[78, 111, 116, 65, 110, 121]⟩)) (go_keep) (first | (go_at_call 31; refine (implQuoteCset_any lo hi _).mono ?_; rintro e w7 ⟨rfl, hb7⟩; (have hz7 := hb7.size; (try simp only [World.size_alloc, World.size_setCell, World.size_drew, World.heap_drewN] at hz7); have hk7_0 := hb7.box (w.heap.size) (by first | (simp; done) | (simp; omega) | omega); have hf7_0 := hb7.boxf (w.heap.size) (by first | (simp; done) | (simp; omega) | omega); have hl7_0 : w.heap.size < w7.heap.size := (by omega); have hn7_0 : ¬ w.heap.size = w7.heap.size := (by omega); have hk7_1 := hb7.box (w5.heap.size) (by first | (simp; done) | (simp; omega) | omega); have hf7_1 := hb7.boxf (w5.heap.size) (by first | (simp; done) | (simp; omega) | omega); have hl7_1 : w5.heap.size < w7.heap.size := (by omega); have hn7_1 : ¬ w5.heap.size = w7.heap.size := (by omega))))
  all_goals (go_wp2_with (fail))
  all_goals
    go_returns
    exact ⟨ret_str (HE.out.trans (by first | rfl | (simp only [ByteArray.append_assoc]; rfl) | (simp only [ByteArray.append_assoc]; congr 1))).symm, (by repeat' (first | with_reducible exact Bel.refl _ | with_reducible assumption | with_reducible refine Bel.set ?_ ?_ _ | with_reducible refine Bel.alloc ?_ _ | with_reducible refine Bel.drew ?_ | with_reducible refine Bel.drewN ?_ _ | with_reducible refine Bel.trans ?_ (by with_reducible assumption) | (simp; done) | (simp; omega) | refine Bel.alloc ?_ _ | refine Bel.drew ?_ | refine Bel.drewN ?_ _ | refine Bel.set ?_ ?_ _))⟩
set_option maxHeartbeats 2000000 in
theorem implFormat_9 (t : ByteArray) (n lo hi : Int)  : FmtC 9 (.mk 9 t n lo hi []) := by
  intro S w vs htab hv hsz
  have HT := hide htab
  have HV0 := hide hv
  obtain ⟨A, c, rfl, -, hts, hn, -, -, hR⟩ := TPattern.vals hv
  have HR := hide hR
  have HSZ := hide hsz
  have HN := hide hn
  have hlc := HR.out.1
  have hcm := HR.out.2.1
  simp only [List.length_map, List.length_cons, List.length_nil] at hlc
  unfold maxLen at hcm
  have hit := itoa_size hn
  clear hR hv hsz htab hn
  have HE : Hid ((TPattern.mk 9 t n lo hi []).fmt = (⟨#[83, 112, 97, 110]⟩ : ByteArray) ++ (⟨#[40]⟩ : ByteArray) ++ qt 39 (csT lo hi) ++ (⟨#[41]⟩ : ByteArray)) := by show _ = _; simp only [TPattern.fmt]; rw [if_pos ⟨by decide, by decide, rfl⟩, fmtB_9]
  have f3 : (((0 : Nat) : Int) != ((kidsN 9 : Nat) : Int)) = false := by decide
  have f3' : ((0 : Int) != ((kidsN 9 : Nat) : Int)) = false := by decide
  have hq := qt_size 39 (csT lo hi)
  have hq2 := csT_size lo hi
  have hqc : (qt 39 (csT lo hi)).size ≤ 600 := by omega
  have ga0 := run_addS (show ((⟨#[83, 112, 97, 110]⟩ : ByteArray)).size ≤ 4 by decide) (show ((⟨#[40]⟩ : ByteArray)).size ≤ 1 by decide) (by omega)
  have ga1 := run_addS (sz_app (show ((⟨#[83, 112, 97, 110]⟩ : ByteArray)).size ≤ 4 by decide) (show ((⟨#[40]⟩ : ByteArray)).size ≤ 1 by decide)) hqc (by omega)
  have ga2 := run_addS (sz_app (sz_app (show ((⟨#[83, 112, 97, 110]⟩ : ByteArray)).size ≤ 4 by decide) (show ((⟨#[40]⟩ : ByteArray)).size ≤ 1 by decide)) hqc) (show ((⟨#[41]⟩ : ByteArray)).size ≤ 1 by decide) (by omega)
  go_enter Tryd.func9, Tryd.ntmps9
  go_wp2_with (fail)
  go_quiet ((go_at_call 28; exact quiet_ws (patternKids_any _ _)))
  go_wp2_with ((go_at_call 29; refine (implFormatInt_any n _ HN.out (HT.out.on (by repeat' (first | with_reducible exact Bel.refl _ | with_reducible assumption | with_reducible refine Bel.set ?_ ?_ _ | with_reducible refine Bel.alloc ?_ _ | with_reducible refine Bel.drew ?_ | with_reducible refine Bel.drewN ?_ _ | with_reducible refine Bel.trans ?_ (by with_reducible assumption) | (simp; done) | (simp; omega) | refine Bel.alloc ?_ _ | refine Bel.drew ?_ | refine Bel.drewN ?_ _ | refine Bel.set ?_ ?_ _)))).mono ?_; rintro e w5 ⟨rfl, hb5⟩; (have hz5 := hb5.size; (try simp only [World.size_alloc, World.size_setCell, World.size_drew, World.heap_drewN] at hz5); have hk5_0 := hb5.box (w.heap.size) (by first | (simp; done) | (simp; omega) | omega); have hf5_0 := hb5.boxf (w.heap.size) (by first | (simp; done) | (simp; omega) | omega); have hl5_0 : w.heap.size < w5.heap.size := (by omega); have hn5_0 : ¬ w.heap.size = w5.heap.size := (by omega))))
  go_region_held3 (fun w' => w'.cell? ⟨w.heap.size, 0, none⟩ = some (.int .i64 9) ∧ w'.cell? ⟨w.heap.size, 3, none⟩ = some (.int .i64 lo) ∧ w'.cell? ⟨w.heap.size, 4, none⟩ = some (.int .i64 hi) ∧ w'.cell? ⟨w5.heap.size, 9, none⟩ = some (.string ⟨#[83, 112, 97, 110]⟩)) (go_keep) (first | (go_at_call 31; refine (implQuoteCset_any lo hi _).mono ?_; rintro e w7 ⟨rfl, hb7⟩; (have hz7 := hb7.size; (try simp only [World.size_alloc, World.size_setCell, World.size_drew, World.heap_drewN] at hz7); have hk7_0 := hb7.box (w.heap.size) (by first | (simp; done) | (simp; omega) | omega); have hf7_0 := hb7.boxf (w.heap.size) (by first | (simp; done) | (simp; omega) | omega); have hl7_0 : w.heap.size < w7.heap.size := (by omega); have hn7_0 : ¬ w.heap.size = w7.heap.size := (by omega); have hk7_1 := hb7.box (w5.heap.size) (by first | (simp; done) | (simp; omega) | omega); have hf7_1 := hb7.boxf (w5.heap.size) (by first | (simp; done) | (simp; omega) | omega); have hl7_1 : w5.heap.size < w7.heap.size := (by omega); have hn7_1 : ¬ w5.heap.size = w7.heap.size := (by omega))))
  all_goals (go_wp2_with (fail))
  all_goals
    go_returns
    exact ⟨ret_str (HE.out.trans (by first | rfl | (simp only [ByteArray.append_assoc]; rfl) | (simp only [ByteArray.append_assoc]; congr 1))).symm, (by repeat' (first | with_reducible exact Bel.refl _ | with_reducible assumption | with_reducible refine Bel.set ?_ ?_ _ | with_reducible refine Bel.alloc ?_ _ | with_reducible refine Bel.drew ?_ | with_reducible refine Bel.drewN ?_ _ | with_reducible refine Bel.trans ?_ (by with_reducible assumption) | (simp; done) | (simp; omega) | refine Bel.alloc ?_ _ | refine Bel.drew ?_ | refine Bel.drewN ?_ _ | refine Bel.set ?_ ?_ _))⟩
set_option maxHeartbeats 2000000 in
theorem implFormat_10 (t : ByteArray) (n lo hi : Int)  : FmtC 9 (.mk 10 t n lo hi []) := by
  intro S w vs htab hv hsz
  have HT := hide htab
  have HV0 := hide hv
  obtain ⟨A, c, rfl, -, hts, hn, -, -, hR⟩ := TPattern.vals hv
  have HR := hide hR
  have HSZ := hide hsz
  have HN := hide hn
  have hlc := HR.out.1
  have hcm := HR.out.2.1
  simp only [List.length_map, List.length_cons, List.length_nil] at hlc
  unfold maxLen at hcm
  have hit := itoa_size hn
  clear hR hv hsz htab hn
  have HE : Hid ((TPattern.mk 10 t n lo hi []).fmt = (⟨#[66, 114, 101, 97, 107]⟩ : ByteArray) ++ (⟨#[40]⟩ : ByteArray) ++ qt 39 (csT lo hi) ++ (⟨#[41]⟩ : ByteArray)) := by show _ = _; simp only [TPattern.fmt]; rw [if_pos ⟨by decide, by decide, rfl⟩, fmtB_10]
  have f3 : (((0 : Nat) : Int) != ((kidsN 10 : Nat) : Int)) = false := by decide
  have f3' : ((0 : Int) != ((kidsN 10 : Nat) : Int)) = false := by decide
  have hq := qt_size 39 (csT lo hi)
  have hq2 := csT_size lo hi
  have hqc : (qt 39 (csT lo hi)).size ≤ 600 := by omega
  have ga0 := run_addS (show ((⟨#[66, 114, 101, 97, 107]⟩ : ByteArray)).size ≤ 5 by decide) (show ((⟨#[40]⟩ : ByteArray)).size ≤ 1 by decide) (by omega)
  have ga1 := run_addS (sz_app (show ((⟨#[66, 114, 101, 97, 107]⟩ : ByteArray)).size ≤ 5 by decide) (show ((⟨#[40]⟩ : ByteArray)).size ≤ 1 by decide)) hqc (by omega)
  have ga2 := run_addS (sz_app (sz_app (show ((⟨#[66, 114, 101, 97, 107]⟩ : ByteArray)).size ≤ 5 by decide) (show ((⟨#[40]⟩ : ByteArray)).size ≤ 1 by decide)) hqc) (show ((⟨#[41]⟩ : ByteArray)).size ≤ 1 by decide) (by omega)
  go_enter Tryd.func9, Tryd.ntmps9
  go_wp2_with (fail)
  go_quiet ((go_at_call 28; exact quiet_ws (patternKids_any _ _)))
  go_wp2_with ((go_at_call 29; refine (implFormatInt_any n _ HN.out (HT.out.on (by repeat' (first | with_reducible exact Bel.refl _ | with_reducible assumption | with_reducible refine Bel.set ?_ ?_ _ | with_reducible refine Bel.alloc ?_ _ | with_reducible refine Bel.drew ?_ | with_reducible refine Bel.drewN ?_ _ | with_reducible refine Bel.trans ?_ (by with_reducible assumption) | (simp; done) | (simp; omega) | refine Bel.alloc ?_ _ | refine Bel.drew ?_ | refine Bel.drewN ?_ _ | refine Bel.set ?_ ?_ _)))).mono ?_; rintro e w5 ⟨rfl, hb5⟩; (have hz5 := hb5.size; (try simp only [World.size_alloc, World.size_setCell, World.size_drew, World.heap_drewN] at hz5); have hk5_0 := hb5.box (w.heap.size) (by first | (simp; done) | (simp; omega) | omega); have hf5_0 := hb5.boxf (w.heap.size) (by first | (simp; done) | (simp; omega) | omega); have hl5_0 : w.heap.size < w5.heap.size := (by omega); have hn5_0 : ¬ w.heap.size = w5.heap.size := (by omega))))
  go_region_held3 (fun w' => w'.cell? ⟨w.heap.size, 0, none⟩ = some (.int .i64 10) ∧ w'.cell? ⟨w.heap.size, 3, none⟩ = some (.int .i64 lo) ∧ w'.cell? ⟨w.heap.size, 4, none⟩ = some (.int .i64 hi) ∧ w'.cell? ⟨w5.heap.size, 10, none⟩ = some (.string ⟨#[66, 114, 101, 97, 107]⟩)) (go_keep) (first | (go_at_call 31; refine (implQuoteCset_any lo hi _).mono ?_; rintro e w7 ⟨rfl, hb7⟩; (have hz7 := hb7.size; (try simp only [World.size_alloc, World.size_setCell, World.size_drew, World.heap_drewN] at hz7); have hk7_0 := hb7.box (w.heap.size) (by first | (simp; done) | (simp; omega) | omega); have hf7_0 := hb7.boxf (w.heap.size) (by first | (simp; done) | (simp; omega) | omega); have hl7_0 : w.heap.size < w7.heap.size := (by omega); have hn7_0 : ¬ w.heap.size = w7.heap.size := (by omega); have hk7_1 := hb7.box (w5.heap.size) (by first | (simp; done) | (simp; omega) | omega); have hf7_1 := hb7.boxf (w5.heap.size) (by first | (simp; done) | (simp; omega) | omega); have hl7_1 : w5.heap.size < w7.heap.size := (by omega); have hn7_1 : ¬ w5.heap.size = w7.heap.size := (by omega))))
  all_goals (go_wp2_with (fail))
  all_goals
    go_returns
    exact ⟨ret_str (HE.out.trans (by first | rfl | (simp only [ByteArray.append_assoc]; rfl) | (simp only [ByteArray.append_assoc]; congr 1))).symm, (by repeat' (first | with_reducible exact Bel.refl _ | with_reducible assumption | with_reducible refine Bel.set ?_ ?_ _ | with_reducible refine Bel.alloc ?_ _ | with_reducible refine Bel.drew ?_ | with_reducible refine Bel.drewN ?_ _ | with_reducible refine Bel.trans ?_ (by with_reducible assumption) | (simp; done) | (simp; omega) | refine Bel.alloc ?_ _ | refine Bel.drew ?_ | refine Bel.drewN ?_ _ | refine Bel.set ?_ ?_ _))⟩
set_option maxHeartbeats 2000000 in
theorem implFormat_11 (t : ByteArray) (n lo hi : Int)  : FmtC 9 (.mk 11 t n lo hi []) := by
  intro S w vs htab hv hsz
  have HT := hide htab
  have HV0 := hide hv
  obtain ⟨A, c, rfl, -, hts, hn, -, -, hR⟩ := TPattern.vals hv
  have HR := hide hR
  have HSZ := hide hsz
  have HN := hide hn
  have hlc := HR.out.1
  have hcm := HR.out.2.1
  simp only [List.length_map, List.length_cons, List.length_nil] at hlc
  unfold maxLen at hcm
  have hit := itoa_size hn
  clear hR hv hsz htab hn
  have HE : Hid ((TPattern.mk 11 t n lo hi []).fmt = (⟨#[65, 114, 98]⟩ : ByteArray) ++ (⟨#[40, 41]⟩ : ByteArray)) := by show _ = _; simp only [TPattern.fmt]; rw [if_pos ⟨by decide, by decide, rfl⟩, fmtB_11]
  have f3 : (((0 : Nat) : Int) != ((kidsN 11 : Nat) : Int)) = false := by decide
  have f3' : ((0 : Int) != ((kidsN 11 : Nat) : Int)) = false := by decide
  go_enter Tryd.func9, Tryd.ntmps9
  go_wp2_with (fail)
  go_quiet ((go_at_call 28; exact quiet_ws (patternKids_any _ _)))
  go_wp2_with ((go_at_call 29; refine (implFormatInt_any n _ HN.out (HT.out.on (by repeat' (first | with_reducible exact Bel.refl _ | with_reducible assumption | with_reducible refine Bel.set ?_ ?_ _ | with_reducible refine Bel.alloc ?_ _ | with_reducible refine Bel.drew ?_ | with_reducible refine Bel.drewN ?_ _ | with_reducible refine Bel.trans ?_ (by with_reducible assumption) | (simp; done) | (simp; omega) | refine Bel.alloc ?_ _ | refine Bel.drew ?_ | refine Bel.drewN ?_ _ | refine Bel.set ?_ ?_ _)))).mono ?_; rintro e w5 ⟨rfl, hb5⟩; (have hz5 := hb5.size; (try simp only [World.size_alloc, World.size_setCell, World.size_drew, World.heap_drewN] at hz5); have hk5_0 := hb5.box (w.heap.size) (by first | (simp; done) | (simp; omega) | omega); have hf5_0 := hb5.boxf (w.heap.size) (by first | (simp; done) | (simp; omega) | omega); have hl5_0 : w.heap.size < w5.heap.size := (by omega); have hn5_0 : ¬ w.heap.size = w5.heap.size := (by omega))))
  all_goals
    go_returns
    exact ⟨ret_str (HE.out.trans (by first | rfl | (simp only [ByteArray.append_assoc]; rfl) | (simp only [ByteArray.append_assoc]; congr 1))).symm, (by repeat' (first | with_reducible exact Bel.refl _ | with_reducible assumption | with_reducible refine Bel.set ?_ ?_ _ | with_reducible refine Bel.alloc ?_ _ | with_reducible refine Bel.drew ?_ | with_reducible refine Bel.drewN ?_ _ | with_reducible refine Bel.trans ?_ (by with_reducible assumption) | (simp; done) | (simp; omega) | refine Bel.alloc ?_ _ | refine Bel.drew ?_ | refine Bel.drewN ?_ _ | refine Bel.set ?_ ?_ _))⟩
set_option maxHeartbeats 2000000 in
theorem implFormat_12 (t : ByteArray) (n lo hi : Int)  : FmtC 9 (.mk 12 t n lo hi []) := by
  intro S w vs htab hv hsz
  have HT := hide htab
  have HV0 := hide hv
  obtain ⟨A, c, rfl, -, hts, hn, -, -, hR⟩ := TPattern.vals hv
  have HR := hide hR
  have HSZ := hide hsz
  have HN := hide hn
  have hlc := HR.out.1
  have hcm := HR.out.2.1
  simp only [List.length_map, List.length_cons, List.length_nil] at hlc
  unfold maxLen at hcm
  have hit := itoa_size hn
  clear hR hv hsz htab hn
  have HE : Hid ((TPattern.mk 12 t n lo hi []).fmt = (⟨#[82, 101, 109]⟩ : ByteArray) ++ (⟨#[40, 41]⟩ : ByteArray)) := by show _ = _; simp only [TPattern.fmt]; rw [if_pos ⟨by decide, by decide, rfl⟩, fmtB_12]
  have f3 : (((0 : Nat) : Int) != ((kidsN 12 : Nat) : Int)) = false := by decide
  have f3' : ((0 : Int) != ((kidsN 12 : Nat) : Int)) = false := by decide
  go_enter Tryd.func9, Tryd.ntmps9
  go_wp2_with (fail)
  go_quiet ((go_at_call 28; exact quiet_ws (patternKids_any _ _)))
  go_wp2_with ((go_at_call 29; refine (implFormatInt_any n _ HN.out (HT.out.on (by repeat' (first | with_reducible exact Bel.refl _ | with_reducible assumption | with_reducible refine Bel.set ?_ ?_ _ | with_reducible refine Bel.alloc ?_ _ | with_reducible refine Bel.drew ?_ | with_reducible refine Bel.drewN ?_ _ | with_reducible refine Bel.trans ?_ (by with_reducible assumption) | (simp; done) | (simp; omega) | refine Bel.alloc ?_ _ | refine Bel.drew ?_ | refine Bel.drewN ?_ _ | refine Bel.set ?_ ?_ _)))).mono ?_; rintro e w5 ⟨rfl, hb5⟩; (have hz5 := hb5.size; (try simp only [World.size_alloc, World.size_setCell, World.size_drew, World.heap_drewN] at hz5); have hk5_0 := hb5.box (w.heap.size) (by first | (simp; done) | (simp; omega) | omega); have hf5_0 := hb5.boxf (w.heap.size) (by first | (simp; done) | (simp; omega) | omega); have hl5_0 : w.heap.size < w5.heap.size := (by omega); have hn5_0 : ¬ w.heap.size = w5.heap.size := (by omega))))
  all_goals
    go_returns
    exact ⟨ret_str (HE.out.trans (by first | rfl | (simp only [ByteArray.append_assoc]; rfl) | (simp only [ByteArray.append_assoc]; congr 1))).symm, (by repeat' (first | with_reducible exact Bel.refl _ | with_reducible assumption | with_reducible refine Bel.set ?_ ?_ _ | with_reducible refine Bel.alloc ?_ _ | with_reducible refine Bel.drew ?_ | with_reducible refine Bel.drewN ?_ _ | with_reducible refine Bel.trans ?_ (by with_reducible assumption) | (simp; done) | (simp; omega) | refine Bel.alloc ?_ _ | refine Bel.drew ?_ | refine Bel.drewN ?_ _ | refine Bel.set ?_ ?_ _))⟩
set_option maxHeartbeats 2000000 in
theorem implFormat_13 (t : ByteArray) (n lo hi : Int) (a : TPattern) (IHa : FmtC 9 a) : FmtC 9 (.mk 13 t n lo hi [a]) := by
  intro S w vs htab hv hsz
  have HT := hide htab
  have HV0 := hide hv
  obtain ⟨A, c, rfl, -, hts, hn, -, -, hR⟩ := TPattern.vals hv
  have HR := hide hR
  have HSZ := hide hsz
  have HN := hide hn
  have hlc := HR.out.1
  have hcm := HR.out.2.1
  simp only [List.length_map, List.length_cons, List.length_nil] at hlc
  unfold maxLen at hcm
  have hit := itoa_size hn
  clear hR hv hsz htab hn
  have HE : Hid ((TPattern.mk 13 t n lo hi [a]).fmt = (⟨#[65, 114, 98, 110, 111]⟩ : ByteArray) ++ (⟨#[40]⟩ : ByteArray) ++ a.fmt ++ (⟨#[41]⟩ : ByteArray)) := by show _ = _; simp only [TPattern.fmt]; rw [if_pos ⟨by decide, by decide, rfl⟩, fmtB_13]; rfl
  have f3 : (((1 : Nat) : Int) != ((kidsN 13 : Nat) : Int)) = false := by decide
  have f3' : ((1 : Int) != ((kidsN 13 : Nat) : Int)) = false := by decide
  have HA := hide IHa
  clear IHa
  have hbw : Bel w w := Bel.refl w
  (obtain ⟨b1, o1, x1_0, x1_1, x1_2, x1_3, x1_4, x1_5, A1_5, C1_5, hA1, hS1, hl1, hx1, hv1, g1_0, g1_1, g1_2, g1_3, g1_4, g1_5, c1_0, c1_1, c1_2, c1_3, c1_4, c1_5⟩ := TPattern.at HR.out 0 (by simp); subst hA1; have HV1 := hide (Dat.HoldVals.bel hbw hv1); have hh1 := hbw.box b1 hl1; have hw1 := Nat.lt_of_lt_of_le hl1 (Bel.size hbw); replace c1_0 := (hh1 _).trans c1_0; replace c1_1 := (hh1 _).trans c1_1; replace c1_2 := (hh1 _).trans c1_2; replace c1_3 := (hh1 _).trans c1_3; replace c1_4 := (hh1 _).trans c1_4; replace c1_5 := (hh1 _).trans c1_5; have HX1 := hide hx1; have GR1_5 := hide g1_5; clear hh1 hv1 hx1 hS1 g1_5; simp only [Nat.zero_mul, Nat.one_mul, Nat.add_zero, Nat.reduceMul, Nat.add_assoc, Nat.reduceAdd] at c1_0 c1_1 c1_2 c1_3 c1_4 c1_5)
  have HVa : Hid (Dat.HoldVals w S a.D _) := HV1
  have HSa : Hid (600 * a.cnt + 4 * Dat.wtL a.D ≤ 1000000000) := by show _ ≤ _; have := HSZ.out; rw [TPattern.D_mk] at this; simp only [TPattern.cnt, TPattern.cnts, Dat.wtL, Dat.wt, Dat.wtR, List.map_cons, List.map_nil] at this; omega
  have hza : a.fmt.size ≤ 1000000000 := Nat.le_trans (TPattern.fmt_size a _ HVa.out) HSa.out
  clear HV1 hbw
  have hne : ¬ b1 = w.heap.size := by omega
  have hne2 : ¬ b1 = w.heap.size + 1 := by omega
  have ga0 := run_addS (show ((⟨#[65, 114, 98, 110, 111, 40]⟩ : ByteArray)).size ≤ 6 by decide) hza (by omega)
  have ga1 := run_addS (sz_app (show ((⟨#[65, 114, 98, 110, 111, 40]⟩ : ByteArray)).size ≤ 6 by decide) hza) (show ((⟨#[41]⟩ : ByteArray)).size ≤ 1 by decide) (by omega)
  go_enter Tryd.func9, Tryd.ntmps9
  go_wp2_with (fail)
  go_quiet ((go_at_call 28; exact quiet_ws (patternKids_any _ _)))
  go_wp2_with (first | (go_at_call 29; refine (implFormatInt_any n _ HN.out (HT.out.on (by repeat' (first | with_reducible exact Bel.refl _ | with_reducible assumption | with_reducible refine Bel.set ?_ ?_ _ | with_reducible refine Bel.alloc ?_ _ | with_reducible refine Bel.drew ?_ | with_reducible refine Bel.drewN ?_ _ | with_reducible refine Bel.trans ?_ (by with_reducible assumption) | (simp; done) | (simp; omega) | refine Bel.alloc ?_ _ | refine Bel.drew ?_ | refine Bel.drewN ?_ _ | refine Bel.set ?_ ?_ _)))).mono ?_; rintro e w5 ⟨rfl, hb5⟩; (have hz5 := hb5.size; (try simp only [World.size_alloc, World.size_setCell, World.size_drew, World.heap_drewN] at hz5); have hk5_0 := hb5.box (w.heap.size) (by first | (simp; done) | (simp; omega) | omega); have hf5_0 := hb5.boxf (w.heap.size) (by first | (simp; done) | (simp; omega) | omega); have hl5_0 : w.heap.size < w5.heap.size := (by omega); have hn5_0 : ¬ w.heap.size = w5.heap.size := (by omega); have hk5_1 := hb5.box (b1) (by first | (simp; done) | (simp; omega) | omega); have hf5_1 := hb5.boxf (b1) (by first | (simp; done) | (simp; omega) | omega); have hl5_1 : b1 < w5.heap.size := (by omega); have hn5_1 : ¬ b1 = w5.heap.size := (by omega))) | (go_at_call 9; (with_reducible refine (HA.out S _ _ (HT.out.on (by repeat' (first | with_reducible exact Bel.refl _ | with_reducible assumption | with_reducible refine Bel.set ?_ ?_ _ | with_reducible refine Bel.alloc ?_ _ | with_reducible refine Bel.drew ?_ | with_reducible refine Bel.drewN ?_ _ | with_reducible refine Bel.trans ?_ (by with_reducible assumption) | (simp; done) | (simp; omega) | refine Bel.alloc ?_ _ | refine Bel.drew ?_ | refine Bel.drewN ?_ _ | refine Bel.set ?_ ?_ _))) (Dat.HoldVals.bel (by repeat' (first | with_reducible exact Bel.refl _ | with_reducible assumption | with_reducible refine Bel.set ?_ ?_ _ | with_reducible refine Bel.alloc ?_ _ | with_reducible refine Bel.drew ?_ | with_reducible refine Bel.drewN ?_ _ | with_reducible refine Bel.trans ?_ (by with_reducible assumption) | (simp; done) | (simp; omega) | refine Bel.alloc ?_ _ | refine Bel.drew ?_ | refine Bel.drewN ?_ _ | refine Bel.set ?_ ?_ _)) HVa.out) HSa.out).mono ?_); rintro e w3 ⟨rfl, hb3⟩; (have hz3 := hb3.size; (try simp only [World.size_alloc, World.size_setCell, World.size_drew, World.heap_drewN] at hz3); have hk3_0 := hb3.box (w.heap.size) (by first | (simp; done) | (simp; omega) | omega); have hf3_0 := hb3.boxf (w.heap.size) (by first | (simp; done) | (simp; omega) | omega); have hl3_0 : w.heap.size < w3.heap.size := (by omega); have hn3_0 : ¬ w.heap.size = w3.heap.size := (by omega); have hk3_1 := hb3.box (b1) (by first | (simp; done) | (simp; omega) | omega); have hf3_1 := hb3.boxf (b1) (by first | (simp; done) | (simp; omega) | omega); have hl3_1 : b1 < w3.heap.size := (by omega); have hn3_1 : ¬ b1 = w3.heap.size := (by omega))))
  all_goals
    go_returns
    exact ⟨ret_str (HE.out.trans (by first | rfl | (simp only [ByteArray.append_assoc]; rfl) | (simp only [ByteArray.append_assoc]; congr 1))).symm, (by repeat' (first | with_reducible exact Bel.refl _ | with_reducible assumption | with_reducible refine Bel.set ?_ ?_ _ | with_reducible refine Bel.alloc ?_ _ | with_reducible refine Bel.drew ?_ | with_reducible refine Bel.drewN ?_ _ | with_reducible refine Bel.trans ?_ (by with_reducible assumption) | (simp; done) | (simp; omega) | refine Bel.alloc ?_ _ | refine Bel.drew ?_ | refine Bel.drewN ?_ _ | refine Bel.set ?_ ?_ _))⟩
set_option maxHeartbeats 2000000 in
theorem implFormat_14 (t : ByteArray) (n lo hi : Int) (a b : TPattern) (IHa : FmtC 9 a) (IHb : FmtC 9 b) : FmtC 9 (.mk 14 t n lo hi [a, b]) := by
  intro S w vs htab hv hsz
  have HT := hide htab
  have HV0 := hide hv
  obtain ⟨A, c, rfl, -, hts, hn, -, -, hR⟩ := TPattern.vals hv
  have HR := hide hR
  have HSZ := hide hsz
  have HN := hide hn
  have hlc := HR.out.1
  have hcm := HR.out.2.1
  simp only [List.length_map, List.length_cons, List.length_nil] at hlc
  unfold maxLen at hcm
  have hit := itoa_size hn
  clear hR hv hsz htab hn
  have HE : Hid ((TPattern.mk 14 t n lo hi [a, b]).fmt = (⟨#[40]⟩ : ByteArray) ++ a.fmt ++ (⟨#[32, 124, 124, 32]⟩ : ByteArray) ++ b.fmt ++ (⟨#[41]⟩ : ByteArray)) := by show _ = _; simp only [TPattern.fmt]; rw [if_pos ⟨by decide, by decide, rfl⟩, fmtB_14]; rfl
  have f3 : (((2 : Nat) : Int) != ((kidsN 14 : Nat) : Int)) = false := by decide
  have f3' : ((2 : Int) != ((kidsN 14 : Nat) : Int)) = false := by decide
  have HA := hide IHa
  have HB := hide IHb
  clear IHa IHb
  have hbw : Bel w w := Bel.refl w
  (obtain ⟨b1, o1, x1_0, x1_1, x1_2, x1_3, x1_4, x1_5, A1_5, C1_5, hA1, hS1, hl1, hx1, hv1, g1_0, g1_1, g1_2, g1_3, g1_4, g1_5, c1_0, c1_1, c1_2, c1_3, c1_4, c1_5⟩ := TPattern.at HR.out 0 (by simp); subst hA1; have HV1 := hide (Dat.HoldVals.bel hbw hv1); have hh1 := hbw.box b1 hl1; have hw1 := Nat.lt_of_lt_of_le hl1 (Bel.size hbw); replace c1_0 := (hh1 _).trans c1_0; replace c1_1 := (hh1 _).trans c1_1; replace c1_2 := (hh1 _).trans c1_2; replace c1_3 := (hh1 _).trans c1_3; replace c1_4 := (hh1 _).trans c1_4; replace c1_5 := (hh1 _).trans c1_5; have HX1 := hide hx1; have GR1_5 := hide g1_5; clear hh1 hv1 hx1 hS1 g1_5; simp only [Nat.zero_mul, Nat.one_mul, Nat.add_zero, Nat.reduceMul, Nat.add_assoc, Nat.reduceAdd] at c1_0 c1_1 c1_2 c1_3 c1_4 c1_5)
  (obtain ⟨b2, o2, x2_0, x2_1, x2_2, x2_3, x2_4, x2_5, A2_5, C2_5, hA2, hS2, hl2, hx2, hv2, g2_0, g2_1, g2_2, g2_3, g2_4, g2_5, c2_0, c2_1, c2_2, c2_3, c2_4, c2_5⟩ := TPattern.at HR.out 1 (by simp); injection Option.some.inj hA2 with qb2 qo2 _; subst qb2 qo2; have HV2 := hide (Dat.HoldVals.bel hbw hv2); have hh2 := hbw.box b1 hl2; have hw2 := Nat.lt_of_lt_of_le hl2 (Bel.size hbw); replace c2_0 := (hh2 _).trans c2_0; replace c2_1 := (hh2 _).trans c2_1; replace c2_2 := (hh2 _).trans c2_2; replace c2_3 := (hh2 _).trans c2_3; replace c2_4 := (hh2 _).trans c2_4; replace c2_5 := (hh2 _).trans c2_5; have HX2 := hide hx2; have GR2_5 := hide g2_5; clear hh2 hv2 hx2 hS2 g2_5; simp only [Nat.zero_mul, Nat.one_mul, Nat.add_zero, Nat.reduceMul, Nat.add_assoc, Nat.reduceAdd] at c2_0 c2_1 c2_2 c2_3 c2_4 c2_5)
  have HVa : Hid (Dat.HoldVals w S a.D _) := HV1
  have HVb : Hid (Dat.HoldVals w S b.D _) := HV2
  have HSa : Hid (600 * a.cnt + 4 * Dat.wtL a.D ≤ 1000000000) := by show _ ≤ _; have := HSZ.out; rw [TPattern.D_mk] at this; simp only [TPattern.cnt, TPattern.cnts, Dat.wtL, Dat.wt, Dat.wtR, List.map_cons, List.map_nil] at this; omega
  have hza : a.fmt.size ≤ 1000000000 := Nat.le_trans (TPattern.fmt_size a _ HVa.out) HSa.out
  have HSb : Hid (600 * b.cnt + 4 * Dat.wtL b.D ≤ 1000000000) := by show _ ≤ _; have := HSZ.out; rw [TPattern.D_mk] at this; simp only [TPattern.cnt, TPattern.cnts, Dat.wtL, Dat.wt, Dat.wtR, List.map_cons, List.map_nil] at this; omega
  have hzb : b.fmt.size ≤ 1000000000 := Nat.le_trans (TPattern.fmt_size b _ HVb.out) HSb.out
  clear HV1 HV2 hbw
  have hne : ¬ b1 = w.heap.size := by omega
  have hne2 : ¬ b1 = w.heap.size + 1 := by omega
  have ga0 := run_addS (show ((⟨#[40]⟩ : ByteArray)).size ≤ 1 by decide) hza (by omega)
  have ga1 := run_addS (sz_app (show ((⟨#[40]⟩ : ByteArray)).size ≤ 1 by decide) hza) (show ((⟨#[32, 124, 124, 32]⟩ : ByteArray)).size ≤ 4 by decide) (by omega)
  have ga2 := run_addS (sz_app (sz_app (show ((⟨#[40]⟩ : ByteArray)).size ≤ 1 by decide) hza) (show ((⟨#[32, 124, 124, 32]⟩ : ByteArray)).size ≤ 4 by decide)) hzb (by omega)
  have ga3 := run_addS (sz_app (sz_app (sz_app (show ((⟨#[40]⟩ : ByteArray)).size ≤ 1 by decide) hza) (show ((⟨#[32, 124, 124, 32]⟩ : ByteArray)).size ≤ 4 by decide)) hzb) (show ((⟨#[41]⟩ : ByteArray)).size ≤ 1 by decide) (by omega)
  go_enter Tryd.func9, Tryd.ntmps9
  go_wp2_with (fail)
  go_quiet ((go_at_call 28; exact quiet_ws (patternKids_any _ _)))
  go_wp2_with ((go_at_call 29; refine (implFormatInt_any n _ HN.out (HT.out.on (by repeat' (first | with_reducible exact Bel.refl _ | with_reducible assumption | with_reducible refine Bel.set ?_ ?_ _ | with_reducible refine Bel.alloc ?_ _ | with_reducible refine Bel.drew ?_ | with_reducible refine Bel.drewN ?_ _ | with_reducible refine Bel.trans ?_ (by with_reducible assumption) | (simp; done) | (simp; omega) | refine Bel.alloc ?_ _ | refine Bel.drew ?_ | refine Bel.drewN ?_ _ | refine Bel.set ?_ ?_ _)))).mono ?_; rintro e w5 ⟨rfl, hb5⟩; (have hz5 := hb5.size; (try simp only [World.size_alloc, World.size_setCell, World.size_drew, World.heap_drewN] at hz5); have hk5_0 := hb5.box (w.heap.size) (by first | (simp; done) | (simp; omega) | omega); have hf5_0 := hb5.boxf (w.heap.size) (by first | (simp; done) | (simp; omega) | omega); have hl5_0 : w.heap.size < w5.heap.size := (by omega); have hn5_0 : ¬ w.heap.size = w5.heap.size := (by omega); have hk5_1 := hb5.box (b1) (by first | (simp; done) | (simp; omega) | omega); have hf5_1 := hb5.boxf (b1) (by first | (simp; done) | (simp; omega) | omega); have hl5_1 : b1 < w5.heap.size := (by omega); have hn5_1 : ¬ b1 = w5.heap.size := (by omega))))
  go_region_held3 (fun w' => w'.cell? ⟨w.heap.size, 5, none⟩ = some (.slice (some ⟨b1, o1, none⟩) [a, b].length c) ∧ w'.cell? ⟨b1, o1, none⟩ = some (.int .i64 x1_0) ∧ w'.cell? ⟨b1, o1 + 1, none⟩ = some (.string x1_1) ∧ w'.cell? ⟨b1, o1 + 2, none⟩ = some (.int .i64 x1_2) ∧ w'.cell? ⟨b1, o1 + 3, none⟩ = some (.int .i64 x1_3) ∧ w'.cell? ⟨b1, o1 + 4, none⟩ = some (.int .i64 x1_4) ∧ w'.cell? ⟨b1, o1 + 5, none⟩ = some (.slice A1_5 x1_5.length C1_5) ∧ w'.cell? ⟨b1, o1 + 6, none⟩ = some (.int .i64 x2_0) ∧ w'.cell? ⟨b1, o1 + 7, none⟩ = some (.string x2_1) ∧ w'.cell? ⟨b1, o1 + 8, none⟩ = some (.int .i64 x2_2) ∧ w'.cell? ⟨b1, o1 + 9, none⟩ = some (.int .i64 x2_3) ∧ w'.cell? ⟨b1, o1 + 10, none⟩ = some (.int .i64 x2_4) ∧ w'.cell? ⟨b1, o1 + 11, none⟩ = some (.slice A2_5 x2_5.length C2_5)) (go_keep) (first | (go_at_call 9; (with_reducible refine (HA.out S _ _ (HT.out.on (by repeat' (first | with_reducible exact Bel.refl _ | with_reducible assumption | with_reducible refine Bel.set ?_ ?_ _ | with_reducible refine Bel.alloc ?_ _ | with_reducible refine Bel.drew ?_ | with_reducible refine Bel.drewN ?_ _ | with_reducible refine Bel.trans ?_ (by with_reducible assumption) | (simp; done) | (simp; omega) | refine Bel.alloc ?_ _ | refine Bel.drew ?_ | refine Bel.drewN ?_ _ | refine Bel.set ?_ ?_ _))) (Dat.HoldVals.bel (by repeat' (first | with_reducible exact Bel.refl _ | with_reducible assumption | with_reducible refine Bel.set ?_ ?_ _ | with_reducible refine Bel.alloc ?_ _ | with_reducible refine Bel.drew ?_ | with_reducible refine Bel.drewN ?_ _ | with_reducible refine Bel.trans ?_ (by with_reducible assumption) | (simp; done) | (simp; omega) | refine Bel.alloc ?_ _ | refine Bel.drew ?_ | refine Bel.drewN ?_ _ | refine Bel.set ?_ ?_ _)) HVa.out) HSa.out).mono ?_); rintro e w3 ⟨rfl, hb3⟩; (have hz3 := hb3.size; (try simp only [World.size_alloc, World.size_setCell, World.size_drew, World.heap_drewN] at hz3); have hk3_0 := hb3.box (w.heap.size) (by first | (simp; done) | (simp; omega) | omega); have hf3_0 := hb3.boxf (w.heap.size) (by first | (simp; done) | (simp; omega) | omega); have hl3_0 : w.heap.size < w3.heap.size := (by omega); have hn3_0 : ¬ w.heap.size = w3.heap.size := (by omega); have hk3_1 := hb3.box (b1) (by first | (simp; done) | (simp; omega) | omega); have hf3_1 := hb3.boxf (b1) (by first | (simp; done) | (simp; omega) | omega); have hl3_1 : b1 < w3.heap.size := (by omega); have hn3_1 : ¬ b1 = w3.heap.size := (by omega))) | (go_at_call 9; (with_reducible refine (HB.out S _ _ (HT.out.on (by repeat' (first | with_reducible exact Bel.refl _ | with_reducible assumption | with_reducible refine Bel.set ?_ ?_ _ | with_reducible refine Bel.alloc ?_ _ | with_reducible refine Bel.drew ?_ | with_reducible refine Bel.drewN ?_ _ | with_reducible refine Bel.trans ?_ (by with_reducible assumption) | (simp; done) | (simp; omega) | refine Bel.alloc ?_ _ | refine Bel.drew ?_ | refine Bel.drewN ?_ _ | refine Bel.set ?_ ?_ _))) (Dat.HoldVals.bel (by repeat' (first | with_reducible exact Bel.refl _ | with_reducible assumption | with_reducible refine Bel.set ?_ ?_ _ | with_reducible refine Bel.alloc ?_ _ | with_reducible refine Bel.drew ?_ | with_reducible refine Bel.drewN ?_ _ | with_reducible refine Bel.trans ?_ (by with_reducible assumption) | (simp; done) | (simp; omega) | refine Bel.alloc ?_ _ | refine Bel.drew ?_ | refine Bel.drewN ?_ _ | refine Bel.set ?_ ?_ _)) HVb.out) HSb.out).mono ?_); rintro e w4 ⟨rfl, hb4⟩; (have hz4 := hb4.size; (try simp only [World.size_alloc, World.size_setCell, World.size_drew, World.heap_drewN] at hz4); have hk4_0 := hb4.box (w.heap.size) (by first | (simp; done) | (simp; omega) | omega); have hf4_0 := hb4.boxf (w.heap.size) (by first | (simp; done) | (simp; omega) | omega); have hl4_0 : w.heap.size < w4.heap.size := (by omega); have hn4_0 : ¬ w.heap.size = w4.heap.size := (by omega); have hk4_1 := hb4.box (b1) (by first | (simp; done) | (simp; omega) | omega); have hf4_1 := hb4.boxf (b1) (by first | (simp; done) | (simp; omega) | omega); have hl4_1 : b1 < w4.heap.size := (by omega); have hn4_1 : ¬ b1 = w4.heap.size := (by omega))))
  all_goals (go_wp2_with (fail))
  all_goals
    go_returns
    exact ⟨ret_str (HE.out.trans (by first | rfl | (simp only [ByteArray.append_assoc]; rfl) | (simp only [ByteArray.append_assoc]; congr 1))).symm, (by repeat' (first | with_reducible exact Bel.refl _ | with_reducible assumption | with_reducible refine Bel.set ?_ ?_ _ | with_reducible refine Bel.alloc ?_ _ | with_reducible refine Bel.drew ?_ | with_reducible refine Bel.drewN ?_ _ | with_reducible refine Bel.trans ?_ (by with_reducible assumption) | (simp; done) | (simp; omega) | refine Bel.alloc ?_ _ | refine Bel.drew ?_ | refine Bel.drewN ?_ _ | refine Bel.set ?_ ?_ _))⟩
set_option maxHeartbeats 2000000 in
theorem implFormat_15 (t : ByteArray) (n lo hi : Int) (a b : TPattern) (IHa : FmtC 9 a) (IHb : FmtC 9 b) : FmtC 9 (.mk 15 t n lo hi [a, b]) := by
  intro S w vs htab hv hsz
  have HT := hide htab
  have HV0 := hide hv
  obtain ⟨A, c, rfl, -, hts, hn, -, -, hR⟩ := TPattern.vals hv
  have HR := hide hR
  have HSZ := hide hsz
  have HN := hide hn
  have hlc := HR.out.1
  have hcm := HR.out.2.1
  simp only [List.length_map, List.length_cons, List.length_nil] at hlc
  unfold maxLen at hcm
  have hit := itoa_size hn
  clear hR hv hsz htab hn
  have HE : Hid ((TPattern.mk 15 t n lo hi [a, b]).fmt = (⟨#[40]⟩ : ByteArray) ++ a.fmt ++ (⟨#[32, 46, 124, 32]⟩ : ByteArray) ++ b.fmt ++ (⟨#[41]⟩ : ByteArray)) := by show _ = _; simp only [TPattern.fmt]; rw [if_pos ⟨by decide, by decide, rfl⟩, fmtB_15]; rfl
  have f3 : (((2 : Nat) : Int) != ((kidsN 15 : Nat) : Int)) = false := by decide
  have f3' : ((2 : Int) != ((kidsN 15 : Nat) : Int)) = false := by decide
  have HA := hide IHa
  have HB := hide IHb
  clear IHa IHb
  have hbw : Bel w w := Bel.refl w
  (obtain ⟨b1, o1, x1_0, x1_1, x1_2, x1_3, x1_4, x1_5, A1_5, C1_5, hA1, hS1, hl1, hx1, hv1, g1_0, g1_1, g1_2, g1_3, g1_4, g1_5, c1_0, c1_1, c1_2, c1_3, c1_4, c1_5⟩ := TPattern.at HR.out 0 (by simp); subst hA1; have HV1 := hide (Dat.HoldVals.bel hbw hv1); have hh1 := hbw.box b1 hl1; have hw1 := Nat.lt_of_lt_of_le hl1 (Bel.size hbw); replace c1_0 := (hh1 _).trans c1_0; replace c1_1 := (hh1 _).trans c1_1; replace c1_2 := (hh1 _).trans c1_2; replace c1_3 := (hh1 _).trans c1_3; replace c1_4 := (hh1 _).trans c1_4; replace c1_5 := (hh1 _).trans c1_5; have HX1 := hide hx1; have GR1_5 := hide g1_5; clear hh1 hv1 hx1 hS1 g1_5; simp only [Nat.zero_mul, Nat.one_mul, Nat.add_zero, Nat.reduceMul, Nat.add_assoc, Nat.reduceAdd] at c1_0 c1_1 c1_2 c1_3 c1_4 c1_5)
  (obtain ⟨b2, o2, x2_0, x2_1, x2_2, x2_3, x2_4, x2_5, A2_5, C2_5, hA2, hS2, hl2, hx2, hv2, g2_0, g2_1, g2_2, g2_3, g2_4, g2_5, c2_0, c2_1, c2_2, c2_3, c2_4, c2_5⟩ := TPattern.at HR.out 1 (by simp); injection Option.some.inj hA2 with qb2 qo2 _; subst qb2 qo2; have HV2 := hide (Dat.HoldVals.bel hbw hv2); have hh2 := hbw.box b1 hl2; have hw2 := Nat.lt_of_lt_of_le hl2 (Bel.size hbw); replace c2_0 := (hh2 _).trans c2_0; replace c2_1 := (hh2 _).trans c2_1; replace c2_2 := (hh2 _).trans c2_2; replace c2_3 := (hh2 _).trans c2_3; replace c2_4 := (hh2 _).trans c2_4; replace c2_5 := (hh2 _).trans c2_5; have HX2 := hide hx2; have GR2_5 := hide g2_5; clear hh2 hv2 hx2 hS2 g2_5; simp only [Nat.zero_mul, Nat.one_mul, Nat.add_zero, Nat.reduceMul, Nat.add_assoc, Nat.reduceAdd] at c2_0 c2_1 c2_2 c2_3 c2_4 c2_5)
  have HVa : Hid (Dat.HoldVals w S a.D _) := HV1
  have HVb : Hid (Dat.HoldVals w S b.D _) := HV2
  have HSa : Hid (600 * a.cnt + 4 * Dat.wtL a.D ≤ 1000000000) := by show _ ≤ _; have := HSZ.out; rw [TPattern.D_mk] at this; simp only [TPattern.cnt, TPattern.cnts, Dat.wtL, Dat.wt, Dat.wtR, List.map_cons, List.map_nil] at this; omega
  have hza : a.fmt.size ≤ 1000000000 := Nat.le_trans (TPattern.fmt_size a _ HVa.out) HSa.out
  have HSb : Hid (600 * b.cnt + 4 * Dat.wtL b.D ≤ 1000000000) := by show _ ≤ _; have := HSZ.out; rw [TPattern.D_mk] at this; simp only [TPattern.cnt, TPattern.cnts, Dat.wtL, Dat.wt, Dat.wtR, List.map_cons, List.map_nil] at this; omega
  have hzb : b.fmt.size ≤ 1000000000 := Nat.le_trans (TPattern.fmt_size b _ HVb.out) HSb.out
  clear HV1 HV2 hbw
  have hne : ¬ b1 = w.heap.size := by omega
  have hne2 : ¬ b1 = w.heap.size + 1 := by omega
  have ga0 := run_addS (show ((⟨#[40]⟩ : ByteArray)).size ≤ 1 by decide) hza (by omega)
  have ga1 := run_addS (sz_app (show ((⟨#[40]⟩ : ByteArray)).size ≤ 1 by decide) hza) (show ((⟨#[32, 46, 124, 32]⟩ : ByteArray)).size ≤ 4 by decide) (by omega)
  have ga2 := run_addS (sz_app (sz_app (show ((⟨#[40]⟩ : ByteArray)).size ≤ 1 by decide) hza) (show ((⟨#[32, 46, 124, 32]⟩ : ByteArray)).size ≤ 4 by decide)) hzb (by omega)
  have ga3 := run_addS (sz_app (sz_app (sz_app (show ((⟨#[40]⟩ : ByteArray)).size ≤ 1 by decide) hza) (show ((⟨#[32, 46, 124, 32]⟩ : ByteArray)).size ≤ 4 by decide)) hzb) (show ((⟨#[41]⟩ : ByteArray)).size ≤ 1 by decide) (by omega)
  go_enter Tryd.func9, Tryd.ntmps9
  go_wp2_with (fail)
  go_quiet ((go_at_call 28; exact quiet_ws (patternKids_any _ _)))
  go_wp2_with ((go_at_call 29; refine (implFormatInt_any n _ HN.out (HT.out.on (by repeat' (first | with_reducible exact Bel.refl _ | with_reducible assumption | with_reducible refine Bel.set ?_ ?_ _ | with_reducible refine Bel.alloc ?_ _ | with_reducible refine Bel.drew ?_ | with_reducible refine Bel.drewN ?_ _ | with_reducible refine Bel.trans ?_ (by with_reducible assumption) | (simp; done) | (simp; omega) | refine Bel.alloc ?_ _ | refine Bel.drew ?_ | refine Bel.drewN ?_ _ | refine Bel.set ?_ ?_ _)))).mono ?_; rintro e w5 ⟨rfl, hb5⟩; (have hz5 := hb5.size; (try simp only [World.size_alloc, World.size_setCell, World.size_drew, World.heap_drewN] at hz5); have hk5_0 := hb5.box (w.heap.size) (by first | (simp; done) | (simp; omega) | omega); have hf5_0 := hb5.boxf (w.heap.size) (by first | (simp; done) | (simp; omega) | omega); have hl5_0 : w.heap.size < w5.heap.size := (by omega); have hn5_0 : ¬ w.heap.size = w5.heap.size := (by omega); have hk5_1 := hb5.box (b1) (by first | (simp; done) | (simp; omega) | omega); have hf5_1 := hb5.boxf (b1) (by first | (simp; done) | (simp; omega) | omega); have hl5_1 : b1 < w5.heap.size := (by omega); have hn5_1 : ¬ b1 = w5.heap.size := (by omega))))
  go_region_held3 (fun w' => w'.cell? ⟨w.heap.size, 5, none⟩ = some (.slice (some ⟨b1, o1, none⟩) [a, b].length c) ∧ w'.cell? ⟨b1, o1, none⟩ = some (.int .i64 x1_0) ∧ w'.cell? ⟨b1, o1 + 1, none⟩ = some (.string x1_1) ∧ w'.cell? ⟨b1, o1 + 2, none⟩ = some (.int .i64 x1_2) ∧ w'.cell? ⟨b1, o1 + 3, none⟩ = some (.int .i64 x1_3) ∧ w'.cell? ⟨b1, o1 + 4, none⟩ = some (.int .i64 x1_4) ∧ w'.cell? ⟨b1, o1 + 5, none⟩ = some (.slice A1_5 x1_5.length C1_5) ∧ w'.cell? ⟨b1, o1 + 6, none⟩ = some (.int .i64 x2_0) ∧ w'.cell? ⟨b1, o1 + 7, none⟩ = some (.string x2_1) ∧ w'.cell? ⟨b1, o1 + 8, none⟩ = some (.int .i64 x2_2) ∧ w'.cell? ⟨b1, o1 + 9, none⟩ = some (.int .i64 x2_3) ∧ w'.cell? ⟨b1, o1 + 10, none⟩ = some (.int .i64 x2_4) ∧ w'.cell? ⟨b1, o1 + 11, none⟩ = some (.slice A2_5 x2_5.length C2_5)) (go_keep) (first | (go_at_call 9; (with_reducible refine (HA.out S _ _ (HT.out.on (by repeat' (first | with_reducible exact Bel.refl _ | with_reducible assumption | with_reducible refine Bel.set ?_ ?_ _ | with_reducible refine Bel.alloc ?_ _ | with_reducible refine Bel.drew ?_ | with_reducible refine Bel.drewN ?_ _ | with_reducible refine Bel.trans ?_ (by with_reducible assumption) | (simp; done) | (simp; omega) | refine Bel.alloc ?_ _ | refine Bel.drew ?_ | refine Bel.drewN ?_ _ | refine Bel.set ?_ ?_ _))) (Dat.HoldVals.bel (by repeat' (first | with_reducible exact Bel.refl _ | with_reducible assumption | with_reducible refine Bel.set ?_ ?_ _ | with_reducible refine Bel.alloc ?_ _ | with_reducible refine Bel.drew ?_ | with_reducible refine Bel.drewN ?_ _ | with_reducible refine Bel.trans ?_ (by with_reducible assumption) | (simp; done) | (simp; omega) | refine Bel.alloc ?_ _ | refine Bel.drew ?_ | refine Bel.drewN ?_ _ | refine Bel.set ?_ ?_ _)) HVa.out) HSa.out).mono ?_); rintro e w3 ⟨rfl, hb3⟩; (have hz3 := hb3.size; (try simp only [World.size_alloc, World.size_setCell, World.size_drew, World.heap_drewN] at hz3); have hk3_0 := hb3.box (w.heap.size) (by first | (simp; done) | (simp; omega) | omega); have hf3_0 := hb3.boxf (w.heap.size) (by first | (simp; done) | (simp; omega) | omega); have hl3_0 : w.heap.size < w3.heap.size := (by omega); have hn3_0 : ¬ w.heap.size = w3.heap.size := (by omega); have hk3_1 := hb3.box (b1) (by first | (simp; done) | (simp; omega) | omega); have hf3_1 := hb3.boxf (b1) (by first | (simp; done) | (simp; omega) | omega); have hl3_1 : b1 < w3.heap.size := (by omega); have hn3_1 : ¬ b1 = w3.heap.size := (by omega))) | (go_at_call 9; (with_reducible refine (HB.out S _ _ (HT.out.on (by repeat' (first | with_reducible exact Bel.refl _ | with_reducible assumption | with_reducible refine Bel.set ?_ ?_ _ | with_reducible refine Bel.alloc ?_ _ | with_reducible refine Bel.drew ?_ | with_reducible refine Bel.drewN ?_ _ | with_reducible refine Bel.trans ?_ (by with_reducible assumption) | (simp; done) | (simp; omega) | refine Bel.alloc ?_ _ | refine Bel.drew ?_ | refine Bel.drewN ?_ _ | refine Bel.set ?_ ?_ _))) (Dat.HoldVals.bel (by repeat' (first | with_reducible exact Bel.refl _ | with_reducible assumption | with_reducible refine Bel.set ?_ ?_ _ | with_reducible refine Bel.alloc ?_ _ | with_reducible refine Bel.drew ?_ | with_reducible refine Bel.drewN ?_ _ | with_reducible refine Bel.trans ?_ (by with_reducible assumption) | (simp; done) | (simp; omega) | refine Bel.alloc ?_ _ | refine Bel.drew ?_ | refine Bel.drewN ?_ _ | refine Bel.set ?_ ?_ _)) HVb.out) HSb.out).mono ?_); rintro e w4 ⟨rfl, hb4⟩; (have hz4 := hb4.size; (try simp only [World.size_alloc, World.size_setCell, World.size_drew, World.heap_drewN] at hz4); have hk4_0 := hb4.box (w.heap.size) (by first | (simp; done) | (simp; omega) | omega); have hf4_0 := hb4.boxf (w.heap.size) (by first | (simp; done) | (simp; omega) | omega); have hl4_0 : w.heap.size < w4.heap.size := (by omega); have hn4_0 : ¬ w.heap.size = w4.heap.size := (by omega); have hk4_1 := hb4.box (b1) (by first | (simp; done) | (simp; omega) | omega); have hf4_1 := hb4.boxf (b1) (by first | (simp; done) | (simp; omega) | omega); have hl4_1 : b1 < w4.heap.size := (by omega); have hn4_1 : ¬ b1 = w4.heap.size := (by omega))))
  all_goals (go_wp2_with (fail))
  all_goals
    go_returns
    exact ⟨ret_str (HE.out.trans (by first | rfl | (simp only [ByteArray.append_assoc]; rfl) | (simp only [ByteArray.append_assoc]; congr 1))).symm, (by repeat' (first | with_reducible exact Bel.refl _ | with_reducible assumption | with_reducible refine Bel.set ?_ ?_ _ | with_reducible refine Bel.alloc ?_ _ | with_reducible refine Bel.drew ?_ | with_reducible refine Bel.drewN ?_ _ | with_reducible refine Bel.trans ?_ (by with_reducible assumption) | (simp; done) | (simp; omega) | refine Bel.alloc ?_ _ | refine Bel.drew ?_ | refine Bel.drewN ?_ _ | refine Bel.set ?_ ?_ _))⟩
set_option maxHeartbeats 2000000 in
theorem implFormat_16 (t : ByteArray) (n lo hi : Int) (a : TPattern) (IHa : FmtC 9 a) : FmtC 9 (.mk 16 t n lo hi [a]) := by
  intro S w vs htab hv hsz
  have HT := hide htab
  have HV0 := hide hv
  obtain ⟨A, c, rfl, -, hts, hn, -, -, hR⟩ := TPattern.vals hv
  have HR := hide hR
  have HSZ := hide hsz
  have HN := hide hn
  have hlc := HR.out.1
  have hcm := HR.out.2.1
  simp only [List.length_map, List.length_cons, List.length_nil] at hlc
  unfold maxLen at hcm
  have hit := itoa_size hn
  clear hR hv hsz htab hn
  have HE : Hid ((TPattern.mk 16 t n lo hi [a]).fmt = (⟨#[40]⟩ : ByteArray) ++ a.fmt ++ (⟨#[32, 45, 62, 32]⟩ : ByteArray) ++ (⟨#[118]⟩ : ByteArray) ++ (⟨(Lib.itoa n).toArray⟩ : ByteArray) ++ (⟨#[41]⟩ : ByteArray)) := by show _ = _; simp only [TPattern.fmt]; rw [if_pos ⟨by decide, by decide, rfl⟩, fmtB_16]; rfl
  have f3 : (((1 : Nat) : Int) != ((kidsN 16 : Nat) : Int)) = false := by decide
  have f3' : ((1 : Int) != ((kidsN 16 : Nat) : Int)) = false := by decide
  have HA := hide IHa
  clear IHa
  have hbw : Bel w w := Bel.refl w
  (obtain ⟨b1, o1, x1_0, x1_1, x1_2, x1_3, x1_4, x1_5, A1_5, C1_5, hA1, hS1, hl1, hx1, hv1, g1_0, g1_1, g1_2, g1_3, g1_4, g1_5, c1_0, c1_1, c1_2, c1_3, c1_4, c1_5⟩ := TPattern.at HR.out 0 (by simp); subst hA1; have HV1 := hide (Dat.HoldVals.bel hbw hv1); have hh1 := hbw.box b1 hl1; have hw1 := Nat.lt_of_lt_of_le hl1 (Bel.size hbw); replace c1_0 := (hh1 _).trans c1_0; replace c1_1 := (hh1 _).trans c1_1; replace c1_2 := (hh1 _).trans c1_2; replace c1_3 := (hh1 _).trans c1_3; replace c1_4 := (hh1 _).trans c1_4; replace c1_5 := (hh1 _).trans c1_5; have HX1 := hide hx1; have GR1_5 := hide g1_5; clear hh1 hv1 hx1 hS1 g1_5; simp only [Nat.zero_mul, Nat.one_mul, Nat.add_zero, Nat.reduceMul, Nat.add_assoc, Nat.reduceAdd] at c1_0 c1_1 c1_2 c1_3 c1_4 c1_5)
  have HVa : Hid (Dat.HoldVals w S a.D _) := HV1
  have HSa : Hid (600 * a.cnt + 4 * Dat.wtL a.D ≤ 1000000000) := by show _ ≤ _; have := HSZ.out; rw [TPattern.D_mk] at this; simp only [TPattern.cnt, TPattern.cnts, Dat.wtL, Dat.wt, Dat.wtR, List.map_cons, List.map_nil] at this; omega
  have hza : a.fmt.size ≤ 1000000000 := Nat.le_trans (TPattern.fmt_size a _ HVa.out) HSa.out
  clear HV1 hbw
  have hne : ¬ b1 = w.heap.size := by omega
  have hne2 : ¬ b1 = w.heap.size + 1 := by omega
  have ga0 := run_addS (show ((⟨#[40]⟩ : ByteArray)).size ≤ 1 by decide) hza (by omega)
  have ga1 := run_addS (sz_app (show ((⟨#[40]⟩ : ByteArray)).size ≤ 1 by decide) hza) (show ((⟨#[32, 45, 62, 32, 118]⟩ : ByteArray)).size ≤ 5 by decide) (by omega)
  have ga2 := run_addS (sz_app (sz_app (show ((⟨#[40]⟩ : ByteArray)).size ≤ 1 by decide) hza) (show ((⟨#[32, 45, 62, 32, 118]⟩ : ByteArray)).size ≤ 5 by decide)) hit (by omega)
  have ga3 := run_addS (sz_app (sz_app (sz_app (show ((⟨#[40]⟩ : ByteArray)).size ≤ 1 by decide) hza) (show ((⟨#[32, 45, 62, 32, 118]⟩ : ByteArray)).size ≤ 5 by decide)) hit) (show ((⟨#[41]⟩ : ByteArray)).size ≤ 1 by decide) (by omega)
  go_enter Tryd.func9, Tryd.ntmps9
  go_wp2_with (fail)
  go_quiet ((go_at_call 28; exact quiet_ws (patternKids_any _ _)))
  go_wp2_with (first | (go_at_call 29; refine (implFormatInt_any n _ HN.out (HT.out.on (by repeat' (first | with_reducible exact Bel.refl _ | with_reducible assumption | with_reducible refine Bel.set ?_ ?_ _ | with_reducible refine Bel.alloc ?_ _ | with_reducible refine Bel.drew ?_ | with_reducible refine Bel.drewN ?_ _ | with_reducible refine Bel.trans ?_ (by with_reducible assumption) | (simp; done) | (simp; omega) | refine Bel.alloc ?_ _ | refine Bel.drew ?_ | refine Bel.drewN ?_ _ | refine Bel.set ?_ ?_ _)))).mono ?_; rintro e w5 ⟨rfl, hb5⟩; (have hz5 := hb5.size; (try simp only [World.size_alloc, World.size_setCell, World.size_drew, World.heap_drewN] at hz5); have hk5_0 := hb5.box (w.heap.size) (by first | (simp; done) | (simp; omega) | omega); have hf5_0 := hb5.boxf (w.heap.size) (by first | (simp; done) | (simp; omega) | omega); have hl5_0 : w.heap.size < w5.heap.size := (by omega); have hn5_0 : ¬ w.heap.size = w5.heap.size := (by omega); have hk5_1 := hb5.box (b1) (by first | (simp; done) | (simp; omega) | omega); have hf5_1 := hb5.boxf (b1) (by first | (simp; done) | (simp; omega) | omega); have hl5_1 : b1 < w5.heap.size := (by omega); have hn5_1 : ¬ b1 = w5.heap.size := (by omega))) | (go_at_call 9; (with_reducible refine (HA.out S _ _ (HT.out.on (by repeat' (first | with_reducible exact Bel.refl _ | with_reducible assumption | with_reducible refine Bel.set ?_ ?_ _ | with_reducible refine Bel.alloc ?_ _ | with_reducible refine Bel.drew ?_ | with_reducible refine Bel.drewN ?_ _ | with_reducible refine Bel.trans ?_ (by with_reducible assumption) | (simp; done) | (simp; omega) | refine Bel.alloc ?_ _ | refine Bel.drew ?_ | refine Bel.drewN ?_ _ | refine Bel.set ?_ ?_ _))) (Dat.HoldVals.bel (by repeat' (first | with_reducible exact Bel.refl _ | with_reducible assumption | with_reducible refine Bel.set ?_ ?_ _ | with_reducible refine Bel.alloc ?_ _ | with_reducible refine Bel.drew ?_ | with_reducible refine Bel.drewN ?_ _ | with_reducible refine Bel.trans ?_ (by with_reducible assumption) | (simp; done) | (simp; omega) | refine Bel.alloc ?_ _ | refine Bel.drew ?_ | refine Bel.drewN ?_ _ | refine Bel.set ?_ ?_ _)) HVa.out) HSa.out).mono ?_); rintro e w3 ⟨rfl, hb3⟩; (have hz3 := hb3.size; (try simp only [World.size_alloc, World.size_setCell, World.size_drew, World.heap_drewN] at hz3); have hk3_0 := hb3.box (w.heap.size) (by first | (simp; done) | (simp; omega) | omega); have hf3_0 := hb3.boxf (w.heap.size) (by first | (simp; done) | (simp; omega) | omega); have hl3_0 : w.heap.size < w3.heap.size := (by omega); have hn3_0 : ¬ w.heap.size = w3.heap.size := (by omega); have hk3_1 := hb3.box (b1) (by first | (simp; done) | (simp; omega) | omega); have hf3_1 := hb3.boxf (b1) (by first | (simp; done) | (simp; omega) | omega); have hl3_1 : b1 < w3.heap.size := (by omega); have hn3_1 : ¬ b1 = w3.heap.size := (by omega))))
  all_goals
    go_returns
    exact ⟨ret_str (HE.out.trans (by first | rfl | (simp only [ByteArray.append_assoc]; rfl) | (simp only [ByteArray.append_assoc]; congr 1))).symm, (by repeat' (first | with_reducible exact Bel.refl _ | with_reducible assumption | with_reducible refine Bel.set ?_ ?_ _ | with_reducible refine Bel.alloc ?_ _ | with_reducible refine Bel.drew ?_ | with_reducible refine Bel.drewN ?_ _ | with_reducible refine Bel.trans ?_ (by with_reducible assumption) | (simp; done) | (simp; omega) | refine Bel.alloc ?_ _ | refine Bel.drew ?_ | refine Bel.drewN ?_ _ | refine Bel.set ?_ ?_ _))⟩
set_option maxHeartbeats 2000000 in
theorem implFormat_17 (t : ByteArray) (n lo hi : Int) (a : TPattern) (IHa : FmtC 9 a) : FmtC 9 (.mk 17 t n lo hi [a]) := by
  intro S w vs htab hv hsz
  have HT := hide htab
  have HV0 := hide hv
  obtain ⟨A, c, rfl, -, hts, hn, -, -, hR⟩ := TPattern.vals hv
  have HR := hide hR
  have HSZ := hide hsz
  have HN := hide hn
  have hlc := HR.out.1
  have hcm := HR.out.2.1
  simp only [List.length_map, List.length_cons, List.length_nil] at hlc
  unfold maxLen at hcm
  have hit := itoa_size hn
  clear hR hv hsz htab hn
  have HE : Hid ((TPattern.mk 17 t n lo hi [a]).fmt = (⟨#[40]⟩ : ByteArray) ++ a.fmt ++ (⟨#[32, 61, 62, 32]⟩ : ByteArray) ++ (⟨#[118]⟩ : ByteArray) ++ (⟨(Lib.itoa n).toArray⟩ : ByteArray) ++ (⟨#[41]⟩ : ByteArray)) := by show _ = _; simp only [TPattern.fmt]; rw [if_pos ⟨by decide, by decide, rfl⟩, fmtB_17]; rfl
  have f3 : (((1 : Nat) : Int) != ((kidsN 17 : Nat) : Int)) = false := by decide
  have f3' : ((1 : Int) != ((kidsN 17 : Nat) : Int)) = false := by decide
  have HA := hide IHa
  clear IHa
  have hbw : Bel w w := Bel.refl w
  (obtain ⟨b1, o1, x1_0, x1_1, x1_2, x1_3, x1_4, x1_5, A1_5, C1_5, hA1, hS1, hl1, hx1, hv1, g1_0, g1_1, g1_2, g1_3, g1_4, g1_5, c1_0, c1_1, c1_2, c1_3, c1_4, c1_5⟩ := TPattern.at HR.out 0 (by simp); subst hA1; have HV1 := hide (Dat.HoldVals.bel hbw hv1); have hh1 := hbw.box b1 hl1; have hw1 := Nat.lt_of_lt_of_le hl1 (Bel.size hbw); replace c1_0 := (hh1 _).trans c1_0; replace c1_1 := (hh1 _).trans c1_1; replace c1_2 := (hh1 _).trans c1_2; replace c1_3 := (hh1 _).trans c1_3; replace c1_4 := (hh1 _).trans c1_4; replace c1_5 := (hh1 _).trans c1_5; have HX1 := hide hx1; have GR1_5 := hide g1_5; clear hh1 hv1 hx1 hS1 g1_5; simp only [Nat.zero_mul, Nat.one_mul, Nat.add_zero, Nat.reduceMul, Nat.add_assoc, Nat.reduceAdd] at c1_0 c1_1 c1_2 c1_3 c1_4 c1_5)
  have HVa : Hid (Dat.HoldVals w S a.D _) := HV1
  have HSa : Hid (600 * a.cnt + 4 * Dat.wtL a.D ≤ 1000000000) := by show _ ≤ _; have := HSZ.out; rw [TPattern.D_mk] at this; simp only [TPattern.cnt, TPattern.cnts, Dat.wtL, Dat.wt, Dat.wtR, List.map_cons, List.map_nil] at this; omega
  have hza : a.fmt.size ≤ 1000000000 := Nat.le_trans (TPattern.fmt_size a _ HVa.out) HSa.out
  clear HV1 hbw
  have hne : ¬ b1 = w.heap.size := by omega
  have hne2 : ¬ b1 = w.heap.size + 1 := by omega
  have ga0 := run_addS (show ((⟨#[40]⟩ : ByteArray)).size ≤ 1 by decide) hza (by omega)
  have ga1 := run_addS (sz_app (show ((⟨#[40]⟩ : ByteArray)).size ≤ 1 by decide) hza) (show ((⟨#[32, 61, 62, 32, 118]⟩ : ByteArray)).size ≤ 5 by decide) (by omega)
  have ga2 := run_addS (sz_app (sz_app (show ((⟨#[40]⟩ : ByteArray)).size ≤ 1 by decide) hza) (show ((⟨#[32, 61, 62, 32, 118]⟩ : ByteArray)).size ≤ 5 by decide)) hit (by omega)
  have ga3 := run_addS (sz_app (sz_app (sz_app (show ((⟨#[40]⟩ : ByteArray)).size ≤ 1 by decide) hza) (show ((⟨#[32, 61, 62, 32, 118]⟩ : ByteArray)).size ≤ 5 by decide)) hit) (show ((⟨#[41]⟩ : ByteArray)).size ≤ 1 by decide) (by omega)
  go_enter Tryd.func9, Tryd.ntmps9
  go_wp2_with (fail)
  go_quiet ((go_at_call 28; exact quiet_ws (patternKids_any _ _)))
  go_wp2_with (first | (go_at_call 29; refine (implFormatInt_any n _ HN.out (HT.out.on (by repeat' (first | with_reducible exact Bel.refl _ | with_reducible assumption | with_reducible refine Bel.set ?_ ?_ _ | with_reducible refine Bel.alloc ?_ _ | with_reducible refine Bel.drew ?_ | with_reducible refine Bel.drewN ?_ _ | with_reducible refine Bel.trans ?_ (by with_reducible assumption) | (simp; done) | (simp; omega) | refine Bel.alloc ?_ _ | refine Bel.drew ?_ | refine Bel.drewN ?_ _ | refine Bel.set ?_ ?_ _)))).mono ?_; rintro e w5 ⟨rfl, hb5⟩; (have hz5 := hb5.size; (try simp only [World.size_alloc, World.size_setCell, World.size_drew, World.heap_drewN] at hz5); have hk5_0 := hb5.box (w.heap.size) (by first | (simp; done) | (simp; omega) | omega); have hf5_0 := hb5.boxf (w.heap.size) (by first | (simp; done) | (simp; omega) | omega); have hl5_0 : w.heap.size < w5.heap.size := (by omega); have hn5_0 : ¬ w.heap.size = w5.heap.size := (by omega); have hk5_1 := hb5.box (b1) (by first | (simp; done) | (simp; omega) | omega); have hf5_1 := hb5.boxf (b1) (by first | (simp; done) | (simp; omega) | omega); have hl5_1 : b1 < w5.heap.size := (by omega); have hn5_1 : ¬ b1 = w5.heap.size := (by omega))) | (go_at_call 9; (with_reducible refine (HA.out S _ _ (HT.out.on (by repeat' (first | with_reducible exact Bel.refl _ | with_reducible assumption | with_reducible refine Bel.set ?_ ?_ _ | with_reducible refine Bel.alloc ?_ _ | with_reducible refine Bel.drew ?_ | with_reducible refine Bel.drewN ?_ _ | with_reducible refine Bel.trans ?_ (by with_reducible assumption) | (simp; done) | (simp; omega) | refine Bel.alloc ?_ _ | refine Bel.drew ?_ | refine Bel.drewN ?_ _ | refine Bel.set ?_ ?_ _))) (Dat.HoldVals.bel (by repeat' (first | with_reducible exact Bel.refl _ | with_reducible assumption | with_reducible refine Bel.set ?_ ?_ _ | with_reducible refine Bel.alloc ?_ _ | with_reducible refine Bel.drew ?_ | with_reducible refine Bel.drewN ?_ _ | with_reducible refine Bel.trans ?_ (by with_reducible assumption) | (simp; done) | (simp; omega) | refine Bel.alloc ?_ _ | refine Bel.drew ?_ | refine Bel.drewN ?_ _ | refine Bel.set ?_ ?_ _)) HVa.out) HSa.out).mono ?_); rintro e w3 ⟨rfl, hb3⟩; (have hz3 := hb3.size; (try simp only [World.size_alloc, World.size_setCell, World.size_drew, World.heap_drewN] at hz3); have hk3_0 := hb3.box (w.heap.size) (by first | (simp; done) | (simp; omega) | omega); have hf3_0 := hb3.boxf (w.heap.size) (by first | (simp; done) | (simp; omega) | omega); have hl3_0 : w.heap.size < w3.heap.size := (by omega); have hn3_0 : ¬ w.heap.size = w3.heap.size := (by omega); have hk3_1 := hb3.box (b1) (by first | (simp; done) | (simp; omega) | omega); have hf3_1 := hb3.boxf (b1) (by first | (simp; done) | (simp; omega) | omega); have hl3_1 : b1 < w3.heap.size := (by omega); have hn3_1 : ¬ b1 = w3.heap.size := (by omega))))
  all_goals
    go_returns
    exact ⟨ret_str (HE.out.trans (by first | rfl | (simp only [ByteArray.append_assoc]; rfl) | (simp only [ByteArray.append_assoc]; congr 1))).symm, (by repeat' (first | with_reducible exact Bel.refl _ | with_reducible assumption | with_reducible refine Bel.set ?_ ?_ _ | with_reducible refine Bel.alloc ?_ _ | with_reducible refine Bel.drew ?_ | with_reducible refine Bel.drewN ?_ _ | with_reducible refine Bel.trans ?_ (by with_reducible assumption) | (simp; done) | (simp; omega) | refine Bel.alloc ?_ _ | refine Bel.drew ?_ | refine Bel.drewN ?_ _ | refine Bel.set ?_ ?_ _))⟩
set_option maxHeartbeats 2000000 in
theorem implFormat_18 (t : ByteArray) (n lo hi : Int)  : FmtC 9 (.mk 18 t n lo hi []) := by
  intro S w vs htab hv hsz
  have HT := hide htab
  have HV0 := hide hv
  obtain ⟨A, c, rfl, -, hts, hn, -, -, hR⟩ := TPattern.vals hv
  have HR := hide hR
  have HSZ := hide hsz
  have HN := hide hn
  have hlc := HR.out.1
  have hcm := HR.out.2.1
  simp only [List.length_map, List.length_cons, List.length_nil] at hlc
  unfold maxLen at hcm
  have hit := itoa_size hn
  clear hR hv hsz htab hn
  have HE : Hid ((TPattern.mk 18 t n lo hi []).fmt = (⟨#[46, 62]⟩ : ByteArray) ++ (⟨#[118]⟩ : ByteArray) ++ (⟨(Lib.itoa n).toArray⟩ : ByteArray)) := by show _ = _; simp only [TPattern.fmt]; rw [if_pos ⟨by decide, by decide, rfl⟩, fmtB_18]
  have f3 : (((0 : Nat) : Int) != ((kidsN 18 : Nat) : Int)) = false := by decide
  have f3' : ((0 : Int) != ((kidsN 18 : Nat) : Int)) = false := by decide
  have ga0 := run_addS (show ((⟨#[46, 62, 118]⟩ : ByteArray)).size ≤ 3 by decide) hit (by omega)
  go_enter Tryd.func9, Tryd.ntmps9
  go_wp2_with (fail)
  go_quiet ((go_at_call 28; exact quiet_ws (patternKids_any _ _)))
  go_wp2_with ((go_at_call 29; refine (implFormatInt_any n _ HN.out (HT.out.on (by repeat' (first | with_reducible exact Bel.refl _ | with_reducible assumption | with_reducible refine Bel.set ?_ ?_ _ | with_reducible refine Bel.alloc ?_ _ | with_reducible refine Bel.drew ?_ | with_reducible refine Bel.drewN ?_ _ | with_reducible refine Bel.trans ?_ (by with_reducible assumption) | (simp; done) | (simp; omega) | refine Bel.alloc ?_ _ | refine Bel.drew ?_ | refine Bel.drewN ?_ _ | refine Bel.set ?_ ?_ _)))).mono ?_; rintro e w5 ⟨rfl, hb5⟩; (have hz5 := hb5.size; (try simp only [World.size_alloc, World.size_setCell, World.size_drew, World.heap_drewN] at hz5); have hk5_0 := hb5.box (w.heap.size) (by first | (simp; done) | (simp; omega) | omega); have hf5_0 := hb5.boxf (w.heap.size) (by first | (simp; done) | (simp; omega) | omega); have hl5_0 : w.heap.size < w5.heap.size := (by omega); have hn5_0 : ¬ w.heap.size = w5.heap.size := (by omega))))
  all_goals
    go_returns
    exact ⟨ret_str (HE.out.trans (by first | rfl | (simp only [ByteArray.append_assoc]; rfl) | (simp only [ByteArray.append_assoc]; congr 1))).symm, (by repeat' (first | with_reducible exact Bel.refl _ | with_reducible assumption | with_reducible refine Bel.set ?_ ?_ _ | with_reducible refine Bel.alloc ?_ _ | with_reducible refine Bel.drew ?_ | with_reducible refine Bel.drewN ?_ _ | with_reducible refine Bel.trans ?_ (by with_reducible assumption) | (simp; done) | (simp; omega) | refine Bel.alloc ?_ _ | refine Bel.drew ?_ | refine Bel.drewN ?_ _ | refine Bel.set ?_ ?_ _))⟩
set_option maxHeartbeats 2000000 in
theorem implFormat_19 (t : ByteArray) (n lo hi : Int)  : FmtC 9 (.mk 19 t n lo hi []) := by
  intro S w vs htab hv hsz
  have HT := hide htab
  have HV0 := hide hv
  obtain ⟨A, c, rfl, -, hts, hn, -, -, hR⟩ := TPattern.vals hv
  have HR := hide hR
  have HSZ := hide hsz
  have HN := hide hn
  have hlc := HR.out.1
  have hcm := HR.out.2.1
  simp only [List.length_map, List.length_cons, List.length_nil] at hlc
  unfold maxLen at hcm
  have hit := itoa_size hn
  clear hR hv hsz htab hn
  have HE : Hid ((TPattern.mk 19 t n lo hi []).fmt = (⟨#[70, 101, 110, 99, 101]⟩ : ByteArray) ++ (⟨#[40, 41]⟩ : ByteArray)) := by show _ = _; simp only [TPattern.fmt]; rw [if_pos ⟨by decide, by decide, rfl⟩, fmtB_19]
  have f3 : (((0 : Nat) : Int) != ((kidsN 19 : Nat) : Int)) = false := by decide
  have f3' : ((0 : Int) != ((kidsN 19 : Nat) : Int)) = false := by decide
  go_enter Tryd.func9, Tryd.ntmps9
  go_wp2_with (fail)
  go_quiet ((go_at_call 28; exact quiet_ws (patternKids_any _ _)))
  go_wp2_with ((go_at_call 29; refine (implFormatInt_any n _ HN.out (HT.out.on (by repeat' (first | with_reducible exact Bel.refl _ | with_reducible assumption | with_reducible refine Bel.set ?_ ?_ _ | with_reducible refine Bel.alloc ?_ _ | with_reducible refine Bel.drew ?_ | with_reducible refine Bel.drewN ?_ _ | with_reducible refine Bel.trans ?_ (by with_reducible assumption) | (simp; done) | (simp; omega) | refine Bel.alloc ?_ _ | refine Bel.drew ?_ | refine Bel.drewN ?_ _ | refine Bel.set ?_ ?_ _)))).mono ?_; rintro e w5 ⟨rfl, hb5⟩; (have hz5 := hb5.size; (try simp only [World.size_alloc, World.size_setCell, World.size_drew, World.heap_drewN] at hz5); have hk5_0 := hb5.box (w.heap.size) (by first | (simp; done) | (simp; omega) | omega); have hf5_0 := hb5.boxf (w.heap.size) (by first | (simp; done) | (simp; omega) | omega); have hl5_0 : w.heap.size < w5.heap.size := (by omega); have hn5_0 : ¬ w.heap.size = w5.heap.size := (by omega))))
  all_goals
    go_returns
    exact ⟨ret_str (HE.out.trans (by first | rfl | (simp only [ByteArray.append_assoc]; rfl) | (simp only [ByteArray.append_assoc]; congr 1))).symm, (by repeat' (first | with_reducible exact Bel.refl _ | with_reducible assumption | with_reducible refine Bel.set ?_ ?_ _ | with_reducible refine Bel.alloc ?_ _ | with_reducible refine Bel.drew ?_ | with_reducible refine Bel.drewN ?_ _ | with_reducible refine Bel.trans ?_ (by with_reducible assumption) | (simp; done) | (simp; omega) | refine Bel.alloc ?_ _ | refine Bel.drew ?_ | refine Bel.drewN ?_ _ | refine Bel.set ?_ ?_ _))⟩
set_option maxHeartbeats 2000000 in
theorem implFormat_20 (t : ByteArray) (n lo hi : Int)  : FmtC 9 (.mk 20 t n lo hi []) := by
  intro S w vs htab hv hsz
  have HT := hide htab
  have HV0 := hide hv
  obtain ⟨A, c, rfl, -, hts, hn, -, -, hR⟩ := TPattern.vals hv
  have HR := hide hR
  have HSZ := hide hsz
  have HN := hide hn
  have hlc := HR.out.1
  have hcm := HR.out.2.1
  simp only [List.length_map, List.length_cons, List.length_nil] at hlc
  unfold maxLen at hcm
  have hit := itoa_size hn
  clear hR hv hsz htab hn
  have HE : Hid ((TPattern.mk 20 t n lo hi []).fmt = (⟨#[100, 101, 102, 101, 114, 32]⟩ : ByteArray) ++ (⟨#[118]⟩ : ByteArray) ++ (⟨(Lib.itoa n).toArray⟩ : ByteArray)) := by show _ = _; simp only [TPattern.fmt]; rw [if_pos ⟨by decide, by decide, rfl⟩, fmtB_20]
  have f3 : (((0 : Nat) : Int) != ((kidsN 20 : Nat) : Int)) = false := by decide
  have f3' : ((0 : Int) != ((kidsN 20 : Nat) : Int)) = false := by decide
  have ga0 := run_addS (show ((⟨#[100, 101, 102, 101, 114, 32, 118]⟩ : ByteArray)).size ≤ 7 by decide) hit (by omega)
  go_enter Tryd.func9, Tryd.ntmps9
  go_wp2_with (fail)
  go_quiet ((go_at_call 28; exact quiet_ws (patternKids_any _ _)))
  go_wp2_with ((go_at_call 29; refine (implFormatInt_any n _ HN.out (HT.out.on (by repeat' (first | with_reducible exact Bel.refl _ | with_reducible assumption | with_reducible refine Bel.set ?_ ?_ _ | with_reducible refine Bel.alloc ?_ _ | with_reducible refine Bel.drew ?_ | with_reducible refine Bel.drewN ?_ _ | with_reducible refine Bel.trans ?_ (by with_reducible assumption) | (simp; done) | (simp; omega) | refine Bel.alloc ?_ _ | refine Bel.drew ?_ | refine Bel.drewN ?_ _ | refine Bel.set ?_ ?_ _)))).mono ?_; rintro e w5 ⟨rfl, hb5⟩; (have hz5 := hb5.size; (try simp only [World.size_alloc, World.size_setCell, World.size_drew, World.heap_drewN] at hz5); have hk5_0 := hb5.box (w.heap.size) (by first | (simp; done) | (simp; omega) | omega); have hf5_0 := hb5.boxf (w.heap.size) (by first | (simp; done) | (simp; omega) | omega); have hl5_0 : w.heap.size < w5.heap.size := (by omega); have hn5_0 : ¬ w.heap.size = w5.heap.size := (by omega))))
  all_goals
    go_returns
    exact ⟨ret_str (HE.out.trans (by first | rfl | (simp only [ByteArray.append_assoc]; rfl) | (simp only [ByteArray.append_assoc]; congr 1))).symm, (by repeat' (first | with_reducible exact Bel.refl _ | with_reducible assumption | with_reducible refine Bel.set ?_ ?_ _ | with_reducible refine Bel.alloc ?_ _ | with_reducible refine Bel.drew ?_ | with_reducible refine Bel.drewN ?_ _ | with_reducible refine Bel.trans ?_ (by with_reducible assumption) | (simp; done) | (simp; omega) | refine Bel.alloc ?_ _ | refine Bel.drew ?_ | refine Bel.drewN ?_ _ | refine Bel.set ?_ ?_ _))⟩
set_option maxHeartbeats 2000000 in
theorem implFormat_21 (t : ByteArray) (n lo hi : Int)  : FmtC 9 (.mk 21 t n lo hi []) := by
  intro S w vs htab hv hsz
  have HT := hide htab
  have HV0 := hide hv
  obtain ⟨A, c, rfl, -, hts, hn, -, -, hR⟩ := TPattern.vals hv
  have HR := hide hR
  have HSZ := hide hsz
  have HN := hide hn
  have hlc := HR.out.1
  have hcm := HR.out.2.1
  simp only [List.length_map, List.length_cons, List.length_nil] at hlc
  unfold maxLen at hcm
  have hit := itoa_size hn
  clear hR hv hsz htab hn
  have HE : Hid ((TPattern.mk 21 t n lo hi []).fmt = (⟨#[65, 98, 111, 114, 116]⟩ : ByteArray) ++ (⟨#[40, 41]⟩ : ByteArray)) := by show _ = _; simp only [TPattern.fmt]; rw [if_pos ⟨by decide, by decide, rfl⟩, fmtB_21]
  have f3 : (((0 : Nat) : Int) != ((kidsN 21 : Nat) : Int)) = false := by decide
  have f3' : ((0 : Int) != ((kidsN 21 : Nat) : Int)) = false := by decide
  go_enter Tryd.func9, Tryd.ntmps9
  go_wp2_with (fail)
  go_quiet ((go_at_call 28; exact quiet_ws (patternKids_any _ _)))
  go_wp2_with ((go_at_call 29; refine (implFormatInt_any n _ HN.out (HT.out.on (by repeat' (first | with_reducible exact Bel.refl _ | with_reducible assumption | with_reducible refine Bel.set ?_ ?_ _ | with_reducible refine Bel.alloc ?_ _ | with_reducible refine Bel.drew ?_ | with_reducible refine Bel.drewN ?_ _ | with_reducible refine Bel.trans ?_ (by with_reducible assumption) | (simp; done) | (simp; omega) | refine Bel.alloc ?_ _ | refine Bel.drew ?_ | refine Bel.drewN ?_ _ | refine Bel.set ?_ ?_ _)))).mono ?_; rintro e w5 ⟨rfl, hb5⟩; (have hz5 := hb5.size; (try simp only [World.size_alloc, World.size_setCell, World.size_drew, World.heap_drewN] at hz5); have hk5_0 := hb5.box (w.heap.size) (by first | (simp; done) | (simp; omega) | omega); have hf5_0 := hb5.boxf (w.heap.size) (by first | (simp; done) | (simp; omega) | omega); have hl5_0 : w.heap.size < w5.heap.size := (by omega); have hn5_0 : ¬ w.heap.size = w5.heap.size := (by omega))))
  all_goals
    go_returns
    exact ⟨ret_str (HE.out.trans (by first | rfl | (simp only [ByteArray.append_assoc]; rfl) | (simp only [ByteArray.append_assoc]; congr 1))).symm, (by repeat' (first | with_reducible exact Bel.refl _ | with_reducible assumption | with_reducible refine Bel.set ?_ ?_ _ | with_reducible refine Bel.alloc ?_ _ | with_reducible refine Bel.drew ?_ | with_reducible refine Bel.drewN ?_ _ | with_reducible refine Bel.trans ?_ (by with_reducible assumption) | (simp; done) | (simp; omega) | refine Bel.alloc ?_ _ | refine Bel.drew ?_ | refine Bel.drewN ?_ _ | refine Bel.set ?_ ?_ _))⟩
set_option maxHeartbeats 2000000 in
theorem implFormat_22 (t : ByteArray) (n lo hi : Int)  : FmtC 9 (.mk 22 t n lo hi []) := by
  intro S w vs htab hv hsz
  have HT := hide htab
  have HV0 := hide hv
  obtain ⟨A, c, rfl, -, hts, hn, -, -, hR⟩ := TPattern.vals hv
  have HR := hide hR
  have HSZ := hide hsz
  have HN := hide hn
  have hlc := HR.out.1
  have hcm := HR.out.2.1
  simp only [List.length_map, List.length_cons, List.length_nil] at hlc
  unfold maxLen at hcm
  have hit := itoa_size hn
  clear hR hv hsz htab hn
  have HE : Hid ((TPattern.mk 22 t n lo hi []).fmt = (⟨#[69, 109, 112, 116, 121]⟩ : ByteArray) ++ (⟨#[40, 41]⟩ : ByteArray)) := by show _ = _; simp only [TPattern.fmt]; rw [if_pos ⟨by decide, by decide, rfl⟩, fmtB_22]
  have f3 : (((0 : Nat) : Int) != ((kidsN 22 : Nat) : Int)) = false := by decide
  have f3' : ((0 : Int) != ((kidsN 22 : Nat) : Int)) = false := by decide
  go_enter Tryd.func9, Tryd.ntmps9
  go_wp2_with (fail)
  go_quiet ((go_at_call 28; exact quiet_ws (patternKids_any _ _)))
  go_wp2_with ((go_at_call 29; refine (implFormatInt_any n _ HN.out (HT.out.on (by repeat' (first | with_reducible exact Bel.refl _ | with_reducible assumption | with_reducible refine Bel.set ?_ ?_ _ | with_reducible refine Bel.alloc ?_ _ | with_reducible refine Bel.drew ?_ | with_reducible refine Bel.drewN ?_ _ | with_reducible refine Bel.trans ?_ (by with_reducible assumption) | (simp; done) | (simp; omega) | refine Bel.alloc ?_ _ | refine Bel.drew ?_ | refine Bel.drewN ?_ _ | refine Bel.set ?_ ?_ _)))).mono ?_; rintro e w5 ⟨rfl, hb5⟩; (have hz5 := hb5.size; (try simp only [World.size_alloc, World.size_setCell, World.size_drew, World.heap_drewN] at hz5); have hk5_0 := hb5.box (w.heap.size) (by first | (simp; done) | (simp; omega) | omega); have hf5_0 := hb5.boxf (w.heap.size) (by first | (simp; done) | (simp; omega) | omega); have hl5_0 : w.heap.size < w5.heap.size := (by omega); have hn5_0 : ¬ w.heap.size = w5.heap.size := (by omega))))
  all_goals
    go_returns
    exact ⟨ret_str (HE.out.trans (by first | rfl | (simp only [ByteArray.append_assoc]; rfl) | (simp only [ByteArray.append_assoc]; congr 1))).symm, (by repeat' (first | with_reducible exact Bel.refl _ | with_reducible assumption | with_reducible refine Bel.set ?_ ?_ _ | with_reducible refine Bel.alloc ?_ _ | with_reducible refine Bel.drew ?_ | with_reducible refine Bel.drewN ?_ _ | with_reducible refine Bel.trans ?_ (by with_reducible assumption) | (simp; done) | (simp; omega) | refine Bel.alloc ?_ _ | refine Bel.drew ?_ | refine Bel.drewN ?_ _ | refine Bel.set ?_ ?_ _))⟩
set_option maxHeartbeats 2000000 in
theorem implFormat_23 (t : ByteArray) (n lo hi : Int)  : FmtC 9 (.mk 23 t n lo hi []) := by
  intro S w vs htab hv hsz
  have HT := hide htab
  have HV0 := hide hv
  obtain ⟨A, c, rfl, -, hts, hn, -, -, hR⟩ := TPattern.vals hv
  have HR := hide hR
  have HSZ := hide hsz
  have HN := hide hn
  have hlc := HR.out.1
  have hcm := HR.out.2.1
  simp only [List.length_map, List.length_cons, List.length_nil] at hlc
  unfold maxLen at hcm
  have hit := itoa_size hn
  clear hR hv hsz htab hn
  have HE : Hid ((TPattern.mk 23 t n lo hi []).fmt = (⟨#[70, 97, 105, 108]⟩ : ByteArray) ++ (⟨#[40, 41]⟩ : ByteArray)) := by show _ = _; simp only [TPattern.fmt]; rw [if_pos ⟨by decide, by decide, rfl⟩, fmtB_23]
  have f3 : (((0 : Nat) : Int) != ((kidsN 23 : Nat) : Int)) = false := by decide
  have f3' : ((0 : Int) != ((kidsN 23 : Nat) : Int)) = false := by decide
  go_enter Tryd.func9, Tryd.ntmps9
  go_wp2_with (fail)
  go_quiet ((go_at_call 28; exact quiet_ws (patternKids_any _ _)))
  go_wp2_with ((go_at_call 29; refine (implFormatInt_any n _ HN.out (HT.out.on (by repeat' (first | with_reducible exact Bel.refl _ | with_reducible assumption | with_reducible refine Bel.set ?_ ?_ _ | with_reducible refine Bel.alloc ?_ _ | with_reducible refine Bel.drew ?_ | with_reducible refine Bel.drewN ?_ _ | with_reducible refine Bel.trans ?_ (by with_reducible assumption) | (simp; done) | (simp; omega) | refine Bel.alloc ?_ _ | refine Bel.drew ?_ | refine Bel.drewN ?_ _ | refine Bel.set ?_ ?_ _)))).mono ?_; rintro e w5 ⟨rfl, hb5⟩; (have hz5 := hb5.size; (try simp only [World.size_alloc, World.size_setCell, World.size_drew, World.heap_drewN] at hz5); have hk5_0 := hb5.box (w.heap.size) (by first | (simp; done) | (simp; omega) | omega); have hf5_0 := hb5.boxf (w.heap.size) (by first | (simp; done) | (simp; omega) | omega); have hl5_0 : w.heap.size < w5.heap.size := (by omega); have hn5_0 : ¬ w.heap.size = w5.heap.size := (by omega))))
  all_goals
    go_returns
    exact ⟨ret_str (HE.out.trans (by first | rfl | (simp only [ByteArray.append_assoc]; rfl) | (simp only [ByteArray.append_assoc]; congr 1))).symm, (by repeat' (first | with_reducible exact Bel.refl _ | with_reducible assumption | with_reducible refine Bel.set ?_ ?_ _ | with_reducible refine Bel.alloc ?_ _ | with_reducible refine Bel.drew ?_ | with_reducible refine Bel.drewN ?_ _ | with_reducible refine Bel.trans ?_ (by with_reducible assumption) | (simp; done) | (simp; omega) | refine Bel.alloc ?_ _ | refine Bel.drew ?_ | refine Bel.drewN ?_ _ | refine Bel.set ?_ ?_ _))⟩
theorem implFormatPattern_any : ∀ t : TPattern, FmtC 9 t := by
  refine TPattern.ind fun op t n lo hi ks IH => ?_
  intro S w vs htab hv hsz
  by_cases h1 : op < 1
  · exact implFormat_lo t n lo hi ks op h1 S w vs htab hv hsz
  by_cases h2 : 23 < op
  · exact implFormat_hi t n lo hi ks op h2 S w vs htab hv hsz
  by_cases hm : ks.length = kidsN op
  case neg => exact implFormat_kids t n lo hi ks op (by omega) (by omega) hm S w vs htab hv hsz
  by_cases e1 : op = 1
  · subst e1
    match ks, hm, IH, hv, hsz with
    | [], _, _, hv, hsz => exact implFormat_1 t n lo hi S w vs htab hv hsz
  by_cases e2 : op = 2
  · subst e2
    match ks, hm, IH, hv, hsz with
    | [], _, _, hv, hsz => exact implFormat_2 t n lo hi S w vs htab hv hsz
  by_cases e3 : op = 3
  · subst e3
    match ks, hm, IH, hv, hsz with
    | [], _, _, hv, hsz => exact implFormat_3 t n lo hi S w vs htab hv hsz
  by_cases e4 : op = 4
  · subst e4
    match ks, hm, IH, hv, hsz with
    | [], _, _, hv, hsz => exact implFormat_4 t n lo hi S w vs htab hv hsz
  by_cases e5 : op = 5
  · subst e5
    match ks, hm, IH, hv, hsz with
    | [], _, _, hv, hsz => exact implFormat_5 t n lo hi S w vs htab hv hsz
  by_cases e6 : op = 6
  · subst e6
    match ks, hm, IH, hv, hsz with
    | [], _, _, hv, hsz => exact implFormat_6 t n lo hi S w vs htab hv hsz
  by_cases e7 : op = 7
  · subst e7
    match ks, hm, IH, hv, hsz with
    | [], _, _, hv, hsz => exact implFormat_7 t n lo hi S w vs htab hv hsz
  by_cases e8 : op = 8
  · subst e8
    match ks, hm, IH, hv, hsz with
    | [], _, _, hv, hsz => exact implFormat_8 t n lo hi S w vs htab hv hsz
  by_cases e9 : op = 9
  · subst e9
    match ks, hm, IH, hv, hsz with
    | [], _, _, hv, hsz => exact implFormat_9 t n lo hi S w vs htab hv hsz
  by_cases e10 : op = 10
  · subst e10
    match ks, hm, IH, hv, hsz with
    | [], _, _, hv, hsz => exact implFormat_10 t n lo hi S w vs htab hv hsz
  by_cases e11 : op = 11
  · subst e11
    match ks, hm, IH, hv, hsz with
    | [], _, _, hv, hsz => exact implFormat_11 t n lo hi S w vs htab hv hsz
  by_cases e12 : op = 12
  · subst e12
    match ks, hm, IH, hv, hsz with
    | [], _, _, hv, hsz => exact implFormat_12 t n lo hi S w vs htab hv hsz
  by_cases e13 : op = 13
  · subst e13
    match ks, hm, IH, hv, hsz with
    | [a], _, IH, hv, hsz => exact implFormat_13 t n lo hi a (IH 0 (by simp)) S w vs htab hv hsz
  by_cases e14 : op = 14
  · subst e14
    match ks, hm, IH, hv, hsz with
    | [a, b], _, IH, hv, hsz => exact implFormat_14 t n lo hi a b (IH 0 (by simp)) (IH 1 (by simp)) S w vs htab hv hsz
  by_cases e15 : op = 15
  · subst e15
    match ks, hm, IH, hv, hsz with
    | [a, b], _, IH, hv, hsz => exact implFormat_15 t n lo hi a b (IH 0 (by simp)) (IH 1 (by simp)) S w vs htab hv hsz
  by_cases e16 : op = 16
  · subst e16
    match ks, hm, IH, hv, hsz with
    | [a], _, IH, hv, hsz => exact implFormat_16 t n lo hi a (IH 0 (by simp)) S w vs htab hv hsz
  by_cases e17 : op = 17
  · subst e17
    match ks, hm, IH, hv, hsz with
    | [a], _, IH, hv, hsz => exact implFormat_17 t n lo hi a (IH 0 (by simp)) S w vs htab hv hsz
  by_cases e18 : op = 18
  · subst e18
    match ks, hm, IH, hv, hsz with
    | [], _, _, hv, hsz => exact implFormat_18 t n lo hi S w vs htab hv hsz
  by_cases e19 : op = 19
  · subst e19
    match ks, hm, IH, hv, hsz with
    | [], _, _, hv, hsz => exact implFormat_19 t n lo hi S w vs htab hv hsz
  by_cases e20 : op = 20
  · subst e20
    match ks, hm, IH, hv, hsz with
    | [], _, _, hv, hsz => exact implFormat_20 t n lo hi S w vs htab hv hsz
  by_cases e21 : op = 21
  · subst e21
    match ks, hm, IH, hv, hsz with
    | [], _, _, hv, hsz => exact implFormat_21 t n lo hi S w vs htab hv hsz
  by_cases e22 : op = 22
  · subst e22
    match ks, hm, IH, hv, hsz with
    | [], _, _, hv, hsz => exact implFormat_22 t n lo hi S w vs htab hv hsz
  by_cases e23 : op = 23
  · subst e23
    match ks, hm, IH, hv, hsz with
    | [], _, _, hv, hsz => exact implFormat_23 t n lo hi S w vs htab hv hsz
  omega
end Go.Proofs.YtmikipcfepgogaaDoor
