/- The text of a core: the walk of the reference. -/
import Derived.Test.YtpcimcamjlbagaaDoorP21
import Derived.Deep.RegionHeld3
import Derived.OwnWalk
import Derived.Deep.Cut
namespace Go.Proofs.YtpcimcamjlbagaaDoor
set_option linter.unusedVariables false
set_option linter.unusedSimpArgs false
set_option maxRecDepth 100000
open Go.RowKit

abbrev FcC (f : FuncId) (t : TCore) : Prop := ∀ (S : Nat → Prop) (w : World) (vs : List Value), Sp w → P10 w → Dat.HoldVals w S t.D vs → 200 * t.cnt + 4 * Dat.wtL t.D ≤ 1000000000 →
  Calls Tryd.prog f #[.agg vs.toArray] w fun e w' => e = .returned (.string t.fmt) ∧ Bel w w'
theorem fc_kids {k op n li : Int} {t : ByteArray} {ks : List TCore} : (TCore.mk k op n li t ks).cnt = 1 + TCore.cnts ks := by simp [TCore.cnt]
theorem TCore.cnts_get : ∀ (l : List TCore) (i : Nat) (h : i < l.length), l[i].cnt + (l.length - 1) ≤ TCore.cnts l
  | x :: r, 0, _ => by
    simp only [TCore.cnts, List.getElem_cons_zero, List.length_cons]
    have : ∀ l : List TCore, l.length ≤ TCore.cnts l := by
      intro l; induction l with
      | nil => simp
      | cons y q ih => cases y; simp only [TCore.cnts, TCore.cnt, List.length_cons]; omega
    have := this r
    omega
  | x :: r, i + 1, h => by
    have := TCore.cnts_get r i (by simpa using h)
    have h1 : 1 ≤ x.cnt := by cases x; simp only [TCore.cnt]; omega
    simp only [TCore.cnts, List.getElem_cons_succ, List.length_cons]
    have : 0 < r.length := by have : i < r.length := by simpa using h
                              omega
    omega
theorem wtR_get : ∀ (l : List (List Dat)) (i : Nat) (h : i < l.length), Dat.wtL l[i] ≤ Dat.wtR l
  | x :: r, 0, _ => by simp only [Dat.wtR, List.getElem_cons_zero]; omega
  | x :: r, i + 1, h => by
    have := wtR_get r i (by simpa using h)
    simp only [Dat.wtR, List.getElem_cons_succ]; omega
/-- A kid's bound. -/
theorem fc_kid {k op n li : Int} {t : ByteArray} {ks : List TCore} (h : 200 * (TCore.mk k op n li t ks).cnt + 4 * Dat.wtL (TCore.mk k op n li t ks).D ≤ 1000000000) (i : Nat) (hi : i < ks.length) : 200 * ks[i].cnt + 4 * Dat.wtL ks[i].D ≤ 1000000000 := by
  rw [TCore.D_mk] at h
  simp only [TCore.cnt, Dat.wtL, Dat.wt] at h
  have h1 := TCore.cnts_get ks i hi
  have h2 := wtR_get (ks.map TCore.D) i (by simpa using hi)
  rw [List.getElem_map] at h2
  omega
/-- The texts of the kids together. -/
theorem fc_sum {w : World} {S : Nat → Prop} {k op n li : Int} {t : ByteArray} {ks : List TCore} {A : Option Addr} {c : Nat} (hR : Row w S 6 A c (ks.map TCore.D)) (h : 200 * (TCore.mk k op n li t ks).cnt + 4 * Dat.wtL (TCore.mk k op n li t ks).D ≤ 1000000000) :
    sumS (ks.map TCore.fmt) + 2 * ks.length ≤ 1000000000 ∧ t.size ≤ 250000000 ∧ ks.length ≤ 250000000 := by
  have h0 := TCore.fmts_size ks A c hR
  rw [TCore.fmts_eq] at h0
  rw [TCore.D_mk] at h
  simp only [TCore.cnt, Dat.wtL, Dat.wt, List.length_map] at h
  omega
theorem join_size (b : ByteArray) (l : List ByteArray) (hb : b.size = 2) : (joinC b l).size ≤ 2 * l.length + sumS l := by
  have := joinC_size b l
  rw [hb] at this
  exact this
theorem own_slice {w : World} {base n : Nat} {E : TypeId} {v : Value} {l : List ByteArray} (h : w.ownsRow base E 1 v n (l.map Value.string)) (hn : l.length = n) (h0 : 0 < n) :
    ∃ g cap, v = .slice (some ⟨g, 0, none⟩) n cap ∧ g < w.heap.size ∧ n ≤ cap ∧ cap ≤ maxLen ∧ ∀ i (hi : i < l.length), w.cell? ⟨g, 0 + i, none⟩ = some (.string l[i]) := by
  obtain ⟨hl, ⟨rfl, hz⟩ | ⟨g, cap, cur, rfl, hb, hc, h1, h2, h3, h4⟩⟩ := h
  · omega
  · refine ⟨g, cap, rfl, (Array.getElem?_eq_some_iff.1 hc).1, h1, h2, fun i hi => ?_⟩
    rw [Nat.zero_add, cell_of_row w g i cur E (0, 0) hc]
    have : cur.toList[i]? = (cur.toList.take (n * 1))[i]? := by rw [List.getElem?_take_of_lt (by omega)]
    rw [← Array.getElem?_toList, this, h4]
    simp [hi]

theorem infoStr : (Tryd.prog.info? 9).map (fun i => (i.zero, i.size, i.bytes)) = some (some (.string ByteArray.empty), 1, 16) := by kernel_rfl
theorem own_bel {w w' : World} {base n : Nat} {E : TypeId} {k : Nat} {v : Value} {xs : List Value} (h : w.ownsRow base E k v n xs) (hb : Bel w w') : w'.ownsRow base E k v n xs := by
  obtain ⟨hl, ⟨rfl, hz⟩ | ⟨g, cap, cur, rfl, hbg, hc, h1, h2, h3, h4⟩⟩ := h
  · exact ⟨hl, Or.inl ⟨rfl, hz⟩⟩
  · exact ⟨hl, Or.inr ⟨g, cap, cur, rfl, hbg, (Below.block hb g (Array.getElem?_eq_some_iff.1 hc).1).trans hc, h1, h2, h3, h4⟩⟩
theorem cell_b {w w' : World} {g i : Nat} (hb : Bel w w') (hg : g < w.heap.size) : w'.cell? ⟨g, i, none⟩ = w.cell? ⟨g, i, none⟩ := hb.box g hg i
theorem midC_sizeQ (k op n : Int) (t : ByteArray) (hn : InI n) (ht : t.size ≤ 250000000) : (midC k op n t).size ≤ 1000000100 := by
  have hq := qt_size 34 t
  have ho := opT_size8 op
  have hi := itoa_size hn
  have e1 : (⟨#[58]⟩ : ByteArray).size = 1 := by decide
  unfold midC
  split
  · rw [ByteArray.size_append]; omega
  · split
    · rw [ByteArray.size_append]; omega
    · split
      · rw [ByteArray.size_append]; omega
      · decide
set_option maxHeartbeats 8000000 in
theorem specFC_mk (k op n li : Int) (t : ByteArray) (ks : List TCore) (IH : ∀ (i : Nat) (hi : i < ks.length), FcC 5 ks[i]) : FcC 5 (.mk k op n li t ks) := by
  intro S w vs hsp hp10 hv hsz
  have IH' := hide IH
  have HT := hide hsp
  have HP := hide hp10
  obtain ⟨A, c, rfl, -, hop, hn, -, hts, hR⟩ := TCore.vals hv
  have HR := hide hR
  have HSZ := hide hsz
  obtain ⟨hsum, htz, hkl⟩ := fc_sum hR hsz
  have HN := hide hn
  have hlc := HR.out.1
  have hcm := HR.out.2.1
  simp only [List.length_map] at hlc
  unfold maxLen at hcm
  have hms := midC_sizeQ k op n t hn htz
  have HMS := hide hms
  have hns := nmC_size k
  have hds : (nmC k ++ midC k op n t).size ≤ 1000000120 := by rw [ByteArray.size_append]; omega
  have HDS := hide hds
  have HE : Hid ((TCore.mk k op n li t ks).fmt = nmC k ++ midC k op n t ++ (if ks = [] then ByteArray.empty else ⟨#[40]⟩ ++ joinC ⟨#[44, 32]⟩ (ks.map TCore.fmt) ++ ⟨#[41]⟩)) := by
    show _ = _
    simp only [TCore.fmt, TCore.fmts_eq]
  have HQZ := hide (show t.size ≤ 300000000 by omega)
  clear hR hv hsz hsp hp10 hn hop IH hms hds
  obtain ⟨b1, hb1⟩ : ∃ b1, (decide ((1 : Int) ≤ k) && decide (k ≤ 28)) = b1 := ⟨_, rfl⟩
  have HB1 := hide hb1
  clear hb1
  go_enter Tryd.func5, Tryd.ntmps5
  go_upto_if 10 with (go_at_call 10; refine (l1In_any _ _ _ _).mono ?_; rintro e w9 ⟨rfl, rfl⟩; rw [HB1.out])
  go_cut [4] from 7 (fun v wx => v = .string (nmC k) ∧ Bel (w.alloc (.cells #[.int .i64 k, .int .i64 op, .int .i64 n, .int .i64 li, .string t, .slice A ks.length c] 29)) wx)
  case first =>
    cases b1
    · have hk : ¬ (1 ≤ k ∧ k ≤ 28) := by have := HB1.out; simp at this; omega
      have HK := hide (show nmC k = ⟨#[63]⟩ by unfold nmC; rw [if_neg hk])
      clear hk
      go_wp2_with (fail)
      all_goals go_meet
      all_goals exact ⟨by rw [HK.out], bl⟩
    · have hk : 1 ≤ k ∧ k ≤ 28 := by have := HB1.out; simp at this; omega
      rcases (by omega : k = 1 ∨ k = 2 ∨ k = 3 ∨ k = 4 ∨ k = 5 ∨ k = 6 ∨ k = 7 ∨ k = 8 ∨ k = 9 ∨ k = 10 ∨ k = 11 ∨ k = 12 ∨ k = 13 ∨ k = 14 ∨ k = 15 ∨ k = 16 ∨ k = 17 ∨ k = 18 ∨ k = 19 ∨ k = 20 ∨ k = 21 ∨ k = 22 ∨ k = 23 ∨ k = 24 ∨ k = 25 ∨ k = 26 ∨ k = 27 ∨ k = 28) with rfl | rfl | rfl | rfl | rfl | rfl | rfl | rfl | rfl | rfl | rfl | rfl | rfl | rfl | rfl | rfl | rfl | rfl | rfl | rfl | rfl | rfl | rfl | rfl | rfl | rfl | rfl | rfl
      all_goals clear hk
      all_goals (go_wp2_with (fail))
      all_goals go_meet
      all_goals exact ⟨congrArg Value.string (by decide), bl⟩
  case rest =>
    obtain ⟨rfl, hbc⟩ := hcut
    have hz0 := hbc.size
    simp only [World.size_alloc] at hz0
    have x0 := hbc.box w.heap.size (by simp)
    have hl0 : w.heap.size < wc.heap.size := by omega
    have hn0 : ¬ w.heap.size = wc.heap.size := by omega
    obtain ⟨b2, hb2⟩ : ∃ b2, ((k == 2) || (k == 3)) = b2 := ⟨_, rfl⟩
    have HB2 := hide hb2
    clear hb2
    go_upto_region 5 with (fail)
    go_cut [23] from 7 (fun v wx => v = .bool b2 ∧ Bel (w.alloc (.cells #[.int .i64 k, .int .i64 op, .int .i64 n, .int .i64 li, .string t, .slice A ks.length c] 29)) wx)
    case first =>
      by_cases h2 : k = 2
      · subst h2
        go_wp2_with (fail)
        all_goals go_meet
        all_goals exact ⟨by rw [← HB2.out]; rfl, bl⟩
      by_cases h3 : k = 3
      · subst h3
        go_wp2_with (fail)
        all_goals go_meet
        all_goals exact ⟨by rw [← HB2.out]; rfl, bl⟩
      have e2 : (k == 2) = false := by rw [beq_eq_false_iff_ne]; exact h2
      have e3 : (k == 3) = false := by rw [beq_eq_false_iff_ne]; exact h3
      clear h2 h3
      go_wp2_with (fail)
      all_goals go_meet
      all_goals exact ⟨by rw [← HB2.out, e2, e3]; rfl, bl⟩
    case rest =>
      obtain ⟨rfl, hbd⟩ := hcut
      clear hz0 x0 hl0 hn0
      have hz0 := hbd.size
      simp only [World.size_alloc] at hz0
      have x0 := hbd.box w.heap.size (by simp)
      have hl0 : w.heap.size < wc.heap.size := by omega
      have hn0 : ¬ w.heap.size = wc.heap.size := by omega
      go_upto_if 23 with (fail)
      go_cut [4] from 7 (fun v wx => v = .string (nmC k ++ midC k op n t) ∧ Bel (w.alloc (.cells #[.int .i64 k, .int .i64 op, .int .i64 n, .int .i64 li, .string t, .slice A ks.length c] 29)) wx)
      case first =>
        have gb := run_addS hns (show ((⟨#[58]⟩ : ByteArray)).size ≤ 1 by decide) (by omega)
        by_cases h2 : k = 2
        · subst h2
          obtain rfl : true = b2 := by rw [← HB2.out]; rfl
          have HM := hide (show midC 2 op n t = ⟨#[58]⟩ ++ qt 34 t by unfold midC; rw [if_pos (by simp)])
          have hq := qt_size 34 t
          have ga2 := run_addS (sz_app hns (show ((⟨#[58]⟩ : ByteArray)).size ≤ 1 by decide)) (show (qt 34 t).size ≤ 1000000100 by omega) (by omega)
          clear hq
          go_wp2_with (go_at_call 11; refine (specQuoteText_any t _ HQZ.out).mono ?_; rintro e w6 ⟨rfl, hb6⟩)
          all_goals go_meet
          all_goals exact ⟨by rw [HM.out]; first | rfl | (rw [ByteArray.append_assoc]), bl⟩
        by_cases h3 : k = 3
        · subst h3
          obtain rfl : true = b2 := by rw [← HB2.out]; rfl
          have HM := hide (show midC 3 op n t = ⟨#[58]⟩ ++ qt 34 t by unfold midC; rw [if_pos (by simp)])
          have hq := qt_size 34 t
          have ga2 := run_addS (sz_app hns (show ((⟨#[58]⟩ : ByteArray)).size ≤ 1 by decide)) (show (qt 34 t).size ≤ 1000000100 by omega) (by omega)
          clear hq
          go_wp2_with (go_at_call 11; refine (specQuoteText_any t _ HQZ.out).mono ?_; rintro e w6 ⟨rfl, hb6⟩)
          all_goals go_meet
          all_goals exact ⟨by rw [HM.out]; first | rfl | (rw [ByteArray.append_assoc]), bl⟩
        have e2 : (k == 2) = false := by rw [beq_eq_false_iff_ne]; exact h2
        have e3 : (k == 3) = false := by rw [beq_eq_false_iff_ne]; exact h3
        obtain rfl : false = b2 := by rw [← HB2.out, e2, e3]; rfl
        by_cases h11 : k = 11
        · subst h11
          have HM := hide (show midC 11 op n t = ⟨#[58]⟩ ++ opT op by unfold midC; rw [if_neg (by simp), if_pos rfl])
          have ga2 := run_addS (sz_app hns (show ((⟨#[58]⟩ : ByteArray)).size ≤ 1 by decide)) (opT_size8 op) (by omega)
          go_wp2_with (go_at_call 12; refine (specOperatorText_any op _).mono ?_; rintro e w6 ⟨rfl, hb6⟩)
          all_goals go_meet
          all_goals exact ⟨by rw [HM.out]; first | rfl | (rw [ByteArray.append_assoc]), bl⟩
        have e11 : (k == 11) = false := by rw [beq_eq_false_iff_ne]; exact h11
        obtain ⟨b5, hb5⟩ : ∃ b5, (decide ((5 : Int) ≤ k) && decide (k ≤ 10)) = b5 := ⟨_, rfl⟩
        have HB5 := hide hb5
        clear hb5
        by_cases h1 : k = 1 ∨ (5 ≤ k ∧ k ≤ 10)
        · have HM := hide (show midC k op n t = ⟨#[58]⟩ ++ ⟨(Lib.itoa n).toArray⟩ by unfold midC; rw [if_neg (by omega), if_neg h11, if_pos h1])
          have ga2 := run_addS (sz_app hns (show ((⟨#[58]⟩ : ByteArray)).size ≤ 1 by decide)) (itoa_size HN.out) (by omega)
          by_cases h01 : k = 1
          · subst h01
            clear h1 h2 h3 h11
            go_wp2_with (first | (go_at_call 10; refine (l1In_any _ _ _ _).mono ?_; rintro e w9 ⟨rfl, rfl⟩; rw [HB5.out]) | (go_at_call 13; refine (specFormatInt_any n _ HN.out).mono ?_; rintro e w6 ⟨rfl, hb6⟩))
            all_goals go_meet
            all_goals exact ⟨by rw [HM.out]; first | rfl | (rw [ByteArray.append_assoc]), bl⟩
          · have e1 : (k == 1) = false := by rw [beq_eq_false_iff_ne]; exact h01
            obtain rfl : true = b5 := by rw [← HB5.out]; simp; omega
            clear h1 h2 h3 h11 h01
            go_wp2_with (first | (go_at_call 10; refine (l1In_any _ _ _ _).mono ?_; rintro e w9 ⟨rfl, rfl⟩; rw [HB5.out]) | (go_at_call 13; refine (specFormatInt_any n _ HN.out).mono ?_; rintro e w6 ⟨rfl, hb6⟩))
            all_goals go_meet
            all_goals exact ⟨by rw [HM.out]; first | rfl | (rw [ByteArray.append_assoc]), bl⟩
        · have HM := hide (show midC k op n t = ByteArray.empty by unfold midC; rw [if_neg (by omega), if_neg h11, if_neg h1])
          have e1 : (k == 1) = false := by rw [beq_eq_false_iff_ne]; omega
          obtain rfl : false = b5 := by rw [← HB5.out]; simp; omega
          clear h1 h2 h3 h11
          go_wp2_with (go_at_call 10; refine (l1In_any _ _ _ _).mono ?_; rintro e w9 ⟨rfl, rfl⟩; rw [HB5.out])
          all_goals go_meet
          all_goals exact ⟨by rw [HM.out, ByteArray.append_empty], bl⟩
      case rest =>
        obtain ⟨rfl, hbk⟩ := hcut
        have hz0 := hbk.size
        simp only [World.size_alloc] at hz0
        have x0 := hbk.box w.heap.size (by simp)
        have hl0 : w.heap.size < wc.heap.size := by omega
        have hn0 : ¬ w.heap.size = wc.heap.size := by omega
        rcases Nat.eq_zero_or_pos ks.length with h0 | h0
        · obtain rfl : ks = [] := List.eq_nil_of_length_eq_zero h0
          have HE2 := hide (HE.out.trans (by rw [if_pos rfl, ByteArray.append_empty]))
          clear HE h0
          go_wp2_with (fail)
          all_goals
            go_returns
            exact ⟨ret_str (HE2.out.symm), bl⟩
        have hne : ks ≠ [] := by intro e; subst e; simp at h0
        have HE2 := hide (HE.out.trans (by rw [if_neg hne]))
        clear HE hne
        have fpos : decide (0 < (ks.length : Int)) = true := by simp; omega
        have fpos2 : decide (0 < ks.length) = true := by simp; omega
        obtain ⟨i0, hi0, iz0, iz1, iz2⟩ := info_parts infoStr
        go_wp2_with (fail)
        have hxw : ∀ (wx : World), Bel (w.alloc (.cells #[.int .i64 k, .int .i64 op, .int .i64 n, .int .i64 li, .string t, .slice A ks.length c] 29)) wx → Bel w wx := fun wx h => Bel.trans (Bel.alloc (Bel.refl w) _) h
        have HTk := hide (fun i hi => fc_kid HSZ.out i hi)
        go_loopw [5, 6] (fun v i wr => ∃ kk : Nat, i = .int .i64 kk ∧ kk ≤ ks.length ∧ wr.ownsRow wc.heap.size 9 1 v kk (((ks.map TCore.fmt).take kk).map Value.string) ∧ Bel (w.alloc (.cells #[.int .i64 k, .int .i64 op, .int .i64 n, .int .i64 li, .string t, .slice A ks.length c] 29)) wr ∧ wc.heap.size ≤ wr.heap.size) (fun _ i _ => ks.length - (intOf i).toNat)
        case atStart => exact ⟨0, rfl, by omega, own_new _ _ _ 0 #[] (by simp) rfl (by unfold maxLen; omega), bl, by simp⟩
        case round =>
          obtain ⟨m, rfl, hm, hown, hbx, hbz⟩ := hrel
          have hbw := hxw _ hbx
          have hz := hbx.size
          simp only [World.size_alloc] at hz
          have hx0 := hbx.box w.heap.size (by simp)
          by_cases h : m < ks.length
          · have hd : decide ((m : Int) < (ks.length : Int)) = true := by simp; omega
            (obtain ⟨b1, o1, x1_0, x1_1, x1_2, x1_3, x1_4, x1_5, A1_5, C1_5, hA1, hS1, hl1, hx1, hv1, g1_0, g1_1, g1_2, g1_3, g1_4, g1_5, c1_0, c1_1, c1_2, c1_3, c1_4, c1_5⟩ := TCore.at HR.out m h; subst hA1; have HV1 := hide (Dat.HoldVals.bel hbw hv1); have hh1 := hbw.box b1 hl1; have hw1 := Nat.lt_of_lt_of_le hl1 (Bel.size hbw); replace c1_0 := (hh1 _).trans c1_0; replace c1_1 := (hh1 _).trans c1_1; replace c1_2 := (hh1 _).trans c1_2; replace c1_3 := (hh1 _).trans c1_3; replace c1_4 := (hh1 _).trans c1_4; replace c1_5 := (hh1 _).trans c1_5; have HX1 := hide hx1; have GR1_5 := hide g1_5; clear hh1 hv1 hx1 hS1 g1_5)
            have hne1 : ¬ b1 = wr.heap.size := by omega
            have hfz : ks[m].fmt.size ≤ 1000000000 := by have := TCore.fmt_size ks[m] _ HV1.out; have := HTk.out m h; omega
            go_wp2_with (first | (go_at_call 5; (with_reducible refine (IH'.out m h S _ _ (HT.out.on bl) (HP.out.on bl) (Dat.HoldVals.bel bl HV1.out) (HTk.out m h)).mono ?_); rintro e w7 ⟨rfl, hb7⟩; (have hz7 := hb7.sz; obtain ⟨hk7_0, hf7_0, hl7_0, hn7_0⟩ := hb7.lay (w.heap.size))) | (at_builtin; (refine wpList_append_own _ rfl _ _ 34 rfl wc.heap.size 9 i0 (.string ByteArray.empty) 1 16 Tryd.underlying34 hi0 iz0 iz1 iz2 rfl (by decide) _ _ _ rfl ((own_bel hown bl)) ⟨w7.heap.size, 0, none⟩ 1 1 [.string ks[m].fmt] rfl rfl ?c1 ?c2 ?c3 ?c4 ?c5 ?_)))
            case c1 => exact cell_one_new _ _ _
            case c2 => intro u hu; simp at hu; subst hu; rfl
            case c3 => unfold maxLen; omega
            case c4 => omega
            case c5 => have := hb7.size; simp at this ⊢; omega
            intro v' w9 hown9 hgrow9 _
            have hbx9 : Bel (w.alloc (.cells #[.int .i64 k, .int .i64 op, .int .i64 n, .int .i64 li, .string t, .slice (some ⟨b1, o1, none⟩) ks.length c] 29)) w9 := Below.grown (show Bel (w.alloc (.cells #[.int .i64 k, .int .i64 op, .int .i64 n, .int .i64 li, .string t, .slice (some ⟨b1, o1, none⟩) ks.length c] 29)) _ from bl) hgrow9 (by have := hb7.size; simp at this ⊢; omega) (fun x hx => by have := (hown.lt x hx).1; simp; omega)
            have hz9 : wc.heap.size ≤ w9.heap.size := by have := hgrow9.size; have := hb7.size; simp at *; omega
            have HEQ : Hid (List.take m (List.map (Value.string ∘ TCore.fmt) ks) ++ [.string ks[m].fmt] = ((ks.map TCore.fmt).take (m + 1)).map Value.string) := by
              show _ = _
              rw [List.take_succ_eq_append_getElem (by simpa using h)]; simp
            rw [HEQ.out] at hown9
            clear hgrow9 hown
            go_wp2_with (fail)
            go_roundw
            case rel => exact ⟨m + 1, by go_num, by omega, hown9, hbx9, hz9⟩
            case measure => simp only [intOf]; omega
          · have hd : decide ((m : Int) < (ks.length : Int)) = false := by simp; omega
            obtain rfl : m = ks.length := by omega
            rw [show (ks.map TCore.fmt).take ks.length = ks.map TCore.fmt from List.take_of_length_le (by simp)] at hown
            obtain ⟨g, cap, rfl, hg, hcap, hcapm, hcells⟩ := own_slice hown (by simp) h0
            have HCE := hide hcells
            clear hcells hown
            have hjz := join_size ⟨#[44, 32]⟩ (ks.map TCore.fmt) (by decide)
            simp only [List.length_map] at hjz
            have ga5 := run_addS HDS.out (show ((⟨#[40]⟩ : ByteArray)).size ≤ 1 by decide) (by omega)
            have ga6 := run_addS (sz_app HDS.out (show ((⟨#[40]⟩ : ByteArray)).size ≤ 1 by decide)) (show (joinC ⟨#[44, 32]⟩ (ks.map TCore.fmt)).size ≤ 1000000000 by omega) (by omega)
            have ga7 := run_addS (sz_app (sz_app HDS.out (show ((⟨#[40]⟩ : ByteArray)).size ≤ 1 by decide)) (show (joinC ⟨#[44, 32]⟩ (ks.map TCore.fmt)).size ≤ 1000000000 by omega)) (show ((⟨#[41]⟩ : ByteArray)).size ≤ 1 by decide) (by omega)
            have HJ := hide (fun (wx : World) hb hc => l1Joined_any (ks.map TCore.fmt) ⟨#[44, 32]⟩ g 0 cap wx hb hc (by simpa using hcap) hcapm (by rw [show (⟨#[44, 32]⟩ : ByteArray).size = 2 by decide, List.length_map]; omega))
            simp only [List.length_map] at HJ
            go_wp2_with (go_at_call 14; refine (HJ.out _ (by have : g < wr.heap.size := hg; simp; omega) (fun i hi => (cell_b bl hg).trans (HCE.out i (by simpa using hi)))).mono ?_; rintro e w8 ⟨rfl, hb8⟩)
            all_goals
              go_returns
              exact ⟨ret_str (HE2.out.trans (by simp only [ByteArray.append_assoc])).symm, bl⟩
end Go.Proofs.YtpcimcamjlbagaaDoor
