/- The first fault of an expression: the program. -/
import Derived.Test.YtjodcciloflgbaaDoorPr
import Derived.Test.YtjodcciloflgbaaDoorPYu
namespace Go.Proofs.YtjodcciloflgbaaDoor
set_option linter.unusedVariables false
set_option linter.unusedSimpArgs false
set_option maxRecDepth 100000
open Go.RowKit
theorem out_ne1 (R : List TRecordType) (G : List ByteArray) (P : List TProcedure) (x : ByteArray) : (outP R G P x).1 ≠ 1 := by
 unfold outP
 repeat' split
 all_goals simp
theorem resV_kind (R : List TRecordType) (G : List ByteArray) (P : List TProcedure) (q : TProcedure) (x : ByteArray) : ((resV R G P q x).1 = 1 ↔ isL R G P q x = true) ∧ (isL R G P q x = false → (resV R G P q x).1 = (outP R G P x).1) := by
 unfold resV isL
 by_cases h : 0 ≤ Lib.idxOfS (locL R G P q) x
 ·
  rw [if_pos h, decide_eq_true h]; simp
 ·
  rw [if_neg h, decide_eq_false h]
  simp only [Bool.false_eq_true, iff_false, implies_true, and_true]
  exact out_ne1 R G P x
abbrev NodC (f : FuncId) (t : TExpr) : Prop := ∀ (R : List TRecordType) (G : List ByteArray) (P : List TProcedure) (i : Nat) (hi : i < P.length) (S : Nat → Prop) (w : World) (us vs : List Value) (loop made : Bool), Sp w → Dat.HoldVals w S (TUnit.mk R G P).D us → Dat.wtL (TUnit.mk R G P).D ≤ 1048576 → unitB (.mk R G P) = true → Dat.HoldVals w S t.D vs →
 Calls Tryd.prog f #[.agg us.toArray, .int .i64 (i : Int), .agg vs.toArray, .bool loop, .bool made] w fun e w' => e = .returned (.tuple #[.int .i64 (t.chk (isL R G P P[i]) (isG R G P) (isF R) loop made).1, .int .i64 (t.chk (isL R G P P[i]) (isG R G P) (isF R) loop made).2]) ∧ Bel w w'
set_option maxHeartbeats 8000000 in
theorem checkNode_of (hRes : ResC 9) (k n li : Int) (t : ByteArray) (ks : List TExpr) (IH : ∀ (j : Nat) (hj : j < ks.length), NodC 39 ks[j]) : NodC 39 (.mk k t n li ks) := by
 have HRES := hide hRes
 clear hRes
 intro R G P i hi S w us vs loop made hsp hu hwt hval hv
 have IH' := hide IH
 have HT := hide hsp
 have HU := hide hu
 have HWT := hide hwt
 have HVAL := hide hval
 have HRIN := hide (fun x => res_in (x := x) hval hi)
 obtain ⟨A0, c0, A1, c1, A2, c2, rfl, g0, -, -⟩ := TUnit.vals hu
 have HRR := hide g0
 have hlr := g0.1
 have hcr := g0.2.1
 simp only [List.length_map] at hlr
 unfold maxLen at hcr
 obtain ⟨A, c, rfl, -, hts, -, -, hR⟩ := TExpr.vals hv
 have HR := hide hR
 have hlc := HR.out.1
 have hcm := HR.out.2.1
 simp only [List.length_map] at hlc
 unfold maxLen at hcm
 clear IH hR hv hu hsp hwt hval g0 hts
 go_enter Tryd.func39, Tryd.ntmps39
 go_upto_block 0 with (fail)
 go_cut [] from 12 (fun wx => Hid (hereC (isL R G P P[i]) (isG R G P) (isF R) k t li loop made = (0, 0)) ∧ Bel ((w.alloc (.cells #[.slice A0 R.length c0, .slice A1 G.length c1, .slice A2 P.length c2] 33)).alloc (.cells #[.int .i64 k, .string t, .int .i64 n, .int .i64 li, .slice A ks.length c] 60)) wx)
 case first =>
  by_cases k24 : k = 24
  case pos => as_aux_lemma =>
   subst k24
   cases loop
   case false =>
    have RR := hide (show (TExpr.mk 24 t n li ks).chk (isL R G P P[i]) (isG R G P) (isF R) false made = (4, li) from chk_here (here_4 (Or.inl ⟨by omega, rfl⟩)) (by omega))
    go_wp2_with (fail)
    all_goals (try (go_quiet (fail)))
    all_goals (try (go_wp2_with (fail)))
    all_goals
     go_returns
     exact ⟨ret_pair RR.out, bl⟩
   case true =>
    have HH := hide (show hereC (isL R G P P[i]) (isG R G P) (isF R) 24 t li true made = (0, 0) from here_0 (by simp) (by omega) (by omega))
    go_wp2_with (fail)
    all_goals go_meet
    all_goals exact ⟨hide HH.out, bl⟩
  case neg =>
  by_cases k25 : k = 25
  case pos => as_aux_lemma =>
   subst k25
   cases loop
   case false =>
    have RR := hide (show (TExpr.mk 25 t n li ks).chk (isL R G P P[i]) (isG R G P) (isF R) false made = (4, li) from chk_here (here_4 (Or.inl ⟨by omega, rfl⟩)) (by omega))
    go_wp2_with (fail)
    all_goals (try (go_quiet (fail)))
    all_goals (try (go_wp2_with (fail)))
    all_goals
     go_returns
     exact ⟨ret_pair RR.out, bl⟩
   case true =>
    have HH := hide (show hereC (isL R G P P[i]) (isG R G P) (isF R) 25 t li true made = (0, 0) from here_0 (by simp) (by omega) (by omega))
    go_wp2_with (fail)
    all_goals go_meet
    all_goals exact ⟨hide HH.out, bl⟩
  case neg =>
  by_cases k21 : k = 21
  case pos => as_aux_lemma =>
   subst k21
   cases made
   case true =>
    have RR := hide (show (TExpr.mk 21 t n li ks).chk (isL R G P P[i]) (isG R G P) (isF R) loop true = (4, li) from chk_here (here_4 (Or.inr ⟨by omega, rfl⟩)) (by omega))
    go_wp2_with (fail)
    all_goals (try (go_quiet (fail)))
    all_goals (try (go_wp2_with (fail)))
    all_goals
     go_returns
     exact ⟨ret_pair RR.out, bl⟩
   case false =>
    have HH := hide (show hereC (isL R G P P[i]) (isG R G P) (isF R) 21 t li loop false = (0, 0) from here_0 (by simp) (by omega) (by omega))
    go_wp2_with (fail)
    all_goals go_meet
    all_goals exact ⟨hide HH.out, bl⟩
  case neg =>
  by_cases k22 : k = 22
  case pos => as_aux_lemma =>
   subst k22
   cases made
   case true =>
    have RR := hide (show (TExpr.mk 22 t n li ks).chk (isL R G P P[i]) (isG R G P) (isF R) loop true = (4, li) from chk_here (here_4 (Or.inr ⟨by omega, rfl⟩)) (by omega))
    go_wp2_with (fail)
    all_goals (try (go_quiet (fail)))
    all_goals (try (go_wp2_with (fail)))
    all_goals
     go_returns
     exact ⟨ret_pair RR.out, bl⟩
   case false =>
    have HH := hide (show hereC (isL R G P P[i]) (isG R G P) (isF R) 22 t li loop false = (0, 0) from here_0 (by simp) (by omega) (by omega))
    go_wp2_with (fail)
    all_goals go_meet
    all_goals exact ⟨hide HH.out, bl⟩
  case neg =>
  by_cases k23 : k = 23
  case pos => as_aux_lemma =>
   subst k23
   cases made
   case true =>
    have RR := hide (show (TExpr.mk 23 t n li ks).chk (isL R G P P[i]) (isG R G P) (isF R) loop true = (4, li) from chk_here (here_4 (Or.inr ⟨by omega, rfl⟩)) (by omega))
    go_wp2_with (fail)
    all_goals (try (go_quiet (fail)))
    all_goals (try (go_wp2_with (fail)))
    all_goals
     go_returns
     exact ⟨ret_pair RR.out, bl⟩
   case false =>
    have HH := hide (show hereC (isL R G P P[i]) (isG R G P) (isF R) 23 t li loop false = (0, 0) from here_0 (by simp) (by omega) (by omega))
    go_wp2_with (fail)
    all_goals go_meet
    all_goals exact ⟨hide HH.out, bl⟩
  case neg =>
  by_cases k13 : k = 13
  case pos => as_aux_lemma =>
   subst k13
   cases hF : isF R t
   case false =>
    have HF := hide hF
    have RR := hide (show (TExpr.mk 13 t n li ks).chk (isL R G P P[i]) (isG R G P) (isF R) loop made = (5, li) from chk_here (here_5 rfl hF) (by omega))
    clear hF
    go_wp2_with (fail)
    go_loopw [12, 43] (fun fv iv wr => ∃ (j : Nat) (fb : Bool), iv = .int .i64 j ∧ fv = .bool fb ∧ j ≤ R.length ∧ Hid (fb = (R.take j).any fun r => Lib.containsS r.fields t) ∧ Bel ((w.alloc (.cells #[.slice A0 R.length c0, .slice A1 G.length c1, .slice A2 P.length c2] 33)).alloc (.cells #[.int .i64 13, .string t, .int .i64 n, .int .i64 li, .slice A ks.length c] 60)) wr) (fun _ iv _ => R.length - (intOf iv).toNat)
    case atStart => exact ⟨0, false, rfl, rfl, by omega, hide (by simp), bl⟩
    case round => as_aux_lemma =>
     obtain ⟨j, fb, rfl, rfl, hj, hfb, hbx⟩ := hrel
     have hz0 := hbx.size
     simp only [World.size_alloc] at hz0
     have x0 := hbx.box w.heap.size (by simp; omega)
     have y0 := hbx.box (w.heap.size + 1) (by simp)
     have hl0 : w.heap.size < wr.heap.size := by omega
     have hl1 : w.heap.size + 1 < wr.heap.size := by omega
     have hq0 : ¬ w.heap.size = wr.heap.size := by omega
     have hq1 : ¬ w.heap.size + 1 = wr.heap.size := by omega
     have p0_0 : wr.cell? ⟨w.heap.size, 0, none⟩ = some (.slice A0 R.length c0) := (x0 0).trans (by simp)
     have p1_1 : wr.cell? ⟨w.heap.size + 1, 1, none⟩ = some (.string t) := (y0 1).trans (by simp)
     by_cases h1 : j < R.length
     case neg =>
      have hd : decide ((j : Int) < (R.length : Int)) = false := by simp; omega
      have hdn : decide (j < R.length) = false := by simp; omega
      have hfz : fb = false := by rw [hfb.out, List.take_of_length_le (by omega)]; exact HF.out
      subst hfz
      clear hfb
      go_wp2_with (fail)
      all_goals (try (go_quiet (fail)))
      all_goals (try (go_wp2_with (fail)))
      all_goals
       go_returns
       exact ⟨ret_pair RR.out, bl⟩
     case pos =>
     have hd : decide ((j : Int) < (R.length : Int)) = true := by simp; omega
     have hbw : Bel w wr := bl
     (obtain ⟨b1, o1, x1_0, x1_1, x1_2, A1_1, C1_1, hA1, hS1, hl1, hx1, hv1, g1_0, g1_1, g1_2, c1_0, c1_1, c1_2⟩ := TRecordType.at HRR.out j h1; subst hA1; have HV1 := hide (Dat.HoldVals.bel hbw hv1); have hh1 := hbw.box b1 hl1; have hw1 := Nat.lt_of_lt_of_le hl1 (Bel.size hbw); replace c1_0 := (hh1 _).trans c1_0; replace c1_1 := (hh1 _).trans c1_1; replace c1_2 := (hh1 _).trans c1_2; have HX1 := hide hx1; have GR1_1 := hide g1_1; clear hh1 hv1 hx1 hS1 g1_1)
     have hne1 : ¬ b1 = wr.heap.size := by omega
     have HFL := hide (show R[j].fields = x1_1 by rw [HX1.out]; rfl)
     have HNX := hide (any_take_hit (fun r => Lib.containsS r.fields t) R j h1 fb hfb.out)
     clear hfb
     cases fb
     case true =>
      go_wp2_with (fail)
      all_goals (try (go_quiet (fail)))
      all_goals (try (go_wp2_with (fail)))
      all_goals go_roundw
      case rel => exact ⟨j + 1, true, by go_num, rfl, by omega, hide (by rw [← HNX.out]; rfl), bl⟩
      case measure => simp [intOf]; omega
     case false =>
     go_wp2_with (go_at_call 60; refine (contains_row x1_1 t S _ _ _ (Row.bel bl GR1_1.out)).mono ?_; rintro e w2 ⟨rfl, rfl⟩)
     all_goals go_roundw
     case rel => exact ⟨j + 1, Lib.containsS x1_1 t, by go_num, rfl, by omega, hide (by rw [← HNX.out, HFL.out]; rfl), bl⟩
     case measure => simp [intOf]; omega
   case true =>
    have HF := hide hF
    have HH := hide (show hereC (isL R G P P[i]) (isG R G P) (isF R) 13 t li loop made = (0, 0) from here_0 (by omega) (fun _ => hF) (by omega))
    clear hF
    go_wp2_with (fail)
    go_loopw [12, 43] (fun fv iv wr => ∃ (j : Nat) (fb : Bool), iv = .int .i64 j ∧ fv = .bool fb ∧ j ≤ R.length ∧ Hid (fb = (R.take j).any fun r => Lib.containsS r.fields t) ∧ Bel ((w.alloc (.cells #[.slice A0 R.length c0, .slice A1 G.length c1, .slice A2 P.length c2] 33)).alloc (.cells #[.int .i64 13, .string t, .int .i64 n, .int .i64 li, .slice A ks.length c] 60)) wr) (fun _ iv _ => R.length - (intOf iv).toNat)
    case atStart => exact ⟨0, false, rfl, rfl, by omega, hide (by simp), bl⟩
    case round => as_aux_lemma =>
     obtain ⟨j, fb, rfl, rfl, hj, hfb, hbx⟩ := hrel
     have hz0 := hbx.size
     simp only [World.size_alloc] at hz0
     have x0 := hbx.box w.heap.size (by simp; omega)
     have y0 := hbx.box (w.heap.size + 1) (by simp)
     have hl0 : w.heap.size < wr.heap.size := by omega
     have hl1 : w.heap.size + 1 < wr.heap.size := by omega
     have hq0 : ¬ w.heap.size = wr.heap.size := by omega
     have hq1 : ¬ w.heap.size + 1 = wr.heap.size := by omega
     have p0_0 : wr.cell? ⟨w.heap.size, 0, none⟩ = some (.slice A0 R.length c0) := (x0 0).trans (by simp)
     have p1_1 : wr.cell? ⟨w.heap.size + 1, 1, none⟩ = some (.string t) := (y0 1).trans (by simp)
     by_cases h1 : j < R.length
     case neg =>
      have hd : decide ((j : Int) < (R.length : Int)) = false := by simp; omega
      have hdn : decide (j < R.length) = false := by simp; omega
      have hfz : fb = true := by rw [hfb.out, List.take_of_length_le (by omega)]; exact HF.out
      subst hfz
      clear hfb
      go_wp2_with (fail)
      all_goals go_meet
      all_goals exact ⟨hide HH.out, bl⟩
     case pos =>
     have hd : decide ((j : Int) < (R.length : Int)) = true := by simp; omega
     have hbw : Bel w wr := bl
     (obtain ⟨b1, o1, x1_0, x1_1, x1_2, A1_1, C1_1, hA1, hS1, hl1, hx1, hv1, g1_0, g1_1, g1_2, c1_0, c1_1, c1_2⟩ := TRecordType.at HRR.out j h1; subst hA1; have HV1 := hide (Dat.HoldVals.bel hbw hv1); have hh1 := hbw.box b1 hl1; have hw1 := Nat.lt_of_lt_of_le hl1 (Bel.size hbw); replace c1_0 := (hh1 _).trans c1_0; replace c1_1 := (hh1 _).trans c1_1; replace c1_2 := (hh1 _).trans c1_2; have HX1 := hide hx1; have GR1_1 := hide g1_1; clear hh1 hv1 hx1 hS1 g1_1)
     have hne1 : ¬ b1 = wr.heap.size := by omega
     have HFL := hide (show R[j].fields = x1_1 by rw [HX1.out]; rfl)
     have HNX := hide (any_take_hit (fun r => Lib.containsS r.fields t) R j h1 fb hfb.out)
     clear hfb
     cases fb
     case true =>
      go_wp2_with (fail)
      all_goals (try (go_quiet (fail)))
      all_goals (try (go_wp2_with (fail)))
      all_goals go_roundw
      case rel => exact ⟨j + 1, true, by go_num, rfl, by omega, hide (by rw [← HNX.out]; rfl), bl⟩
      case measure => simp [intOf]; omega
     case false =>
     go_wp2_with (go_at_call 60; refine (contains_row x1_1 t S _ _ _ (Row.bel bl GR1_1.out)).mono ?_; rintro e w2 ⟨rfl, rfl⟩)
     all_goals go_roundw
     case rel => exact ⟨j + 1, Lib.containsS x1_1 t, by go_num, rfl, by omega, hide (by rw [← HNX.out, HFL.out]; rfl), bl⟩
     case measure => simp [intOf]; omega
  case neg =>
  by_cases k28 : k = 28
  case pos => as_aux_lemma =>
   subst k28
   have HRK := hide (resV_kind R G P P[i] t)
   obtain ⟨⟨rc, rk⟩, hrv⟩ : ∃ q, resV R G P P[i] t = q := ⟨_, rfl⟩
   have HRF := hide (show resF R G P (i : Int) t = (rc, rk) from (HRIN.out t).trans hrv)
   have HRV := hide hrv
   clear hrv
   by_cases hl : isL R G P P[i] t = true
   case pos =>
    have hrc : rc = 1 := by have h := HRK.out.1.2 hl; rw [HRV.out] at h; exact h
    subst hrc
    have HH := hide (show hereC (isL R G P P[i]) (isG R G P) (isF R) 28 t li loop made = (0, 0) from here_0 (by omega) (by omega) (fun _ => by rw [hl]; rfl))
    clear hl
    go_wp2_with (go_at_call 9; refine (HRES.out R G P (i : Int) t S _ _ (HT.out.on bl) (Dat.HoldVals.bel bl HU.out) HWT.out).mono ?_; rintro e w2 ⟨rfl, hb2⟩; rw [HRF.out]; (have hz2 := hb2.sz; obtain ⟨hk2_0, hf2_0, hl2_0, hn2_0⟩ := hb2.lay (w.heap.size); obtain ⟨hk2_1, hf2_1, hl2_1, hn2_1⟩ := hb2.lay (w.heap.size + 1)))
    all_goals go_meet
    all_goals exact ⟨hide HH.out, bl⟩
   case neg =>
   have hlf : isL R G P P[i] t = false := by simpa using hl
   have hrc1 : (rc != 1) = true := by
    rw [bne_iff_ne]; intro q; exact hl (HRK.out.1.1 (by rw [HRV.out]; exact q))
   have HRC := hide (show rc = (outP R G P t).1 by have h := HRK.out.2 hlf; rw [HRV.out] at h; exact h)
   by_cases h2 : rc = 2
   case pos =>
    have HH := hide (show hereC (isL R G P P[i]) (isG R G P) (isF R) 28 t li loop made = (0, 0) from here_0 (by omega) (by omega) (fun _ => by rw [show isG R G P t = true by unfold isG; rw [← HRC.out, h2]; rfl, Bool.or_true]))
    subst h2
    clear hl hlf
    go_wp2_with (go_at_call 9; refine (HRES.out R G P (i : Int) t S _ _ (HT.out.on bl) (Dat.HoldVals.bel bl HU.out) HWT.out).mono ?_; rintro e w2 ⟨rfl, hb2⟩; rw [HRF.out]; (have hz2 := hb2.sz; obtain ⟨hk2_0, hf2_0, hl2_0, hn2_0⟩ := hb2.lay (w.heap.size); obtain ⟨hk2_1, hf2_1, hl2_1, hn2_1⟩ := hb2.lay (w.heap.size + 1)))
    all_goals go_meet
    all_goals exact ⟨hide HH.out, bl⟩
   case neg =>
   have RR := hide (show (TExpr.mk 28 t n li ks).chk (isL R G P P[i]) (isG R G P) (isF R) loop made = (6, li) from chk_here (here_6 rfl hlf (by unfold isG; rw [← HRC.out]; simpa using h2)) (by omega))
   have hrc2 : (rc != 2) = true := by simpa using h2
   clear hl hlf h2
   go_wp2_with (go_at_call 9; refine (HRES.out R G P (i : Int) t S _ _ (HT.out.on bl) (Dat.HoldVals.bel bl HU.out) HWT.out).mono ?_; rintro e w2 ⟨rfl, hb2⟩; rw [HRF.out]; (have hz2 := hb2.sz; obtain ⟨hk2_0, hf2_0, hl2_0, hn2_0⟩ := hb2.lay (w.heap.size); obtain ⟨hk2_1, hf2_1, hl2_1, hn2_1⟩ := hb2.lay (w.heap.size + 1)))
   all_goals (try (go_quiet (fail)))
   all_goals (try (go_wp2_with (fail)))
   all_goals
    go_returns
    exact ⟨ret_pair RR.out, bl⟩
  case neg =>
  have HH := hide (show hereC (isL R G P P[i]) (isG R G P) (isF R) k t li loop made = (0, 0) from here_0 (by omega) (by omega) (by omega))
  have e24 : (k == 24) = false := by rw [beq_eq_false_iff_ne]; exact k24
  have e25 : (k == 25) = false := by rw [beq_eq_false_iff_ne]; exact k25
  have e21 : (k == 21) = false := by rw [beq_eq_false_iff_ne]; exact k21
  have e22 : (k == 22) = false := by rw [beq_eq_false_iff_ne]; exact k22
  have e23 : (k == 23) = false := by rw [beq_eq_false_iff_ne]; exact k23
  have e13 : (k == 13) = false := by rw [beq_eq_false_iff_ne]; exact k13
  have e28 : (k == 28) = false := by rw [beq_eq_false_iff_ne]; exact k28
  clear k24 k25 k21 k22 k23 k13 k28
  go_wp2_with (fail)
  all_goals go_meet
  all_goals exact ⟨hide HH.out, bl⟩
 case rest =>
 obtain ⟨hh, hbc⟩ := hcut
 have hz0 := hbc.size
 simp only [World.size_alloc] at hz0
 have x0 := hbc.box w.heap.size (by simp; omega)
 have y0 := hbc.box (w.heap.size + 1) (by simp)
 have hl0 : w.heap.size < wc.heap.size := by omega
 have hl1 : w.heap.size + 1 < wc.heap.size := by omega
 have hn0 : ¬ w.heap.size = wc.heap.size := by omega
 have hn1 : ¬ w.heap.size + 1 = wc.heap.size := by omega
 have HE := hide (show (TExpr.mk k t n li ks).chk (isL R G P P[i]) (isG R G P) (isF R) loop made = TExpr.chks (isL R G P P[i]) (isG R G P) (isF R) k loop (made || decide (k = 26)) 0 (ks.drop 0) from chk_kids hh.out)
 clear hh
 go_wp2_with (fail)
 clear hz0 x0 y0 hl0 hl1 hn0 hn1
 go_loopw [81] (fun iv wr => ∃ m : Nat, iv = .int .i64 m ∧ m ≤ ks.length ∧ Hid ((TExpr.mk k t n li ks).chk (isL R G P P[i]) (isG R G P) (isF R) loop made = TExpr.chks (isL R G P P[i]) (isG R G P) (isF R) k loop (made || decide (k = 26)) m (ks.drop m)) ∧ Bel ((w.alloc (.cells #[.slice A0 R.length c0, .slice A1 G.length c1, .slice A2 P.length c2] 33)).alloc (.cells #[.int .i64 k, .string t, .int .i64 n, .int .i64 li, .slice A ks.length c] 60)) wr) (fun iv _ => ks.length - (intOf iv).toNat)
 case atStart => exact ⟨0, rfl, by omega, hide HE.out, bl⟩
 case round => as_aux_lemma =>
  obtain ⟨m, rfl, hm, hinv, hbx⟩ := hrel
  have hz0 := hbx.size
  simp only [World.size_alloc] at hz0
  have x0 := hbx.box w.heap.size (by simp; omega)
  have y0 := hbx.box (w.heap.size + 1) (by simp)
  have hl0 : w.heap.size < wr.heap.size := by omega
  have hl1 : w.heap.size + 1 < wr.heap.size := by omega
  have hn0 : ¬ w.heap.size = wr.heap.size := by omega
  have hn1 : ¬ w.heap.size + 1 = wr.heap.size := by omega
  have p1_4 : wr.cell? ⟨w.heap.size + 1, 4, none⟩ = some (.slice A ks.length c) := (y0 4).trans (by simp)
  by_cases h1 : m < ks.length
  case neg => as_aux_lemma =>
   have hd : decide ((m : Int) < (ks.length : Int)) = false := by simp; omega
   have hdn : decide (m < ks.length) = false := by simp; omega
   have RR := hide (show (TExpr.mk k t n li ks).chk (isL R G P P[i]) (isG R G P) (isF R) loop made = (0, 0) by rw [hinv.out, TExpr.chks_end (by omega)])
   clear hinv
   go_wp2_with (fail)
   all_goals
    go_returns
    exact ⟨ret_pair RR.out, bl⟩
  case pos =>
  have hd : decide ((m : Int) < (ks.length : Int)) = true := by simp; omega
  have HNX := hide (hinv.out.trans (TExpr.chks_at h1))
  clear hinv
  obtain ⟨il, hil⟩ : ∃ il, inC k m loop = il := ⟨_, rfl⟩
  have HIL := hide hil
  clear hil
  have p1_0 : wr.cell? ⟨w.heap.size + 1, 0, none⟩ = some (.int .i64 k) := (y0 0).trans (by simp)
  have hbw : Bel w wr := bl
  have hle1 := hl1
  (obtain ⟨b1, o1, x1_0, x1_1, x1_2, x1_3, x1_4, A1_4, C1_4, hA1, hS1, hl1, hx1, hv1, g1_0, g1_1, g1_2, g1_3, g1_4, c1_0, c1_1, c1_2, c1_3, c1_4⟩ := TExpr.at HR.out m h1; subst hA1; have HV1 := hide (Dat.HoldVals.bel hbw hv1); have hh1 := hbw.box b1 hl1; have hw1 := Nat.lt_of_lt_of_le hl1 (Bel.size hbw); replace c1_0 := (hh1 _).trans c1_0; replace c1_1 := (hh1 _).trans c1_1; replace c1_2 := (hh1 _).trans c1_2; replace c1_3 := (hh1 _).trans c1_3; replace c1_4 := (hh1 _).trans c1_4; have HX1 := hide hx1; have GR1_4 := hide g1_4; clear hh1 hv1 hx1 hS1 g1_4)
  have hne1 : ¬ b1 = wr.heap.size := by omega
  go_upto_block 5 with (fail)
  go_cut [19] from 87 to 118 (fun v wx => v = .bool il ∧ Bel (wr.alloc (.cells #[.int .i64 x1_0, .string x1_1, .int .i64 x1_2, .int .i64 x1_3, .slice A1_4 x1_4.length C1_4] 60)) wx)
  case first =>
   by_cases k16 : k = 16
   case pos => as_aux_lemma =>
    subst k16
    by_cases hm1 : m = 1
    case pos =>
     exact rk10
    case neg =>
    obtain rfl : false = il := by rw [← HIL.out]; unfold inC; rw [if_pos (by omega)]; simpa using hm1
    have em : ((m : Int) == 1) = false := by simp; omega
    go_wp2_with (fail)
    all_goals go_meet
    all_goals exact ⟨rfl, bl⟩
   case neg =>
   by_cases k17 : k = 17
   case pos => as_aux_lemma =>
    subst k17
    by_cases hm1 : m = 1
    case pos =>
     exact rk10
    case neg =>
    obtain rfl : false = il := by rw [← HIL.out]; unfold inC; rw [if_pos (by omega)]; simpa using hm1
    have em : ((m : Int) == 1) = false := by simp; omega
    go_wp2_with (fail)
    all_goals go_meet
    all_goals exact ⟨rfl, bl⟩
   case neg =>
   by_cases k18 : k = 18
   case pos => as_aux_lemma =>
    subst k18
    by_cases hm1 : m = 1
    case pos =>
     exact rk10
    case neg =>
    obtain rfl : false = il := by rw [← HIL.out]; unfold inC; rw [if_pos (by omega)]; simpa using hm1
    have em : ((m : Int) == 1) = false := by simp; omega
    go_wp2_with (fail)
    all_goals go_meet
    all_goals exact ⟨rfl, bl⟩
   case neg =>
   by_cases k19 : k = 19
   case pos => as_aux_lemma =>
    subst k19
    obtain rfl : true = il := by rw [← HIL.out]; unfold inC; simp
    go_wp2_with (fail)
    all_goals go_meet
    all_goals exact ⟨rfl, bl⟩
   case neg =>
   by_cases k26 : k = 26
   case pos => as_aux_lemma =>
    subst k26
    obtain rfl : false = il := by rw [← HIL.out]; unfold inC; simp
    go_wp2_with (fail)
    all_goals go_meet
    all_goals exact ⟨rfl, bl⟩
   case neg =>
   by_cases k24 : k = 24
   case pos => as_aux_lemma =>
    subst k24
    obtain rfl : false = il := by rw [← HIL.out]; unfold inC; simp
    go_wp2_with (fail)
    all_goals go_meet
    all_goals exact ⟨rfl, bl⟩
   case neg =>
   obtain rfl : loop = il := by rw [← HIL.out]; unfold inC; rw [if_neg (by omega), if_neg (by omega), if_neg (by omega)]
   have e16 : (k == 16) = false := by rw [beq_eq_false_iff_ne]; exact k16
   have e17 : (k == 17) = false := by rw [beq_eq_false_iff_ne]; exact k17
   have e18 : (k == 18) = false := by rw [beq_eq_false_iff_ne]; exact k18
   have e19 : (k == 19) = false := by rw [beq_eq_false_iff_ne]; exact k19
   have e26 : (k == 26) = false := by rw [beq_eq_false_iff_ne]; exact k26
   have e24 : (k == 24) = false := by rw [beq_eq_false_iff_ne]; exact k24
   clear k16 k17 k18 k19 k26 k24
   go_wp2_with (fail)
   all_goals go_meet
   all_goals exact ⟨rfl, bl⟩
  case rest =>
  obtain ⟨hv19, hbe⟩ := hcut
  subst hv19
  have hz1 := hbe.size
  simp only [World.size_alloc] at hz1
  have u0 := hbe.box w.heap.size (by simp; omega)
  have u1 := hbe.box (w.heap.size + 1) (by simp; omega)
  have u2 := hbe.box wr.heap.size (by simp)
  have u3 := hbe.box b1 (by simp; omega)
  have hc0 : w.heap.size < wc.heap.size := by omega
  have hc1 : w.heap.size + 1 < wc.heap.size := by omega
  have hc2 : wr.heap.size < wc.heap.size := by omega
  have hc3 : ¬ w.heap.size = wc.heap.size := by omega
  have hc4 : ¬ w.heap.size + 1 = wc.heap.size := by omega
  have hc5 : ¬ wr.heap.size = wc.heap.size := by omega
  have q0_0 : wc.cell? ⟨w.heap.size, 0, none⟩ = some (.slice A0 R.length c0) := (Bel.box (W := wr) bl w.heap.size hl0 0).trans ((x0 0).trans (by simp))
  have q0_1 : wc.cell? ⟨w.heap.size, 1, none⟩ = some (.slice A1 G.length c1) := (Bel.box (W := wr) bl w.heap.size hl0 1).trans ((x0 1).trans (by simp))
  have q0_2 : wc.cell? ⟨w.heap.size, 2, none⟩ = some (.slice A2 P.length c2) := (Bel.box (W := wr) bl w.heap.size hl0 2).trans ((x0 2).trans (by simp))
  have q1_0 : wc.cell? ⟨w.heap.size + 1, 0, none⟩ = some (.int .i64 k) := (Bel.box (W := wr) bl (w.heap.size + 1) hle1 0).trans p1_0
  have q2_0 : wc.cell? ⟨wr.heap.size, 0, none⟩ = some (.int .i64 x1_0) := (u2 0).trans (by simp)
  have q2_1 : wc.cell? ⟨wr.heap.size, 1, none⟩ = some (.string x1_1) := (u2 1).trans (by simp)
  have q2_2 : wc.cell? ⟨wr.heap.size, 2, none⟩ = some (.int .i64 x1_2) := (u2 2).trans (by simp)
  have q2_3 : wc.cell? ⟨wr.heap.size, 3, none⟩ = some (.int .i64 x1_3) := (u2 3).trans (by simp)
  have q2_4 : wc.cell? ⟨wr.heap.size, 4, none⟩ = some (.slice A1_4 x1_4.length C1_4) := (u2 4).trans (by simp)
  have hbwr : Bel wr wc := bl
  have hbwc : Bel ((w.alloc (.cells #[.slice A0 R.length c0, .slice A1 G.length c1, .slice A2 P.length c2] 33)).alloc (.cells #[.int .i64 k, .string t, .int .i64 n, .int .i64 li, .slice (some ⟨b1, o1, none⟩) ks.length c] 60)) wc := bl
  obtain ⟨mk, hmk⟩ : ∃ mk, (made || decide (k = 26)) = mk := ⟨_, rfl⟩
  have HMK := hide hmk
  rw [hmk] at HNX
  clear hmk
  obtain ⟨q, hq⟩ : ∃ q, TExpr.chk (isL R G P P[i]) (isG R G P) (isF R) ks[m] il mk = q := ⟨_, rfl⟩
  have HQ := hide hq
  obtain ⟨qc, ql⟩ := q
  have HNX2 := hide (show (TExpr.mk k t n li ks).chk (isL R G P P[i]) (isG R G P) (isF R) loop made = if qc = 0 then TExpr.chks (isL R G P P[i]) (isG R G P) (isF R) k loop mk (m + 1) (ks.drop (m + 1)) else (qc, ql) by have h := HNX.out; rw [HIL.out, hq] at h; exact h)
  clear hq u0 u1 u2 u3 x0 y0
  cases made
  case true =>
   obtain rfl : true = mk := HMK.out
   by_cases hqc : qc = 0
   case pos =>
    subst hqc
    go_wp2_with (go_at_call 39; (with_reducible refine (IH'.out m h1 R G P i hi S _ _ _ _ _ (HT.out.on bl) (Dat.HoldVals.bel bl HU.out) HWT.out HVAL.out (Dat.HoldVals.bel bl HV1.out)).mono ?_); rintro e w5 ⟨rfl, hb5⟩; rw [HQ.out]; (have hz5 := hb5.sz; obtain ⟨hk5_0, hf5_0, hl5_0, hn5_0⟩ := hb5.lay (w.heap.size); obtain ⟨hk5_1, hf5_1, hl5_1, hn5_1⟩ := hb5.lay (w.heap.size + 1); obtain ⟨hk5_2, hf5_2, hl5_2, hn5_2⟩ := hb5.lay (wr.heap.size)))
    all_goals go_roundw
    case rel => exact ⟨m + 1, by go_num, by omega, hide (by have h := HNX2.out; (first | rw [if_pos rfl] at h | rw [if_pos trivial] at h); exact h), bl⟩
    case measure => simp [intOf]; omega
   case neg =>
    have hqb : (qc != 0) = true := by simpa using hqc
    have RR := hide (show (TExpr.mk k t n li ks).chk (isL R G P P[i]) (isG R G P) (isF R) loop true = (qc, ql) by have h := HNX2.out; rw [if_neg hqc] at h; exact h)
    go_wp2_with (go_at_call 39; (with_reducible refine (IH'.out m h1 R G P i hi S _ _ _ _ _ (HT.out.on bl) (Dat.HoldVals.bel bl HU.out) HWT.out HVAL.out (Dat.HoldVals.bel bl HV1.out)).mono ?_); rintro e w5 ⟨rfl, hb5⟩; rw [HQ.out]; (have hz5 := hb5.sz; obtain ⟨hk5_0, hf5_0, hl5_0, hn5_0⟩ := hb5.lay (w.heap.size); obtain ⟨hk5_1, hf5_1, hl5_1, hn5_1⟩ := hb5.lay (w.heap.size + 1); obtain ⟨hk5_2, hf5_2, hl5_2, hn5_2⟩ := hb5.lay (wr.heap.size)))
    all_goals
     go_returns
     exact ⟨ret_pair RR.out, bl⟩
  case false =>
   obtain ⟨kq, hkq⟩ : ∃ b, (k == 26) = b := ⟨_, rfl⟩
   obtain rfl : kq = mk := by rw [← HMK.out, ← hkq, Bool.eq_iff_iff]; simp
   by_cases hqc : qc = 0
   case pos =>
    subst hqc
    go_wp2_with (go_at_call 39; (with_reducible refine (IH'.out m h1 R G P i hi S _ _ _ _ _ (HT.out.on bl) (Dat.HoldVals.bel bl HU.out) HWT.out HVAL.out (Dat.HoldVals.bel bl HV1.out)).mono ?_); rintro e w5 ⟨rfl, hb5⟩; rw [HQ.out]; (have hz5 := hb5.sz; obtain ⟨hk5_0, hf5_0, hl5_0, hn5_0⟩ := hb5.lay (w.heap.size); obtain ⟨hk5_1, hf5_1, hl5_1, hn5_1⟩ := hb5.lay (w.heap.size + 1); obtain ⟨hk5_2, hf5_2, hl5_2, hn5_2⟩ := hb5.lay (wr.heap.size)))
    all_goals go_roundw
    case rel => exact ⟨m + 1, by go_num, by omega, hide (by have h := HNX2.out; (first | rw [if_pos rfl] at h | rw [if_pos trivial] at h); rw [← HMK.out] at h; exact h), bl⟩
    case measure => simp [intOf]; omega
   case neg =>
    have hqb : (qc != 0) = true := by simpa using hqc
    have RR := hide (show (TExpr.mk k t n li ks).chk (isL R G P P[i]) (isG R G P) (isF R) loop false = (qc, ql) by have h := HNX2.out; rw [if_neg hqc] at h; exact h)
    go_wp2_with (go_at_call 39; (with_reducible refine (IH'.out m h1 R G P i hi S _ _ _ _ _ (HT.out.on bl) (Dat.HoldVals.bel bl HU.out) HWT.out HVAL.out (Dat.HoldVals.bel bl HV1.out)).mono ?_); rintro e w5 ⟨rfl, hb5⟩; rw [HQ.out]; (have hz5 := hb5.sz; obtain ⟨hk5_0, hf5_0, hl5_0, hn5_0⟩ := hb5.lay (w.heap.size); obtain ⟨hk5_1, hf5_1, hl5_1, hn5_1⟩ := hb5.lay (w.heap.size + 1); obtain ⟨hk5_2, hf5_2, hl5_2, hn5_2⟩ := hb5.lay (wr.heap.size)))
    all_goals
     go_returns
     exact ⟨ret_pair RR.out, bl⟩
theorem checkNode_any (hRes : ResC 9) : ∀ t, NodC 39 t := TExpr.ind fun k t n li ks IH => checkNode_of hRes k n li t ks IH
end Go.Proofs.YtjodcciloflgbaaDoor
