/- The first fault of an expression: the reference. -/
import Derived.Test.YtdacpljinffnaaaDoorPYs
import Derived.Deep.CutBlock
import Derived.Deep.CutRange
namespace Go.Proofs.YtdacpljinffnaaaDoor
set_option linter.unusedVariables false
set_option linter.unusedSimpArgs false
set_option maxRecDepth 100000
open Go.RowKit
abbrev lF (L : List ByteArray) : ByteArray → Bool := fun x => decide (0 ≤ Lib.idxOfS L x)
theorem any_take_hit {α : Type} (f : α → Bool) (l : List α) (m : Nat) (h : m < l.length) (b : Bool) (hb : b = (l.take m).any f) : (b || f l[m]) = (l.take (m + 1)).any f := by rw [any_take_succ f l m h, hb]
abbrev WlkC (f : FuncId) (t : TExpr) : Prop := ∀ (R : List TRecordType) (G : List ByteArray) (P : List TProcedure) (L : List ByteArray) (S : Nat → Prop) (w : World) (us vs : List Value) (LA : Option Addr) (lc : Nat) (loop made : Bool), Sp w → Dat.HoldVals w S (TUnit.mk R G P).D us → Dat.HoldVals w S t.D vs → Row w (fun _ => True) 1 LA lc (strsD L) →
 Calls Tryd.prog f #[.agg us.toArray, .slice LA L.length lc, .agg vs.toArray, .bool loop, .bool made] w fun e w' => e = .returned (.tuple #[.int .i64 (t.chk (lF L) (isG R G P) (isF R) loop made).1, .int .i64 (t.chk (lF L) (isG R G P) (isF R) loop made).2]) ∧ Bel w w'
theorem ret_pair {q : Int × Int} {a b : Int} (h : q = (a, b)) : Ending.returned (.tuple #[.int .i64 a, .int .i64 b]) = .returned (.tuple #[.int .i64 q.1, .int .i64 q.2]) := by rw [h]
theorem here_4 {L G F : ByteArray → Bool} {k : Int} {t : ByteArray} {li : Int} {loop made : Bool} (h : ((k = 24 ∨ k = 25) ∧ loop = false) ∨ ((k = 21 ∨ k = 22 ∨ k = 23) ∧ made = true)) : hereC L G F k t li loop made = (4, li) := by unfold hereC; rw [if_pos h]
theorem here_5 {L G F : ByteArray → Bool} {k : Int} {t : ByteArray} {li : Int} {loop made : Bool} (h : k = 13) (hf : F t = false) : hereC L G F k t li loop made = (5, li) := by subst h; unfold hereC; rw [if_neg (by omega), if_pos ⟨rfl, hf⟩]
theorem here_6 {L G F : ByteArray → Bool} {k : Int} {t : ByteArray} {li : Int} {loop made : Bool} (h : k = 28) (hl : L t = false) (hg : G t = false) : hereC L G F k t li loop made = (6, li) := by subst h; unfold hereC; rw [if_neg (by omega), if_neg (by omega), if_pos ⟨rfl, hl, hg⟩]
theorem here_0 {L G F : ByteArray → Bool} {k : Int} {t : ByteArray} {li : Int} {loop made : Bool} (h : ¬ (((k = 24 ∨ k = 25) ∧ loop = false) ∨ ((k = 21 ∨ k = 22 ∨ k = 23) ∧ made = true))) (h5 : k = 13 → F t = true) (h6 : k = 28 → (L t || G t) = true) : hereC L G F k t li loop made = (0, 0) := by
 unfold hereC
 rw [if_neg h, if_neg (by intro q; rw [h5 q.1] at q; simp at q), if_neg (by intro q; have := h6 q.1; rw [q.2.1, q.2.2] at this; cases this)]
theorem chk_here {L G F : ByteArray → Bool} {k n : Int} {t : ByteArray} {li : Int} {ks : List TExpr} {loop made : Bool} {a b : Int} (h : hereC L G F k t li loop made = (a, b)) (ha : a ≠ 0) : (TExpr.mk k t n li ks).chk L G F loop made = (a, b) := by simp only [TExpr.chk]; rw [h, if_neg ha]
theorem chk_kids {L G F : ByteArray → Bool} {k n : Int} {t : ByteArray} {li : Int} {ks : List TExpr} {loop made : Bool} (h : hereC L G F k t li loop made = (0, 0)) : (TExpr.mk k t n li ks).chk L G F loop made = TExpr.chks L G F k loop (made || decide (k = 26)) 0 (ks.drop 0) := by simp only [TExpr.chk]; rw [h, if_pos rfl, List.drop_zero]
set_option maxHeartbeats 8000000 in
theorem l9Walk_mk (k n li : Int) (t : ByteArray) (ks : List TExpr) (IH : ∀ (i : Nat) (hi : i < ks.length), WlkC 20 ks[i]) : WlkC 20 (.mk k t n li ks) := by
 intro R G P L S w us vs LA lc loop made hsp hu hv hrow
 have IH' := hide IH
 have HT := hide hsp
 have HU := hide hu
 have HRW := hide hrow
 obtain ⟨A0, c0, A1, c1, A2, c2, rfl, g0, -, -⟩ := TUnit.vals hu
 have HRR := hide g0
 have hlr := g0.1
 have hcr := g0.2.1
 simp only [List.length_map] at hlr
 unfold maxLen at hcr
 obtain ⟨A, c, rfl, -, -, -, -, hR⟩ := TExpr.vals hv
 have HR := hide hR
 have hlc := HR.out.1
 have hcm := HR.out.2.1
 simp only [List.length_map] at hlc
 unfold maxLen at hcm
 clear IH hR hv hu hsp hrow g0
 by_cases hA : ((k = 24 ∨ k = 25) ∧ loop = false) ∨ ((k = 21 ∨ k = 22 ∨ k = 23) ∧ made = true)
 case pos =>
  have RR := hide (show (TExpr.mk k t n li ks).chk (lF L) (isG R G P) (isF R) loop made = (4, li) from chk_here (here_4 hA) (by omega))
  rcases hA with ⟨rfl | rfl, rfl⟩ | ⟨rfl | rfl | rfl, rfl⟩
  all_goals
   go_enter Tryd.func20, Tryd.ntmps20
   go_wp2_with (fail)
   all_goals
    go_quiet (fail)
    go_wp2_with (fail)
    all_goals
     go_returns
     exact ⟨ret_pair RR.out, bl⟩
 case neg =>
 have HA := hide hA
 have q1 : ((k == 24) = true ∨ (k == 24) = false) ∧ ((k == 25) = true ∨ (k == 25) = false) := ⟨by cases (k == 24) <;> simp, by cases (k == 25) <;> simp⟩
 go_enter Tryd.func20, Tryd.ntmps20
 go_upto_region 1 with (fail)
 go_cut [44] from 20 (fun v wx => v = .bool false ∧ Bel ((w.alloc (.cells #[.slice A0 R.length c0, .slice A1 G.length c1, .slice A2 P.length c2] 28)).alloc (.cells #[.int .i64 k, .string t, .int .i64 n, .int .i64 li, .slice A ks.length c] 42)) wx)
 case first =>
  clear q1
  by_cases h24 : k = 24 ∨ k = 25
  case pos =>
   have hl : loop = true := by cases loop; exact absurd (Or.inl ⟨h24, rfl⟩) hA; rfl
   subst hl
   rcases h24 with rfl | rfl
   all_goals
    go_wp2_with (fail)
    all_goals go_meet
    all_goals exact ⟨rfl, bl⟩
  case neg =>
  have e24 : (k == 24) = false := by rw [beq_eq_false_iff_ne]; exact fun q => h24 (Or.inl q)
  have e25 : (k == 25) = false := by rw [beq_eq_false_iff_ne]; exact fun q => h24 (Or.inr q)
  by_cases h21 : 21 ≤ k
  case neg =>
   have d21 : decide (21 ≤ k) = false := by simp; omega
   clear hA h24 h21
   go_wp2_with (fail)
   all_goals go_meet
   all_goals exact ⟨rfl, bl⟩
  case pos =>
  have d21 : decide (21 ≤ k) = true := by simp; omega
  by_cases h23 : k ≤ 23
  case neg =>
   have d23 : decide (k ≤ 23) = false := by simp; omega
   clear hA h24 h21 h23
   go_wp2_with (fail)
   all_goals go_meet
   all_goals exact ⟨rfl, bl⟩
  case pos =>
  have d23 : decide (k ≤ 23) = true := by simp; omega
  have hm : made = false := by cases made; rfl; exact absurd (Or.inr ⟨by omega, rfl⟩) hA
  subst hm
  clear hA h24 h21 h23
  go_wp2_with (fail)
  all_goals go_meet
  all_goals exact ⟨rfl, bl⟩
 case rest =>
 obtain ⟨rfl, hbc⟩ := hcut
 clear q1 hA
 have hz0 := hbc.size
 simp only [World.size_alloc] at hz0
 have x0 := hbc.box w.heap.size (by simp; omega)
 have y0 := hbc.box (w.heap.size + 1) (by simp)
 have hl0 : w.heap.size < wc.heap.size := by omega
 have hl1 : w.heap.size + 1 < wc.heap.size := by omega
 have hn0 : ¬ w.heap.size = wc.heap.size := by omega
 have hn1 : ¬ w.heap.size + 1 = wc.heap.size := by omega
 by_cases h5 : k = 13 ∧ isF R t = false
 case pos =>
  obtain ⟨h13, hf⟩ := h5
  have RR := hide (show (TExpr.mk k t n li ks).chk (lF L) (isG R G P) (isF R) loop made = (5, li) from chk_here (here_5 h13 hf) (by omega))
  have HF := hide hf
  have k13 : (k == 13) = true := by rw [beq_iff_eq]; exact h13
  clear hf h13
  go_wp2_with (fail)
  go_loopw [12, 13] (fun fv iv wr => ∃ (j : Nat) (fb : Bool), iv = .int .i64 j ∧ fv = .bool fb ∧ j ≤ R.length ∧ Hid (fb = (R.take j).any fun r => Lib.containsS r.fields t) ∧ Bel ((w.alloc (.cells #[.slice A0 R.length c0, .slice A1 G.length c1, .slice A2 P.length c2] 28)).alloc (.cells #[.int .i64 k, .string t, .int .i64 n, .int .i64 li, .slice A ks.length c] 42)) wr) (fun _ iv _ => R.length - (intOf iv).toNat)
  case atStart => exact ⟨0, false, rfl, rfl, by omega, hide (by simp), bl⟩
  case round => as_aux_lemma =>
   obtain ⟨j, fb, rfl, rfl, hj, hfb, hbx⟩ := hrel
   have hz0 := hbx.size
   simp only [World.size_alloc] at hz0
   have x0 := hbx.box w.heap.size (by simp; omega)
   have y0 := hbx.box (w.heap.size + 1) (by simp)
   have hl0 : w.heap.size < wr.heap.size := by omega
   have hl1 : w.heap.size + 1 < wr.heap.size := by omega
   have hq0 : ¬ w.heap.size = wr.heap.size := by omega
   have hq1 : ¬ w.heap.size + 1 = wr.heap.size := by omega
   have p0_0 : wr.cell? ⟨w.heap.size, 0, none⟩ = some (.slice A0 R.length c0) := (x0 0).trans (by simp)
   have p1_1 : wr.cell? ⟨w.heap.size + 1, 1, none⟩ = some (.string t) := (y0 1).trans (by simp)
   by_cases h1 : j < R.length
   case neg =>
    have hd : decide ((j : Int) < (R.length : Int)) = false := by simp; omega
    have hfz : fb = false := by rw [hfb.out, List.take_of_length_le (by omega)]; exact HF.out
    subst hfz
    clear hfb
    go_wp2_with (fail)
    all_goals (try (go_quiet (fail)))
    all_goals (try (go_wp2_with (fail)))
    all_goals
     go_returns
     exact ⟨ret_pair RR.out, bl⟩
   case pos =>
   have hd : decide ((j : Int) < (R.length : Int)) = true := by simp; omega
   have hbw : Bel w wr := bl
   (obtain ⟨b1, o1, x1_0, x1_1, x1_2, A1_1, C1_1, hA1, hS1, hl1, hx1, hv1, g1_0, g1_1, g1_2, c1_0, c1_1, c1_2⟩ := TRecordType.at HRR.out j h1; subst hA1; have HV1 := hide (Dat.HoldVals.bel hbw hv1); have hh1 := hbw.box b1 hl1; have hw1 := Nat.lt_of_lt_of_le hl1 (Bel.size hbw); replace c1_0 := (hh1 _).trans c1_0; replace c1_1 := (hh1 _).trans c1_1; replace c1_2 := (hh1 _).trans c1_2; have HX1 := hide hx1; have GR1_1 := hide g1_1; clear hh1 hv1 hx1 hS1 g1_1)
   have hne1 : ¬ b1 = wr.heap.size := by omega
   have HFL := hide (show R[j].fields = x1_1 by rw [HX1.out]; rfl)
   have HNX := hide (any_take_hit (fun r => Lib.containsS r.fields t) R j h1 fb hfb.out)
   clear hfb
   cases fb
   case true =>
    go_wp2_with (fail)
    go_quiet (fail)
    go_wp2_with (fail)
    go_roundw
    case rel => exact ⟨j + 1, true, by go_num, rfl, by omega, hide (by rw [← HNX.out]; rfl), bl⟩
    case measure => simp [intOf]; omega
   case false =>
   go_wp2_with (fail)
   go_region_held3 (fun w' => w'.cell? ⟨w.heap.size, 0, none⟩ = some (.slice (some ⟨b1, o1, none⟩) R.length c0) ∧ w'.cell? ⟨w.heap.size + 1, 1, none⟩ = some (.string t) ∧ w'.cell? ⟨b1, o1 + j * 3 + 1, none⟩ = some (.slice A1_1 x1_1.length C1_1)) (go_keep) (first | (go_at_call 18; refine (l9Find_row x1_1 t S _ _ _ (Row.bel bl GR1_1.out)).mono ?_; rintro e w2 ⟨rfl, rfl⟩))
   all_goals (go_wp2_with (fail))
   all_goals go_roundw
   case rel => exact ⟨j + 1, decide (0 ≤ Lib.idxOfS x1_1 t), by go_num, rfl, by omega, hide (by rw [← HNX.out, HFL.out]; rfl), bl⟩
   case measure => simp [intOf]; omega
 case neg =>
 have H5 := hide h5
 obtain ⟨bk, hbk⟩ : ∃ b, (k == 13) = b := ⟨_, rfl⟩
 go_upto_if 49 with (fail)
 go_cut [12, 13] from 50 (fun _ _ wx => Bel ((w.alloc (.cells #[.slice A0 R.length c0, .slice A1 G.length c1, .slice A2 P.length c2] 28)).alloc (.cells #[.int .i64 k, .string t, .int .i64 n, .int .i64 li, .slice A ks.length c] 42)) wx)
 case first =>
  cases bk
  case false =>
   go_wp2_with (fail)
   all_goals go_meet
   all_goals exact bl
  case true =>
  have HF := hide (show isF R t = true by cases hq : isF R t; exact absurd ⟨by simpa using hbk, hq⟩ h5; rfl)
  clear h5
  go_wp2_with (fail)
  go_loopw [12, 13] (fun fv iv wr => ∃ (j : Nat) (fb : Bool), iv = .int .i64 j ∧ fv = .bool fb ∧ j ≤ R.length ∧ Hid (fb = (R.take j).any fun r => Lib.containsS r.fields t) ∧ Bel ((w.alloc (.cells #[.slice A0 R.length c0, .slice A1 G.length c1, .slice A2 P.length c2] 28)).alloc (.cells #[.int .i64 k, .string t, .int .i64 n, .int .i64 li, .slice A ks.length c] 42)) wr) (fun _ iv _ => R.length - (intOf iv).toNat)
  case atStart => exact ⟨0, false, rfl, rfl, by omega, hide (by simp), bl⟩
  case round => as_aux_lemma =>
   obtain ⟨j, fb, rfl, rfl, hj, hfb, hbx⟩ := hrel
   have hz0 := hbx.size
   simp only [World.size_alloc] at hz0
   have x0 := hbx.box w.heap.size (by simp; omega)
   have y0 := hbx.box (w.heap.size + 1) (by simp)
   have hl0 : w.heap.size < wr.heap.size := by omega
   have hl1 : w.heap.size + 1 < wr.heap.size := by omega
   have hq0 : ¬ w.heap.size = wr.heap.size := by omega
   have hq1 : ¬ w.heap.size + 1 = wr.heap.size := by omega
   have p0_0 : wr.cell? ⟨w.heap.size, 0, none⟩ = some (.slice A0 R.length c0) := (x0 0).trans (by simp)
   have p1_1 : wr.cell? ⟨w.heap.size + 1, 1, none⟩ = some (.string t) := (y0 1).trans (by simp)
   by_cases h1 : j < R.length
   case neg =>
    have hd : decide ((j : Int) < (R.length : Int)) = false := by simp; omega
    have hfz : fb = true := by rw [hfb.out, List.take_of_length_le (by omega)]; exact HF.out
    subst hfz
    clear hfb
    go_wp2_with (fail)
    all_goals go_meet
    all_goals exact bl
   case pos =>
   have hd : decide ((j : Int) < (R.length : Int)) = true := by simp; omega
   have hbw : Bel w wr := bl
   (obtain ⟨b1, o1, x1_0, x1_1, x1_2, A1_1, C1_1, hA1, hS1, hl1, hx1, hv1, g1_0, g1_1, g1_2, c1_0, c1_1, c1_2⟩ := TRecordType.at HRR.out j h1; subst hA1; have HV1 := hide (Dat.HoldVals.bel hbw hv1); have hh1 := hbw.box b1 hl1; have hw1 := Nat.lt_of_lt_of_le hl1 (Bel.size hbw); replace c1_0 := (hh1 _).trans c1_0; replace c1_1 := (hh1 _).trans c1_1; replace c1_2 := (hh1 _).trans c1_2; have HX1 := hide hx1; have GR1_1 := hide g1_1; clear hh1 hv1 hx1 hS1 g1_1)
   have hne1 : ¬ b1 = wr.heap.size := by omega
   have HFL := hide (show R[j].fields = x1_1 by rw [HX1.out]; rfl)
   have HNX := hide (any_take_hit (fun r => Lib.containsS r.fields t) R j h1 fb hfb.out)
   clear hfb
   cases fb
   case true =>
    go_wp2_with (fail)
    go_quiet (fail)
    go_wp2_with (fail)
    go_roundw
    case rel => exact ⟨j + 1, true, by go_num, rfl, by omega, hide (by rw [← HNX.out]; rfl), bl⟩
    case measure => simp [intOf]; omega
   case false =>
   go_wp2_with (fail)
   go_region_held3 (fun w' => w'.cell? ⟨w.heap.size, 0, none⟩ = some (.slice (some ⟨b1, o1, none⟩) R.length c0) ∧ w'.cell? ⟨w.heap.size + 1, 1, none⟩ = some (.string t) ∧ w'.cell? ⟨b1, o1 + j * 3 + 1, none⟩ = some (.slice A1_1 x1_1.length C1_1)) (go_keep) (first | (go_at_call 18; refine (l9Find_row x1_1 t S _ _ _ (Row.bel bl GR1_1.out)).mono ?_; rintro e w2 ⟨rfl, rfl⟩))
   all_goals (go_wp2_with (fail))
   all_goals go_roundw
   case rel => exact ⟨j + 1, decide (0 ≤ Lib.idxOfS x1_1 t), by go_num, rfl, by omega, hide (by rw [← HNX.out, HFL.out]; rfl), bl⟩
   case measure => simp [intOf]; omega
 case rest =>
 clear h5 hbk hz0 x0 y0 hl0 hl1 hn0 hn1 hbc
 have hbc := hcut
 clear hcut
 have hz0 := hbc.size
 simp only [World.size_alloc] at hz0
 have x0 := hbc.box w.heap.size (by simp; omega)
 have y0 := hbc.box (w.heap.size + 1) (by simp)
 have hl0 : w.heap.size < wc.heap.size := by omega
 have hl1 : w.heap.size + 1 < wc.heap.size := by omega
 have hn0 : ¬ w.heap.size = wc.heap.size := by omega
 have hn1 : ¬ w.heap.size + 1 = wc.heap.size := by omega
 obtain ⟨ix, hix⟩ : ∃ ix, Lib.idxOfS L t = ix := ⟨_, rfl⟩
 have HIX := hide hix
 obtain ⟨oc, hoc⟩ : ∃ oc, (outP R G P t).1 = oc := ⟨_, rfl⟩
 have HOC := hide hoc
 have HLF := hide (show lF L t = decide (0 ≤ ix) by show decide _ = _; rw [hix])
 have HGF := hide (show isG R G P t = decide (oc = 2) by unfold isG; rw [hoc])
 clear hix hoc
 go_upto_region 11 with (fail)
 go_cut [83] from 74 (fun v wx => v = .bool (decide (k = 28) && decide (ix < 0)) ∧ Bel ((w.alloc (.cells #[.slice A0 R.length c0, .slice A1 G.length c1, .slice A2 P.length c2] 28)).alloc (.cells #[.int .i64 k, .string t, .int .i64 n, .int .i64 li, .slice A ks.length c] 42)) wx)
 case first =>
  by_cases h28 : k = 28
  case neg =>
   have k28 : (k == 28) = false := by rw [beq_eq_false_iff_ne]; exact h28
   have k28d : decide (k = 28) = false := by simpa using h28
   clear h28
   go_wp2_with (fail)
   all_goals go_meet
   all_goals exact ⟨by rw [k28d]; rfl, bl⟩
  case pos =>
  have k28 : (k == 28) = true := by rw [beq_iff_eq]; exact h28
  have k28d : decide (k = 28) = true := by simpa using h28
  clear h28
  go_wp2_with (go_at_call 18; refine (l9Find_row L t (fun _ => True) _ _ _ (Row.bel bl HRW.out)).mono ?_; rintro e w2 ⟨rfl, rfl⟩; rw [HIX.out])
  all_goals go_meet
  all_goals exact ⟨by rw [k28d]; rfl, bl⟩
 case rest =>
 obtain ⟨hv83, hbc2⟩ := hcut
 subst hv83
 clear hz0 x0 y0 hl0 hl1 hn0 hn1 hbc
 have hbc := hbc2
 clear hbc2
 have hz0 := hbc.size
 simp only [World.size_alloc] at hz0
 have x0 := hbc.box w.heap.size (by simp; omega)
 have y0 := hbc.box (w.heap.size + 1) (by simp)
 have hl0 : w.heap.size < wc.heap.size := by omega
 have hl1 : w.heap.size + 1 < wc.heap.size := by omega
 have hn0 : ¬ w.heap.size = wc.heap.size := by omega
 have hn1 : ¬ w.heap.size + 1 = wc.heap.size := by omega
 by_cases h6 : k = 28 ∧ ix < 0 ∧ oc ≠ 2
 case pos =>
  obtain ⟨h28, hi, ho⟩ := h6
  have RR := hide (show (TExpr.mk k t n li ks).chk (lF L) (isG R G P) (isF R) loop made = (6, li) from chk_here (here_6 h28 (by rw [HLF.out]; simp; omega) (by rw [HGF.out]; simpa using ho)) (by omega))
  have hq : (decide (k = 28) && decide (ix < 0)) = true := by rw [decide_eq_true h28, decide_eq_true hi]; rfl
  rw [hq]
  have ho2 : (oc != 2) = true := by simpa using ho
  clear h28 hi ho hq
  go_wp2_with (go_at_call 35; refine (l9Outer_any R G P t S _ _ (HT.out.on bl) (Dat.HoldVals.bel bl HU.out)).mono ?_; rintro e w3 ⟨rfl, hb3⟩; rw [HOC.out]; (have hz3 := hb3.sz; obtain ⟨hk3_0, hf3_0, hl3_0, hn3_0⟩ := hb3.lay (w.heap.size); obtain ⟨hk3_1, hf3_1, hl3_1, hn3_1⟩ := hb3.lay (w.heap.size + 1)))
  all_goals (try (go_quiet (fail)))
  all_goals (try (go_wp2_with (fail)))
  all_goals
   go_returns
   exact ⟨ret_pair RR.out, bl⟩
 case neg =>
 have H6 := hide h6
 obtain ⟨bq, hbq⟩ : ∃ bq, (decide (k = 28) && decide (ix < 0)) = bq := ⟨_, rfl⟩
 have HBQ := hide hbq
 rw [hbq]
 clear hbq
 go_upto_if 83 with (fail)
 go_cut [14, 15] from 84 (fun _ _ wx => Bel ((w.alloc (.cells #[.slice A0 R.length c0, .slice A1 G.length c1, .slice A2 P.length c2] 28)).alloc (.cells #[.int .i64 k, .string t, .int .i64 n, .int .i64 li, .slice A ks.length c] 42)) wx)
 case first =>
  cases bq
  case false =>
   go_wp2_with (fail)
   all_goals go_meet
   all_goals exact bl
  case true =>
  have ho2 : (oc != 2) = false := by
   have h := HBQ.out
   rw [Bool.and_eq_true, decide_eq_true_eq, decide_eq_true_eq] at h
   cases hq : (oc != 2)
   ·
    rfl
   ·
    exact absurd ⟨h.1, h.2, by simpa using hq⟩ h6
  go_wp2_with (go_at_call 35; refine (l9Outer_any R G P t S _ _ (HT.out.on bl) (Dat.HoldVals.bel bl HU.out)).mono ?_; rintro e w3 ⟨rfl, hb3⟩; rw [HOC.out]; (have hz3 := hb3.sz; obtain ⟨hk3_0, hf3_0, hl3_0, hn3_0⟩ := hb3.lay (w.heap.size); obtain ⟨hk3_1, hf3_1, hl3_1, hn3_1⟩ := hb3.lay (w.heap.size + 1)))
  all_goals go_meet
  all_goals exact bl
 case rest =>
 clear hz0 x0 y0 hl0 hl1 hn0 hn1 hbc
 have hbc := hcut
 clear hcut
 have hz0 := hbc.size
 simp only [World.size_alloc] at hz0
 have x0 := hbc.box w.heap.size (by simp; omega)
 have y0 := hbc.box (w.heap.size + 1) (by simp)
 have hl0 : w.heap.size < wc.heap.size := by omega
 have hl1 : w.heap.size + 1 < wc.heap.size := by omega
 have hn0 : ¬ w.heap.size = wc.heap.size := by omega
 have hn1 : ¬ w.heap.size + 1 = wc.heap.size := by omega
 have h5q : k = 13 → isF R t = true := fun q => by
  cases hq : isF R t
  ·
   exact absurd ⟨q, hq⟩ H5.out
  ·
   rfl
 have h6q : k = 28 → (lF L t || isG R G P t) = true := fun q => by
  rw [HLF.out, HGF.out]
  by_cases hi : ix < 0
  ·
   by_cases ho : oc = 2
   ·
    rw [decide_eq_true ho, Bool.or_true]
   ·
    exact absurd ⟨q, hi, ho⟩ h6
  ·
   rw [decide_eq_true (show 0 ≤ ix by omega), Bool.true_or]
 have HE := hide (show (TExpr.mk k t n li ks).chk (lF L) (isG R G P) (isF R) loop made = TExpr.chks (lF L) (isG R G P) (isF R) k loop (made || decide (k = 26)) 0 (ks.drop 0) from chk_kids (here_0 HA.out h5q h6q))
 clear h6 h5q h6q
 go_wp2_with (fail)
 clear hz0 x0 y0 hl0 hl1 hn0 hn1
 go_loopw [16] (fun iv wr => ∃ m : Nat, iv = .int .i64 m ∧ m ≤ ks.length ∧ Hid ((TExpr.mk k t n li ks).chk (lF L) (isG R G P) (isF R) loop made = TExpr.chks (lF L) (isG R G P) (isF R) k loop (made || decide (k = 26)) m (ks.drop m)) ∧ Bel ((w.alloc (.cells #[.slice A0 R.length c0, .slice A1 G.length c1, .slice A2 P.length c2] 28)).alloc (.cells #[.int .i64 k, .string t, .int .i64 n, .int .i64 li, .slice A ks.length c] 42)) wr) (fun iv _ => ks.length - (intOf iv).toNat)
 case atStart => exact ⟨0, rfl, by omega, hide HE.out, bl⟩
 case round => as_aux_lemma =>
  obtain ⟨m, rfl, hm, hinv, hbx⟩ := hrel
  have hz0 := hbx.size
  simp only [World.size_alloc] at hz0
  have x0 := hbx.box w.heap.size (by simp; omega)
  have y0 := hbx.box (w.heap.size + 1) (by simp)
  have hl0 : w.heap.size < wr.heap.size := by omega
  have hl1 : w.heap.size + 1 < wr.heap.size := by omega
  have hq0 : ¬ w.heap.size = wr.heap.size := by omega
  have hq1 : ¬ w.heap.size + 1 = wr.heap.size := by omega
  have p1_4 : wr.cell? ⟨w.heap.size + 1, 4, none⟩ = some (.slice A ks.length c) := (y0 4).trans (by simp)
  by_cases h1 : m < ks.length
  case neg => as_aux_lemma =>
   have hd : decide ((m : Int) < (ks.length : Int)) = false := by simp; omega
   have RR := hide (show (TExpr.mk k t n li ks).chk (lF L) (isG R G P) (isF R) loop made = (0, 0) by rw [hinv.out, TExpr.chks_end (by omega)])
   clear hinv
   go_wp2_with (fail)
   all_goals
    go_returns
    exact ⟨ret_pair RR.out, bl⟩
  case pos =>
  have hd : decide ((m : Int) < (ks.length : Int)) = true := by simp; omega
  have HNX := hide (hinv.out.trans (TExpr.chks_at h1))
  clear hinv
  obtain ⟨il, hil⟩ : ∃ il, inC k m loop = il := ⟨_, rfl⟩
  have HIL := hide hil
  clear hil
  have p1_0 : wr.cell? ⟨w.heap.size + 1, 0, none⟩ = some (.int .i64 k) := (y0 0).trans (by simp)
  obtain ⟨b1, hb1⟩ : ∃ b, (loop && !decide (k = 24) && !decide (k = 26)) = b := ⟨_, rfl⟩
  have HB1 := hide hb1
  clear hb1
  go_upto_region 18 with (fail)
  go_cut [17] from 101 to 149 (fun v wx => v = .bool b1 ∧ Bel wr wx)
  case first =>
   cases loop
   case false =>
    obtain rfl : false = b1 := HB1.out
    go_wp2_with (fail)
    all_goals go_meet
    all_goals exact ⟨rfl, bl⟩
   case true =>
   by_cases h24 : k = 24
   case pos =>
    subst h24
    obtain rfl : false = b1 := HB1.out
    go_wp2_with (fail)
    all_goals go_meet
    all_goals exact ⟨rfl, bl⟩
   case neg =>
   have e24 : (k != 24) = true := by simpa using h24
   by_cases h26 : k = 26
   case pos =>
    subst h26
    obtain rfl : false = b1 := HB1.out
    go_wp2_with (fail)
    all_goals go_meet
    all_goals exact ⟨rfl, bl⟩
   case neg =>
   have e26 : (k != 26) = true := by simpa using h26
   obtain rfl : true = b1 := by rw [← HB1.out]; simp [h24, h26]
   go_wp2_with (fail)
   all_goals go_meet
   all_goals exact ⟨rfl, bl⟩
  case rest =>
  obtain ⟨hv17, hbd⟩ := hcut
  subst hv17
  have hbw0 : Bel ((w.alloc (.cells #[.slice A0 R.length c0, .slice A1 G.length c1, .slice A2 P.length c2] 28)).alloc (.cells #[.int .i64 k, .string t, .int .i64 n, .int .i64 li, .slice A ks.length c] 42)) wc := Bel.trans hbx hbd
  clear hz0 x0 y0 hl0 hl1 hq0 hq1 p1_0 p1_4
  have hz0 := hbw0.size
  simp only [World.size_alloc] at hz0
  have x0 := hbw0.box w.heap.size (by simp; omega)
  have y0 := hbw0.box (w.heap.size + 1) (by simp)
  have hl0 : w.heap.size < wc.heap.size := by omega
  have hl1 : w.heap.size + 1 < wc.heap.size := by omega
  have hn0 : ¬ w.heap.size = wc.heap.size := by omega
  have hn1 : ¬ w.heap.size + 1 = wc.heap.size := by omega
  have p1_0 : wc.cell? ⟨w.heap.size + 1, 0, none⟩ = some (.int .i64 k) := (y0 0).trans (by simp)
  obtain ⟨b2, hb2⟩ : ∃ b, (decide (16 ≤ k) && decide (k ≤ 19)) = b := ⟨_, rfl⟩
  have HB2 := hide hb2
  clear hb2
  go_upto_region 19 with (fail)
  go_cut [120] from 101 to 149 (fun v wx => v = .bool b2 ∧ Bel ((w.alloc (.cells #[.slice A0 R.length c0, .slice A1 G.length c1, .slice A2 P.length c2] 28)).alloc (.cells #[.int .i64 k, .string t, .int .i64 n, .int .i64 li, .slice A ks.length c] 42)) wx)
  case first =>
   by_cases h16 : 16 ≤ k
   case neg =>
    have d16 : decide (16 ≤ k) = false := by simp; omega
    obtain rfl : false = b2 := by rw [← HB2.out, d16]; rfl
    clear h16
    go_wp2_with (fail)
    all_goals go_meet
    all_goals exact ⟨rfl, bl⟩
   case pos =>
   have d16 : decide (16 ≤ k) = true := by simp; omega
   clear h16
   by_cases h19 : k ≤ 19
   case neg =>
    have d19 : decide (k ≤ 19) = false := by simp; omega
    obtain rfl : false = b2 := by rw [← HB2.out, d16, d19]; rfl
    clear h19
    go_wp2_with (fail)
    all_goals go_meet
    all_goals exact ⟨rfl, bl⟩
   case pos =>
   have d19 : decide (k ≤ 19) = true := by simp; omega
   clear h19
   obtain rfl : true = b2 := by rw [← HB2.out, d16, d19]; rfl
   go_wp2_with (fail)
   all_goals go_meet
   all_goals exact ⟨rfl, bl⟩
  case rest =>
  obtain ⟨hv17, hbe⟩ := hcut
  subst hv17
  clear hz0 x0 y0 hl0 hl1 hn0 hn1 p1_0 hbw0 hbd
  have hbw0 := hbe
  clear hbe
  have hz0 := hbw0.size
  simp only [World.size_alloc] at hz0
  have x0 := hbw0.box w.heap.size (by simp; omega)
  have y0 := hbw0.box (w.heap.size + 1) (by simp)
  have hl0 : w.heap.size < wc.heap.size := by omega
  have hl1 : w.heap.size + 1 < wc.heap.size := by omega
  have hn0 : ¬ w.heap.size = wc.heap.size := by omega
  have hn1 : ¬ w.heap.size + 1 = wc.heap.size := by omega
  have p1_0 : wc.cell? ⟨w.heap.size + 1, 0, none⟩ = some (.int .i64 k) := (y0 0).trans (by simp)
  go_upto_if 120 with (fail)
  go_cut [17] from 121 to 149 (fun v wx => v = .bool il ∧ Bel ((w.alloc (.cells #[.slice A0 R.length c0, .slice A1 G.length c1, .slice A2 P.length c2] 28)).alloc (.cells #[.int .i64 k, .string t, .int .i64 n, .int .i64 li, .slice A ks.length c] 42)) wx)
  case first =>
   cases b2
   case false =>
    obtain rfl : b1 = il := by
     rw [← HIL.out, ← HB1.out]
     have h := HB2.out
     simp only [Bool.and_eq_false_iff, decide_eq_false_iff_not] at h
     unfold inC
     rw [if_neg (by omega), if_neg (by omega)]
     by_cases q24 : k = 24
     ·
      simp [q24]
     ·
      by_cases q26 : k = 26
      ·
       simp [q26]
      ·
       simp [q24, q26]
    go_wp2_with (fail)
    all_goals go_meet
    all_goals exact ⟨rfl, bl⟩
   case true =>
   have hk1 : 16 ≤ k ∧ k ≤ 19 := by have h := HB2.out; simpa using h
   by_cases h19 : k = 19
   case pos =>
    subst h19
    obtain rfl : true = il := by rw [← HIL.out]; unfold inC; rw [if_neg (by omega), if_pos rfl]
    go_wp2_with (fail)
    all_goals go_meet
    all_goals exact ⟨rfl, bl⟩
   case neg =>
   have e19 : (k == 19) = false := by rw [beq_eq_false_iff_ne]; exact h19
   have HIN := hide (show inC k m loop = decide (m = 1) by unfold inC; rw [if_pos (by omega)])
   clear h19 hk1
   by_cases hm1 : m = 1
   case pos =>
    obtain rfl : true = il := by rw [← HIL.out, HIN.out]; simpa using hm1
    have em : ((m : Int) == 1) = true := by simp; omega
    go_wp2_with (fail)
    all_goals go_meet
    all_goals exact ⟨rfl, bl⟩
   case neg =>
   obtain rfl : false = il := by rw [← HIL.out, HIN.out]; simpa using hm1
   have em : ((m : Int) == 1) = false := by simp; omega
   go_wp2_with (fail)
   all_goals go_meet
   all_goals exact ⟨rfl, bl⟩
  case rest =>
  obtain ⟨hv17, hbe⟩ := hcut
  subst hv17
  clear hz0 x0 y0 hl0 hl1 hn0 hn1 p1_0 hbw0
  have hbw0 := hbe
  clear hbe
  have hz0 := hbw0.size
  simp only [World.size_alloc] at hz0
  have x0 := hbw0.box w.heap.size (by simp; omega)
  have y0 := hbw0.box (w.heap.size + 1) (by simp)
  have hl0 : w.heap.size < wc.heap.size := by omega
  have hl1 : w.heap.size + 1 < wc.heap.size := by omega
  have hn0 : ¬ w.heap.size = wc.heap.size := by omega
  have hn1 : ¬ w.heap.size + 1 = wc.heap.size := by omega
  have p1_0 : wc.cell? ⟨w.heap.size + 1, 0, none⟩ = some (.int .i64 k) := (y0 0).trans (by simp)
  have p1_4 : wc.cell? ⟨w.heap.size + 1, 4, none⟩ = some (.slice A ks.length c) := (y0 4).trans (by simp)
  have p0_0 : wc.cell? ⟨w.heap.size, 0, none⟩ = some (.slice A0 R.length c0) := (x0 0).trans (by simp)
  have p0_1 : wc.cell? ⟨w.heap.size, 1, none⟩ = some (.slice A1 G.length c1) := (x0 1).trans (by simp)
  have p0_2 : wc.cell? ⟨w.heap.size, 2, none⟩ = some (.slice A2 P.length c2) := (x0 2).trans (by simp)
  have hbw : Bel w wc := bl
  have hle1 := hl1
  (obtain ⟨b1, o1, x1_0, x1_1, x1_2, x1_3, x1_4, A1_4, C1_4, hA1, hS1, hl1, hx1, hv1, g1_0, g1_1, g1_2, g1_3, g1_4, c1_0, c1_1, c1_2, c1_3, c1_4⟩ := TExpr.at HR.out m h1; subst hA1; have HV1 := hide (Dat.HoldVals.bel hbw hv1); have hh1 := hbw.box b1 hl1; have hw1 := Nat.lt_of_lt_of_le hl1 (Bel.size hbw); replace c1_0 := (hh1 _).trans c1_0; replace c1_1 := (hh1 _).trans c1_1; replace c1_2 := (hh1 _).trans c1_2; replace c1_3 := (hh1 _).trans c1_3; replace c1_4 := (hh1 _).trans c1_4; have HX1 := hide hx1; have GR1_4 := hide g1_4; clear hh1 hv1 hx1 hS1 g1_4)
  have hne1 : ¬ b1 = wc.heap.size := by omega
  obtain ⟨mk, hmk⟩ : ∃ mk, (made || decide (k = 26)) = mk := ⟨_, rfl⟩
  have HMK := hide hmk
  rw [hmk] at HNX
  clear hmk
  obtain ⟨q, hq⟩ : ∃ q, TExpr.chk (lF L) (isG R G P) (isF R) ks[m] il mk = q := ⟨_, rfl⟩
  have HQ := hide hq
  obtain ⟨qc, ql⟩ := q
  have HNX2 := hide (show (TExpr.mk k t n li ks).chk (lF L) (isG R G P) (isF R) loop made = if qc = 0 then TExpr.chks (lF L) (isG R G P) (isF R) k loop mk (m + 1) (ks.drop (m + 1)) else (qc, ql) by have h := HNX.out; rw [HIL.out, hq] at h; exact h)
  clear hq
  go_wp2_with (fail)
  cases made
  case true =>
   obtain rfl : true = mk := HMK.out
   refine wp_region_held_drew (S := fun w' => w'.cell? ⟨w.heap.size, 0, none⟩ = some (.slice A0 R.length c0) ∧ w'.cell? ⟨w.heap.size, 1, none⟩ = some (.slice A1 G.length c1) ∧ w'.cell? ⟨w.heap.size, 2, none⟩ = some (.slice A2 P.length c2) ∧ w'.cell? ⟨w.heap.size + 1, 0, none⟩ = some (.int .i64 k) ∧ w'.cell? ⟨w.heap.size + 1, 4, none⟩ = some (.slice (some ⟨b1, o1, none⟩) ks.length c) ∧ w'.cell? ⟨b1, o1 + m * 5, none⟩ = some (.int .i64 x1_0) ∧ w'.cell? ⟨b1, o1 + m * 5 + 1, none⟩ = some (.string x1_1) ∧ w'.cell? ⟨b1, o1 + m * 5 + 2, none⟩ = some (.int .i64 x1_2) ∧ w'.cell? ⟨b1, o1 + m * 5 + 3, none⟩ = some (.int .i64 x1_3) ∧ w'.cell? ⟨b1, o1 + m * 5 + 4, none⟩ = some (.slice A1_4 x1_4.length C1_4)) (by kernel_rfl) ?_ (fun hHeld => ?_)
   ·
    exact ⟨(Bel.box (W := wc) bl w.heap.size hl0 _).trans p0_0, (Bel.box (W := wc) bl w.heap.size hl0 _).trans p0_1, (Bel.box (W := wc) bl w.heap.size hl0 _).trans p0_2, (Bel.box (W := wc) bl (w.heap.size + 1) hle1 _).trans p1_0, (Bel.box (W := wc) bl (w.heap.size + 1) hle1 _).trans p1_4, (Bel.box (W := wc) bl b1 hw1 _).trans c1_0, (Bel.box (W := wc) bl b1 hw1 _).trans c1_1, (Bel.box (W := wc) bl b1 hw1 _).trans c1_2, (Bel.box (W := wc) bl b1 hw1 _).trans c1_3, (Bel.box (W := wc) bl b1 hw1 _).trans c1_4⟩
   refine tkI 0 ?_
   refine tkI 1 ?_
   refine tkI 2 ?_
   refine tkI 3 ?_
   refine tkI 4 ?_
   refine tkI 5 ?_
   refine tkI 6 ?_
   refine tkI 7 ?_
   refine tkI 8 ?_
   refine tkI 9 ?_
   refine tkN 10 ?_
   refine tkN 11 ?_
   refine tkN 12 ?_
   refine tkI 13 ?_
   refine wpAnyH_ready (rs := [14]) (by kernel_rfl) (by simp) ?_
   refine AllReadyH.cons (o := _) rfl (fun K hK => ?_) AllReadyH.nil
   go_simp
   clear hHeld
   (go_at_call 20; (with_reducible refine (IH'.out m h1 R G P L S _ _ _ _ _ _ _ (HT.out.on bl) (Dat.HoldVals.bel bl HU.out) (Dat.HoldVals.bel bl HV1.out) (Row.bel bl HRW.out)).mono ?_); rintro e w5 ⟨rfl, hb5⟩; rw [HQ.out]; (have hz5 := hb5.sz; obtain ⟨hk5_0, hf5_0, hl5_0, hn5_0⟩ := hb5.lay (w.heap.size); obtain ⟨hk5_1, hf5_1, hl5_1, hn5_1⟩ := hb5.lay (w.heap.size + 1); obtain ⟨hk5_2, hf5_2, hl5_2, hn5_2⟩ := hb5.lay (b1)))
   refine hK.out _ _ ?_ (fun hHeld => ?_)
   ·
    exact ⟨(Bel.box (W := wc) bl w.heap.size hl0 _).trans p0_0, (Bel.box (W := wc) bl w.heap.size hl0 _).trans p0_1, (Bel.box (W := wc) bl w.heap.size hl0 _).trans p0_2, (Bel.box (W := wc) bl (w.heap.size + 1) hle1 _).trans p1_0, (Bel.box (W := wc) bl (w.heap.size + 1) hle1 _).trans p1_4, (Bel.box (W := wc) bl b1 hw1 _).trans c1_0, (Bel.box (W := wc) bl b1 hw1 _).trans c1_1, (Bel.box (W := wc) bl b1 hw1 _).trans c1_2, (Bel.box (W := wc) bl b1 hw1 _).trans c1_3, (Bel.box (W := wc) bl b1 hw1 _).trans c1_4⟩
   clear hK K
   (try simp only [Act.put, List.setIfInBounds_toArray, List.set_cons_zero, List.set_cons_succ, List.getElem_toArray, List.getElem_cons_zero, List.getElem_cons_succ])
   refine tkI 15 ?_
   refine tkI 16 ?_
   refine tkI 17 ?_
   refine tkI 18 ?_
   refine tkI 19 ?_
   refine wpAnyH_done (by kernel_rfl) ?_ _
   by_cases hqc : qc = 0
   case pos =>
    subst hqc
    all_goals (go_wp2_with (fail))
    all_goals go_roundw
    case rel => exact ⟨m + 1, by go_num, by omega, hide (by have h := HNX2.out; rw [if_pos rfl] at h; exact h), bl⟩
    case measure => simp [intOf]; omega
   case neg =>
    have hqb : (qc != 0) = true := by simpa using hqc
    have RR := hide (show (TExpr.mk k t n li ks).chk (lF L) (isG R G P) (isF R) loop true = (qc, ql) by have h := HNX2.out; rw [if_neg hqc] at h; exact h)
    go_wp2_with (fail)
    all_goals
     go_returns
     exact ⟨ret_pair RR.out, bl⟩
  case false =>
   have hkm : (k == 26) = mk := by rw [← HMK.out]; rw [Bool.eq_iff_iff]; simp
   refine wp_region_held_drew (S := fun w' => w'.cell? ⟨w.heap.size, 0, none⟩ = some (.slice A0 R.length c0) ∧ w'.cell? ⟨w.heap.size, 1, none⟩ = some (.slice A1 G.length c1) ∧ w'.cell? ⟨w.heap.size, 2, none⟩ = some (.slice A2 P.length c2) ∧ w'.cell? ⟨w.heap.size + 1, 0, none⟩ = some (.int .i64 k) ∧ w'.cell? ⟨w.heap.size + 1, 4, none⟩ = some (.slice (some ⟨b1, o1, none⟩) ks.length c) ∧ w'.cell? ⟨b1, o1 + m * 5, none⟩ = some (.int .i64 x1_0) ∧ w'.cell? ⟨b1, o1 + m * 5 + 1, none⟩ = some (.string x1_1) ∧ w'.cell? ⟨b1, o1 + m * 5 + 2, none⟩ = some (.int .i64 x1_2) ∧ w'.cell? ⟨b1, o1 + m * 5 + 3, none⟩ = some (.int .i64 x1_3) ∧ w'.cell? ⟨b1, o1 + m * 5 + 4, none⟩ = some (.slice A1_4 x1_4.length C1_4)) (by kernel_rfl) ?_ (fun hHeld => ?_)
   ·
    exact ⟨(Bel.box (W := wc) bl w.heap.size hl0 _).trans p0_0, (Bel.box (W := wc) bl w.heap.size hl0 _).trans p0_1, (Bel.box (W := wc) bl w.heap.size hl0 _).trans p0_2, (Bel.box (W := wc) bl (w.heap.size + 1) hle1 _).trans p1_0, (Bel.box (W := wc) bl (w.heap.size + 1) hle1 _).trans p1_4, (Bel.box (W := wc) bl b1 hw1 _).trans c1_0, (Bel.box (W := wc) bl b1 hw1 _).trans c1_1, (Bel.box (W := wc) bl b1 hw1 _).trans c1_2, (Bel.box (W := wc) bl b1 hw1 _).trans c1_3, (Bel.box (W := wc) bl b1 hw1 _).trans c1_4⟩
   refine tkI 0 ?_
   refine tkI 1 ?_
   refine tkI 2 ?_
   refine tkI 3 ?_
   refine tkI 4 ?_
   refine tkI 5 ?_
   refine tkI 6 ?_
   refine tkI 7 ?_
   refine tkI 8 ?_
   refine tkI 9 ?_
   refine tkI 10 ?_
   refine tkI 11 ?_
   refine tkI 12 ?_
   refine tkI 13 ?_
   refine wpAnyH_ready (rs := [14]) (by kernel_rfl) (by simp) ?_
   refine AllReadyH.cons (o := _) rfl (fun K hK => ?_) AllReadyH.nil
   go_simp
   clear hHeld
   (go_at_call 20; (with_reducible refine (IH'.out m h1 R G P L S _ _ _ _ _ _ _ (HT.out.on bl) (Dat.HoldVals.bel bl HU.out) (Dat.HoldVals.bel bl HV1.out) (Row.bel bl HRW.out)).mono ?_); rintro e w5 ⟨rfl, hb5⟩; rw [HQ.out]; (have hz5 := hb5.sz; obtain ⟨hk5_0, hf5_0, hl5_0, hn5_0⟩ := hb5.lay (w.heap.size); obtain ⟨hk5_1, hf5_1, hl5_1, hn5_1⟩ := hb5.lay (w.heap.size + 1); obtain ⟨hk5_2, hf5_2, hl5_2, hn5_2⟩ := hb5.lay (b1)))
   refine hK.out _ _ ?_ (fun hHeld => ?_)
   ·
    exact ⟨(Bel.box (W := wc) bl w.heap.size hl0 _).trans p0_0, (Bel.box (W := wc) bl w.heap.size hl0 _).trans p0_1, (Bel.box (W := wc) bl w.heap.size hl0 _).trans p0_2, (Bel.box (W := wc) bl (w.heap.size + 1) hle1 _).trans p1_0, (Bel.box (W := wc) bl (w.heap.size + 1) hle1 _).trans p1_4, (Bel.box (W := wc) bl b1 hw1 _).trans c1_0, (Bel.box (W := wc) bl b1 hw1 _).trans c1_1, (Bel.box (W := wc) bl b1 hw1 _).trans c1_2, (Bel.box (W := wc) bl b1 hw1 _).trans c1_3, (Bel.box (W := wc) bl b1 hw1 _).trans c1_4⟩
   clear hK K
   (try simp only [Act.put, List.setIfInBounds_toArray, List.set_cons_zero, List.set_cons_succ, List.getElem_toArray, List.getElem_cons_zero, List.getElem_cons_succ])
   refine tkI 15 ?_
   refine tkI 16 ?_
   refine tkI 17 ?_
   refine tkI 18 ?_
   refine tkI 19 ?_
   refine wpAnyH_done (by kernel_rfl) ?_ _
   by_cases hqc : qc = 0
   case pos =>
    subst hqc
    all_goals (go_wp2_with (fail))
    all_goals go_roundw
    case rel => exact ⟨m + 1, by go_num, by omega, hide (by have h := HNX2.out; rw [if_pos rfl] at h; rw [← HMK.out] at h; exact h), bl⟩
    case measure => simp [intOf]; omega
   case neg =>
    have hqb : (qc != 0) = true := by simpa using hqc
    have RR := hide (show (TExpr.mk k t n li ks).chk (lF L) (isG R G P) (isF R) loop false = (qc, ql) by have h := HNX2.out; rw [if_neg hqc] at h; exact h)
    go_wp2_with (fail)
    all_goals
     go_returns
     exact ⟨ret_pair RR.out, bl⟩
theorem l9Walk_any : ∀ t, WlkC 20 t := TExpr.ind fun k t n li ks IH => l9Walk_mk k n li t ks IH
end Go.Proofs.YtdacpljinffnaaaDoor
