/- Draws of units: an expression, any: one step. -/
import Derived.Test.YtdacpljinffnaaaDoorPDx3
import Derived.Test.YtdacpljinffnaaaDoorPY3
import Derived.Deep.Cut
import Derived.Deep.MidRow
namespace Go.Proofs.YtdacpljinffnaaaDoor
set_option linter.unusedVariables false
set_option linter.unusedSimpArgs false
set_option maxRecDepth 100000
open Go.RowKit
structure ErS (w wx : World) (c : Nat) (A : Option Addr) (n cap b : Nat) (kd : Int) (t : ByteArray) (m : Int) : Prop where
 box : EB wx b (.int .i64 kd) (.string t) (.int .i64 m) (.int .i64 0) (.slice none 0 0)
 res : EB wx w.heap.size (.int .i64 0) (.string ByteArray.empty) (.int .i64 0) (.int .i64 0) (.slice none 0 0)
 cur : Cur wx c A n cap
 oth : Oth c w wx
 ik : InI kd
 im : InI m
 ht : t.size ≤ 20
section
variable {w wx wy : World} {c : Nat} {A : Option Addr} {n cap b : Nat} {kd m : Int} {t : ByteArray}
theorem ErS.on (h : ErS w wx c A n cap b kd t m) (k : Oth c wx wy) (hC : Cur wy c A n cap) (hw : w.heap.size ≠ c) (hb : b ≠ c) : ErS w wy c A n cap b kd t m :=
 ⟨h.box.oth k hb, h.res.oth k hw, hC, h.oth.trans k, h.ik, h.im, h.ht⟩
theorem ErS.bel (h : ErS w wx c A n cap b kd t m) (k : Bel wx wy) : ErS w wy c A n cap b kd t m :=
 ⟨h.box.on k, h.res.on k, h.cur.bel k, h.oth.trans (Oth.of_bel k), h.ik, h.im, h.ht⟩
theorem ErS.put0 (h0 : Cur w c A n cap) (h : ErS w wx c A n cap b kd t m) (hw : w.heap.size < b) (hb : b ≠ c) {x : Int} (hx : InI x) : ErS w (wx.setCell ⟨b, 0, none⟩ (.int .i64 x)) c A n cap b x t m :=
 ⟨h.box.put0 _, h.res.far 0 _ (by omega), h0.back h.cur (h.oth.put (by omega) 0 _) (set_block 0 _ hb), h.oth.put (by omega) 0 _, hx, h.im, h.ht⟩
theorem ErS.put1 (h0 : Cur w c A n cap) (h : ErS w wx c A n cap b kd t m) (hw : w.heap.size < b) (hb : b ≠ c) {x : ByteArray} (hx : x.size ≤ 20) : ErS w (wx.setCell ⟨b, 1, none⟩ (.string x)) c A n cap b kd x m :=
 ⟨h.box.put1 _, h.res.far 1 _ (by omega), h0.back h.cur (h.oth.put (by omega) 1 _) (set_block 1 _ hb), h.oth.put (by omega) 1 _, h.ik, h.im, hx⟩
theorem ErS.put2 (h0 : Cur w c A n cap) (h : ErS w wx c A n cap b kd t m) (hw : w.heap.size < b) (hb : b ≠ c) {x : Int} (hx : InI x) : ErS w (wx.setCell ⟨b, 2, none⟩ (.int .i64 x)) c A n cap b kd t x :=
 ⟨h.box.put2 _, h.res.far 2 _ (by omega), h0.back h.cur (h.oth.put (by omega) 2 _) (set_block 2 _ hb), h.oth.put (by omega) 2 _, h.ik, hx, h.ht⟩
end
theorem lohi_in (k : Int) : 0 ≤ (lohiE k).1 ∧ (lohiE k).1 ≤ 3 ∧ 0 ≤ (lohiE k).2 ∧ (lohiE k).2 ≤ 24 := by
 unfold lohiE
 repeat' split
 all_goals simp
set_option maxHeartbeats 400000 in
theorem l1Min_ex (a b : Int) (w : World) : Calls Tryd.prog 41 #[.int .i64 a, .int .i64 b] w fun e w' => e = .returned (.int .i64 (min a b)) ∧ w = w' := by
 by_cases h : a < b
 ·
  have hd : decide (a < b) = true := by simp [h]
  go_enter Tryd.func41, Tryd.ntmps41
  go_wp2
  all_goals
   go_returns
   exact ⟨ret_i64 (by omega), rfl⟩
 ·
  have hd : decide (a < b) = false := by simp [h]
  go_enter Tryd.func41, Tryd.ntmps41
  go_wp2
  all_goals
   go_returns
   exact ⟨ret_i64 (by omega), rfl⟩
theorem wpList_namedF {P : Program} {ops : Array Oper} {Q : Exit → Act → World → Prop} {l : List Oper} {a : Act} {W : World} (h : ∀ wz, wz = W → wpList P ops Q l a wz) : wpList P ops Q l a W := h W rfl
theorem wp_namedF {P : Program} {c : Code} {Q : Exit → Act → World → Prop} {a : Act} {W : World} (h : ∀ wq, W = wq → Code.wp P c Q a wq) : Code.wp P c Q a W := h W rfl
set_option maxHeartbeats 4000000 in
theorem etree_step (c : Nat) (A : Option Addr) (n cap d : Nat) (w : World) (deep : Int) (hc : Cur w c A n cap) (hd : deep ≤ (d : Int) + 1) (hd1 : -100 ≤ deep) (hd2 : deep ≤ 100) (hrec : Hid (1 < deep → ∃ e, d = e + 1 ∧ ExprC c A n cap e)) :
  Calls Tryd.prog 26 #[.pointer (some ⟨c, 0, none⟩), .int .i64 deep] w (ExprP w c A n cap (wE d)) := by
 have HC := hide hc
 have hlt := hc.1
 have hne : w.heap.size ≠ c := by omega
 clear hc
 go_enter Tryd.func26, Tryd.ntmps26
 by_cases hdp : deep ≤ 1
 ·
  have hdd : decide (deep ≤ 1) = true := by simp [hdp]
  go_wp2_with (go_at_call 39; refine (l6Leaf_any c A n cap _ (HC.out.bel bl)).mono ?_; rintro e w5 ⟨lk, lt, lm, q1, q2, q3, rfl, hC5, hO5⟩; have Q1 := hide q1; have Q2 := hide q2; have Q3 := hide q3; have HC5 := hide hC5; have HO5 := hide (Oth.trans (Oth.of_bel (c := c) (w := w) bl) hO5); have Z5 := hide (EB.oth (EB.new w 42 (v0 := .int .i64 0) (v1 := .string ByteArray.empty) (v2 := .int .i64 0) (v3 := .int .i64 0) (v4 := .slice none 0 0)) hO5 hne); clear hC5 hO5 q1 q2 q3; have h5 := Z5.out; obtain ⟨zl, zf, z0, z1, z2, z3, z4⟩ := h5)
  refine gen_ret5 Z5.out fun wz hE ho hz => ?_
  obtain ⟨-, -, d0, d1, d2, d3, d4⟩ := hE
  exact bodyPost_ret (v := .agg #[.int .i64 lk, .string lt, .int .i64 lm, .int .i64 0, .slice none 0 0]) (by simp [results, Tryd.results26, d0, d1, d2, d3, d4, go_sem]; try rfl) rfl (LeafP.expr ⟨lk, lt, lm, Q1.out, Q2.out, Q3.out, rfl, HC.out.back HC5.out (ho _ _ HO5.out (Nat.le_refl _)) (hz _ hne), ho _ _ HO5.out (Nat.le_refl _)⟩ d)
 ·
  have hdd : decide (deep ≤ 1) = false := by simp [hdp]
  have hdeep : 1 < deep := by omega
  go_upto_if 15 with (go_at_call 25; refine (l1Once_any 5 c A n cap _ (HC.out.bel bl) (by unfold InI; omega)).mono ?_; rintro e w1 ⟨q, rfl, hC1, hO1⟩; have HC1 := hide hC1; have HO1 := hide (Oth.trans (Oth.of_bel (c := c) (w := w) bl) hO1); have hsz := hO1.size; rw [World.size_alloc] at hsz; have R1 := hide (EB.oth (EB.new w 42 (v0 := .int .i64 0) (v1 := .string ByteArray.empty) (v2 := .int .i64 0) (v3 := .int .i64 0) (v4 := .slice none 0 0)) hO1 hne); clear hC1 hO1)
  cases q
  case true =>
   have h5 := R1.out
   obtain ⟨zl, zf, z0, z1, z2, z3, z4⟩ := h5
   go_wp2_with (go_at_call 39; refine (l6Leaf_any c A n cap _ HC1.out).mono ?_; rintro e w5 ⟨lk, lt, lm, q1, q2, q3, rfl, hC5, hO5⟩; have Q1 := hide q1; have Q2 := hide q2; have Q3 := hide q3; have HC5 := hide hC5; have HO5 := hide (Oth.trans HO1.out hO5); have Z5 := hide (EB.oth R1.out hO5 hne); clear hC5 hO5 q1 q2 q3; have h5 := Z5.out; obtain ⟨zl, zf, z0, z1, z2, z3, z4⟩ := h5)
   refine gen_ret5 Z5.out fun wz hE ho hz => ?_
   obtain ⟨-, -, d0, d1, d2, d3, d4⟩ := hE
   exact bodyPost_ret (v := .agg #[.int .i64 lk, .string lt, .int .i64 lm, .int .i64 0, .slice none 0 0]) (by simp [results, Tryd.results26, d0, d1, d2, d3, d4, go_sem]; try rfl) rfl (LeafP.expr ⟨lk, lt, lm, Q1.out, Q2.out, Q3.out, rfl, HC.out.back HC5.out (ho _ _ HO5.out (Nat.le_refl _)) (hz _ hne), ho _ _ HO5.out (Nat.le_refl _)⟩ d)
  case false =>
   go_upto_region 4 with (go_at_call 12; refine (l1Below_any 24 c A n cap _ HC1.out (by unfold InI; omega)).mono ?_; rintro e w2 ⟨x, x1, x2, rfl, hC2, hO2⟩; have x3 : x ≤ 23 := x2; clear x2; have HC2 := hide hC2; have HO2 := hide (HO1.out.trans hO2); have hsz2 := hO2.size; have R2 := hide (R1.out.oth hO2 hne); clear hC2 hO2)
   refine wp_namedF fun w3 hw3 => ?_
   have hb12 : Bel w2 w3 := by rw [← hw3]; exact bl
   have i0 : InI 0 := by unfold InI; omega
   have T2 := hide (show ErS w w3 c A n cap w2.heap.size (6 + x) ByteArray.empty 0 from ⟨by rw [← hw3]; first | exact EB.new _ _ | exact (((((EB.new _ _).put0 _).put1 _).put2 _).put3 _).put4 _, R2.out.on hb12, HC2.out.bel hb12, HO2.out.trans (Oth.of_bel hb12), by unfold InI; omega, i0, by decide⟩)
   have hwb : w.heap.size < w2.heap.size := by omega
   have hbc : w2.heap.size ≠ c := by have := HC1.out.1; omega
   clear hw3 hb12 HC1 HO1 R1 HC2 HO2 R2 hsz hsz2
   generalize w2.heap.size = b at T2 hwb hbc ⊢
   clear w2
   clear w1
   have I0 := hide i0
   clear i0
   go_upto_if 23 with (go_at_call 25; refine (l1Once_any 2 c A n cap _ T2.out.cur (by unfold InI; omega)).mono ?_; rintro e w4 ⟨y, rfl, hC4, hO4⟩; have T3 := hide (T2.out.on hO4 hC4 hne hbc); clear hC4 hO4)
   go_cut [] from 10 (fun wx => ∃ kd, ErS w wx c A n cap b kd ByteArray.empty 0)
   case first =>
    go_wp2_with (go_at_call 38; refine (l1PickInt_P InI w4.heap.size 6 6 c A n cap _ (T3.out.cur.bel bl) (rowP_new [7, 8, 8, 9, 10, 15] (by unfold InI; decide)) (by have := T3.out.cur.1; omega) (by omega) (by omega)).mono ?_; rintro e w5 ⟨z, hz, rfl, hC5, hO5⟩; have T4 := hide (T3.out.on (Oth.trans (Oth.of_bel bl) hO5) hC5 hne hbc); have hz' := hide hz; have pb := T4.out.box; obtain ⟨hl4, f4, k40, k41, k42, k43, k44⟩ := pb; clear hC5 hO5 hz)
    all_goals go_meet
    all_goals first
     | exact ⟨_, T3.out⟩
     | exact ⟨_, ErS.put0 HC.out T4.out hwb hbc hz'.out⟩
   case rest =>
    obtain ⟨kd, T⟩ := hcut
    clear T2 T3
    have TT := hide (show ∃ t m, ErS w _ c A n cap b kd t m from ⟨_, _, T⟩)
    clear T
    obtain ⟨t, m, T⟩ := TT.out
    have T5 := hide T
    clear T TT
    have pb := T5.out.box; obtain ⟨hl5, f5, k50, k51, k52, k53, k54⟩ := pb
    go_upto_region 6 with (fail)
    go_cut [30] from 10 (fun v wx => ErS w wx c A n cap b kd t m ∧ ∃ q : Bool, v = .bool q)
    case first =>
     go_wp2_with (fail)
     all_goals go_meet
     all_goals exact ⟨T5.out, _, rfl⟩
    case rest =>
     obtain ⟨T, q, rfl⟩ := hcut
     clear T5 hl5 f5 k50 k51 k52 k53 k54
     have T5 := hide T
     clear T
     go_upto_if 30 with (fail)
     go_cut [] from 10 (fun wx => ∃ t m, ErS w wx c A n cap b kd t m)
     case first =>
      cases q
      ·
       go_wp2_with (fail)
       all_goals go_meet
       all_goals exact ⟨_, _, T5.out⟩
      ·
       go_wp2_with ((go_at_call 37; refine (l1Pick_any _ 13 20 13 c A n cap _ (T5.out.cur.bel bl) (rowT_new 20 [⟨#[45]⟩, ⟨#[43]⟩, ⟨#[42]⟩, ⟨#[47]⟩, ⟨#[92]⟩, ⟨#[126]⟩, ⟨#[33]⟩, ⟨#[61]⟩, ⟨#[124]⟩, ⟨#[64]⟩, ⟨#[94]⟩, ⟨#[46]⟩, ⟨#[46, 62]⟩] (by decide +kernel)) (by have := T5.out.cur.1; omega) (by omega) (by omega)).mono ?_; rintro e w6 ⟨z, hz, rfl, hC6, hO6⟩; have T6 := hide (T5.out.on (Oth.trans (Oth.of_bel bl) hO6) hC6 hne hbc); have hz' := hide hz; have pb := T6.out.box; obtain ⟨hl6, f6, k60, k61, k62, k63, k64⟩ := pb; clear hC6 hO6 hz))
       all_goals go_meet
       all_goals exact ⟨_, _, ErS.put1 HC.out T6.out hwb hbc hz'.out⟩
     case rest =>
      obtain ⟨t, m, T⟩ := hcut
      clear T5 q
      have T5 := hide T
      clear T
      have pb := T5.out.box; obtain ⟨hl5, f5, k50, k51, k52, k53, k54⟩ := pb
      go_upto_region 8 with (fail)
      go_cut [37] from 10 (fun v wx => ErS w wx c A n cap b kd t m ∧ ∃ q : Bool, v = .bool q)
      case first =>
       go_wp2_with (fail)
       all_goals go_meet
       all_goals exact ⟨T5.out, _, rfl⟩
      case rest =>
       obtain ⟨T, q, rfl⟩ := hcut
       clear T5 hl5 f5 k50 k51 k52 k53 k54
       have T5 := hide T
       clear T
       go_upto_if 37 with (fail)
       go_cut [] from 10 (fun wx => ∃ t m, ErS w wx c A n cap b kd t m)
       case first =>
        cases q
        ·
         go_wp2_with (fail)
         all_goals go_meet
         all_goals exact ⟨_, _, T5.out⟩
        ·
         go_wp2_with ((go_at_call 37; refine (l1Pick_any _ 20 20 20 c A n cap _ (T5.out.cur.bel bl) (rowT_new 20 [⟨#[38]⟩, ⟨#[63]⟩, ⟨#[58, 61]⟩, ⟨#[60, 45]⟩, ⟨#[43, 58, 61]⟩, ⟨#[124]⟩, ⟨#[46, 124]⟩, ⟨#[60]⟩, ⟨#[61, 61, 61]⟩, ⟨#[63, 63]⟩, ⟨#[124, 124]⟩, ⟨#[124, 124, 124]⟩, ⟨#[43]⟩, ⟨#[45, 45]⟩, ⟨#[42]⟩, ⟨#[42, 42]⟩, ⟨#[94]⟩, ⟨#[92]⟩, ⟨#[45, 62]⟩, ⟨#[61, 62]⟩] (by decide +kernel)) (by have := T5.out.cur.1; omega) (by omega) (by omega)).mono ?_; rintro e w6 ⟨z, hz, rfl, hC6, hO6⟩; have T6 := hide (T5.out.on (Oth.trans (Oth.of_bel bl) hO6) hC6 hne hbc); have hz' := hide hz; have pb := T6.out.box; obtain ⟨hl6, f6, k60, k61, k62, k63, k64⟩ := pb; clear hC6 hO6 hz))
         all_goals go_meet
         all_goals exact ⟨_, _, ErS.put1 HC.out T6.out hwb hbc hz'.out⟩
       case rest =>
        obtain ⟨t, m, T⟩ := hcut
        clear T5 q
        have T5 := hide T
        clear T
        have pb := T5.out.box; obtain ⟨hl5, f5, k50, k51, k52, k53, k54⟩ := pb
        go_upto_region 10 with (fail)
        go_cut [49] from 10 (fun v wx => ErS w wx c A n cap b kd t m ∧ ∃ q : Bool, v = .bool q)
        case first =>
         go_wp2_with (fail)
         all_goals go_meet
         all_goals exact ⟨T5.out, _, rfl⟩
        case rest =>
         obtain ⟨T, q, rfl⟩ := hcut
         clear T5 hl5 f5 k50 k51 k52 k53 k54
         have T5 := hide T
         clear T
         go_upto_if 49 with (fail)
         go_cut [] from 10 (fun wx => ∃ t m, ErS w wx c A n cap b kd t m)
         case first =>
          cases q
          ·
           go_wp2_with (fail)
           all_goals go_meet
           all_goals exact ⟨_, _, T5.out⟩
          ·
           have pb := T5.out.box; obtain ⟨hl5, f5, k50, k51, k52, k53, k54⟩ := pb
           go_wp2_with ((fail))
           all_goals go_meet
           all_goals exact ⟨_, _, ErS.put1 HC.out T5.out hwb hbc (by decide)⟩
         case rest =>
          obtain ⟨t, m, T⟩ := hcut
          clear T5 q
          have T5 := hide T
          clear T
          have LH := hide (lohi_in kd)
          obtain ⟨lo1, lo2, hi1, hi2⟩ := LH.out
          have pb := T5.out.box; obtain ⟨hl5, f5, k50, k51, k52, k53, k54⟩ := pb
          go_upto_region 13 with (go_at_call 40; refine (l6Counts_any kd m 0 t none 0 0 _).mono ?_; rintro e w6 ⟨rfl, hb6⟩; have T6 := hide (T5.out.bel hb6); clear hb6)
          generalize (lohiE kd).1 = lo at lo1 lo2 ⊢
          generalize (lohiE kd).2 = hi at hi1 hi2 ⊢
          clear T5 LH hl5 f5 k50 k51 k52 k53 k54
          have T5 := hide T6.out
          clear T6
          go_upto_region 14 with (first | (go_at_call 12; refine (l1Below_any 3 c A n cap _ T5.out.cur (by unfold InI; omega)).mono ?_; rintro e w7 ⟨y, y1, y2, rfl, hC6, hO6⟩; have y3 : y ≤ 2 := y2; clear y2; have T6 := hide (T5.out.on hO6 hC6 hne hbc); clear hC6 hO6; have hw3 : IntKind.i64.wrap (lo + y) = lo + y := (by rw [IntKind.wrap_i64]; omega)) | (go_at_call 41; refine (l1Min_ex _ _ _).mono ?_; rintro e w8 ⟨rfl, rfl⟩))
          obtain ⟨N, hN⟩ : ∃ N : Nat, min (lo + y) hi = (N : Int) := Int.eq_ofNat_of_zero_le (by omega)
          have hN6 : N ≤ 6 := by omega
          simp only [hN]
          clear T5 hw3 hN
          have T5 := hide T6.out
          clear T6
          have pb := T5.out.box; obtain ⟨hl5, f5, k50, k51, k52, k53, k54⟩ := pb
          go_upto_if 64 with (fail)
          go_cut [8] from 10 (fun v wx => ∃ (N : Nat) (t : ByteArray) (m : Int), v = .int .i64 N ∧ N ≤ 6 ∧ ErS w wx c A n cap b kd t m)
          case first =>
           by_cases hk : kd = 20
           ·
            subst hk
            go_upto_region 16 with (go_at_call 12; refine (l1Below_any 2 c A n cap _ T5.out.cur (by unfold InI; omega)).mono ?_; rintro e w9 ⟨u, u1, u2, rfl, hC6, hO6⟩; have u3 : u ≤ 1 := u2; clear u2; have T6 := hide (T5.out.on hO6 hC6 hne hbc); have pb := T6.out.box; obtain ⟨hl6, f6, k60, k61, k62, k63, k64⟩ := pb; clear hC6 hO6)
            refine wp_namedF fun w10 hw10 => ?_
            have T7 := hide (show ErS w w10 c A n cap b 20 t u from by rw [← hw10]; exact ErS.put2 HC.out T6.out hwb hbc (by unfold InI; omega))
            clear hw10 T6 hl6 f6 k60 k61 k62 k63 k64
            have pb := T7.out.box; obtain ⟨hl7, f7, k70, k71, k72, k73, k74⟩ := pb
            have hwa : IntKind.i64.wrap (1 + u) = 1 + u := by rw [IntKind.wrap_i64]; omega
            refine wp_region_held_drew (S := fun w' => w'.cell? ⟨b, 2, none⟩ = some (.int .i64 u)) (by kernel_rfl) k72 (fun hHeld => ?_)
            refine tkI 0 ?_
            refine tkI 1 ?_
            refine tkI 2 ?_
            refine tkI 3 ?_
            refine wpAnyH_ready (rs := [4]) (by kernel_rfl) (by simp) ?_
            refine AllReadyH.cons (o := _) rfl (fun K hK => ?_) AllReadyH.nil
            go_simp
            go_at_call 12
            refine (l1Below_any 3 c A n cap _ (T7.out.cur.bel bl) (by unfold InI; omega)).mono ?_
            rintro e w11 ⟨y9, v1, v2, rfl, hC6, hO6⟩
            have v3 : y9 ≤ 2 := v2
            clear v2
            have T8 := hide (T7.out.on (Oth.trans (Oth.of_bel bl) hO6) hC6 hne hbc)
            clear hC6 hO6 hl7 f7 k70 k71 k72 k73 k74
            have pb := T8.out.box; obtain ⟨hl8, f8, k80, k81, k82, k83, k84⟩ := pb
            refine hK.out _ _ k82 (fun hHeld => ?_)
            clear hK K
            (try simp only [Act.put, List.setIfInBounds_toArray, List.set_cons_zero, List.set_cons_succ, List.getElem_toArray, List.getElem_cons_zero, List.getElem_cons_succ])
            have hwb : IntKind.i64.wrap (2 * y9) = 2 * y9 := by rw [IntKind.wrap_i64]; omega
            have hwc : IntKind.i64.wrap (1 + u + 2 * y9) = 1 + u + 2 * y9 := by rw [IntKind.wrap_i64]; omega
            refine tkI 5 ?_
            refine tkI 6 ?_
            refine tkI 7 ?_
            refine wpAnyH_done (by kernel_rfl) ?_ _
            clear hHeld
            go_wp2_with (fail)
            all_goals go_meet
            all_goals exact ⟨(1 + u + 2 * y9).toNat, _, _, by congr 1; omega, by omega, T8.out⟩
           ·
            have hkd : decide (kd = 20) = false := by simp [hk]
            go_wp2_with (fail)
            all_goals go_meet
            all_goals exact ⟨N, _, _, rfl, hN6, T5.out⟩
          case rest =>
           obtain ⟨N, t, m, rfl, hN6, T⟩ := hcut
           clear T5 hl5 f5 k50 k51 k52 k53 k54
           have T5 := hide T
           clear T
           have pb := T5.out.box; obtain ⟨hl5, f5, k50, k51, k52, k53, k54⟩ := pb
           obtain ⟨ip, hip, zp0, zp1, zp2⟩ := info_parts infoExpr
           go_wp2_with (fail)
           go_loopw [9] (fun iv wr => ∃ (i : Nat) (ts : List TExpr) (v : Value) (L : List Nat), iv = .int .i64 i ∧ ts.length = i ∧ i ≤ N ∧ Hid (ErL w wr c A n cap b kd t m v L ts (d - 1))) (fun iv _ => N - (intOf iv).toNat)
           case atStart => exact ⟨0, [], _, [], rfl, rfl, Nat.zero_le _, hide ⟨T5.out.box, T5.out.res, T5.out.cur, T5.out.oth, OwnD.nil _ _ _, (fun k hk => by rcases hk with hk | hk <;> cases hk), (fun x hx => by cases hx)⟩⟩
           case round =>
            obtain ⟨i, ts, v, L, rfl, hlen, hik, HT⟩ := hrel
            clear hl5 f5 k50 k51 k52 k53 k54
            have pb := HT.out.box; obtain ⟨hl5, f5, k50, k51, k52, k53, k54⟩ := pb
            have hzb := HT.out.oth.size
            obtain ⟨e0, he, hC⟩ := hrec.out hdeep
            have HE := hide he
            have HCr := hide hC
            have hd0 : d - 1 = e0 := by omega
            rw [hd0] at HT
            clear he hC
            by_cases h : i < N
            ·
             skip
             have hdc : decide ((i : Int) < (N : Int)) = true := by simp; omega
             have hdn : decide (i < N) = true := by simp [h]
             have hw1 : IntKind.i64.wrap (deep - 1) = deep - 1 := by rw [IntKind.wrap_i64]; omega
             have hde : deep - 1 ≤ (e0 : Int) + 1 := by have := HE.out; omega
             go_upto_region 20 with (fail)
             refine wp_region_held_drew (S := fun _ => True) (by kernel_rfl) trivial (fun hHeld => ?_)
             refine tkI 0 ?_
             refine tkI 2 ?_
             refine tkI 3 ?_
             refine tkI 4 ?_
             refine wpAnyH_ready (rs := [1, 5]) (by kernel_rfl) (by simp) ?_
             refine AllReadyH.cons (o := _) rfl (fun K hK => ?_) (AllReadyH.cons (o := _) rfl (fun K hK => ?_) AllReadyH.nil)
             ·
              skip
              go_simp
              refine hK.out _ _ trivial (fun hHeld => ?_)
              clear hK K
              (try simp only [Act.put, List.setIfInBounds_toArray, List.set_cons_zero, List.set_cons_succ, List.getElem_toArray, List.getElem_cons_zero, List.getElem_cons_succ])
              refine wpAnyH_ready (rs := [5]) (by kernel_rfl) (by simp) ?_
              refine AllReadyH.cons (o := _) rfl (fun K hK => ?_) AllReadyH.nil
              go_simp
              go_at_call 26
              have T6 := hide (ErL.bel HT.out hlt (show Bel wr wr.drew from bl) hne hbc)
              refine (HCr.out wr.drew (deep - 1) T6.out.cur hde (by omega) (by omega)).mono ?_
              rintro e w7 ⟨⟨x0, x1, x2, x3, x4⟩, us, M, rfl, hown, hnd, hM, hwt, hC7, hO7⟩
              have T7 := hide (ErL.on T6.out hlt hO7 hC7 hne hbc)
              have hzM := T6.out.box.1
              have hzT := T6.out.own.lt
              have HMB := hide (show ∀ x, x ∈ M → x ≠ b ∧ w.heap.size < x ∧ ¬ Blk v L x from fun x hx => ⟨by have := (hM x hx).1; omega, by have := (hM x hx).1; have := T6.out.res.1; omega, fun hb => by have h1 := (hM x hx).1; have h2 := hzT x hb; omega⟩)
              obtain ⟨A5, c5, L5, rfl, rfl, g0, g1, g2, g3, g4⟩ := TExpr.vals_own hown
              have HOV := hide hown
              have HND := hide hnd
              have HWT := hide hwt
              clear hown hnd hM hwt hC7 hO7 g4 hzM hzT
              have pb := T7.out.box; obtain ⟨hl7, f7, k70, k71, k72, k73, k74⟩ := pb
              refine hK.out _ _ trivial (fun hHeld => ?_)
              clear hK K
              (try simp only [Act.put, List.setIfInBounds_toArray, List.set_cons_zero, List.set_cons_succ, List.getElem_toArray, List.getElem_cons_zero, List.getElem_cons_succ])
              refine wpAnyH_ready (rs := [6]) (by kernel_rfl) (by simp) ?_
              refine AllReadyH.cons (o := _) rfl (fun K hK => ?_) AllReadyH.nil
              go_simp
              have hown8 := OwnD.lit1 (k := 5) w7 42 HOV.out rfl HND.out
              obtain ⟨nw, hsr⟩ := hown8.src
              have HSR := hide hsr
              clear hown8 hsr
              have T8 := hide (ErL.bel T7.out hlt (show Bel w7 (w7.alloc (.cells #[.int .i64 x0, .string x1, .int .i64 x2, .int .i64 x3, .slice A5 x4.length c5] 42)) from bl) hne hbc)
              refine hK.out _ _ trivial (fun hHeld => ?_)
              clear hK K
              (try simp only [Act.put, List.setIfInBounds_toArray, List.set_cons_zero, List.set_cons_succ, List.getElem_toArray, List.getElem_cons_zero, List.getElem_cons_succ])
              refine wpAnyH_ready (rs := [7]) (by kernel_rfl) (by simp) ?_
              refine AllReadyH.cons (o := _) rfl (fun K hK => ?_) AllReadyH.nil
              rw [if_pos (by rfl)]
              refine wp_append_D (.tmp 81) (.tmp 86) 40 rfl 42 ip (.agg #[.int .i64 0, .string ByteArray.empty, .int .i64 0, .int .i64 0, .slice none 0 0]) 5 64 Tryd.underlying40 hip zp0 zp1 zp2 (by decide) (by decide) T8.out.own HSR.out 1 rfl rfl (fun x hb hm => (HMB.out x hm).2.2 hb) (by rw [List.length_map]; omega) (by rw [List.length_map]; unfold maxLen; omega) (fun v9 w9 hO9 hg9 hw9 => ?_)
              obtain ⟨A9, n9, c9, rfl⟩ : ∃ A9 n9 c9, v9 = .slice A9 n9 c9 := by obtain ⟨A0, c0, L0, hv0, _⟩ := hO9.ownRow; exact ⟨_, _, _, hv0⟩
              obtain ⟨B9, TZ⟩ := ErL.grow HC.out T8.out hwb hbc hg9 hO9 (hw9) HMB.out HWT.out
              obtain ⟨hl9, f9, k90, k91, k92, k93, k94⟩ := B9
              have TZ := hide TZ
              clear hO9 hw9 hg9
              refine hK.out _ _ trivial (fun hHeld => ?_)
              clear hK K
              (try simp only [Act.put, List.setIfInBounds_toArray, List.set_cons_zero, List.set_cons_succ, List.getElem_toArray, List.getElem_cons_zero, List.getElem_cons_succ])
              have TY := TZ.out
              rw [← hd0] at TY
              replace TY := hide TY
              refine tkI 8 ?_
              refine wpAnyH_ready (rs := [9]) (by kernel_rfl) (by simp) ?_
              refine AllReadyH.cons (o := _) rfl (fun K hK => ?_) AllReadyH.nil
              go_simp
              refine hK.out _ _ trivial (fun hHeld => ?_)
              clear hK K
              (try simp only [Act.put, List.setIfInBounds_toArray, List.set_cons_zero, List.set_cons_succ, List.getElem_toArray, List.getElem_cons_zero, List.getElem_cons_succ])
              refine wpAnyH_done (by kernel_rfl) ?_ _
              clear hHeld
              go_wp2_with (fail)
              all_goals go_roundw
              case rel => exact ⟨i + 1, _, _, _, by go_num, by rw [List.length_append, hlen]; rfl, by omega, hide TY.out⟩
              case measure => simp [intOf]; omega
             ·
              skip
              go_simp
              go_at_call 26
              have T6 := hide (ErL.bel HT.out hlt (show Bel wr wr.drew from bl) hne hbc)
              refine (HCr.out wr.drew (deep - 1) T6.out.cur hde (by omega) (by omega)).mono ?_
              rintro e w7 ⟨⟨x0, x1, x2, x3, x4⟩, us, M, rfl, hown, hnd, hM, hwt, hC7, hO7⟩
              have T7 := hide (ErL.on T6.out hlt hO7 hC7 hne hbc)
              have hzM := T6.out.box.1
              have hzT := T6.out.own.lt
              have HMB := hide (show ∀ x, x ∈ M → x ≠ b ∧ w.heap.size < x ∧ ¬ Blk v L x from fun x hx => ⟨by have := (hM x hx).1; omega, by have := (hM x hx).1; have := T6.out.res.1; omega, fun hb => by have h1 := (hM x hx).1; have h2 := hzT x hb; omega⟩)
              obtain ⟨A5, c5, L5, rfl, rfl, g0, g1, g2, g3, g4⟩ := TExpr.vals_own hown
              have HOV := hide hown
              have HND := hide hnd
              have HWT := hide hwt
              clear hown hnd hM hwt hC7 hO7 g4 hzM hzT
              have pb := T7.out.box; obtain ⟨hl7, f7, k70, k71, k72, k73, k74⟩ := pb
              refine hK.out _ _ trivial (fun hHeld => ?_)
              clear hK K
              (try simp only [Act.put, List.setIfInBounds_toArray, List.set_cons_zero, List.set_cons_succ, List.getElem_toArray, List.getElem_cons_zero, List.getElem_cons_succ])
              refine wpAnyH_ready (rs := [1, 6]) (by kernel_rfl) (by simp) ?_
              refine AllReadyH.cons (o := _) rfl (fun K hK => ?_) (AllReadyH.cons (o := _) rfl (fun K hK => ?_) AllReadyH.nil)
              ·
               skip
               go_simp
               refine hK.out _ _ trivial (fun hHeld => ?_)
               clear hK K
               (try simp only [Act.put, List.setIfInBounds_toArray, List.set_cons_zero, List.set_cons_succ, List.getElem_toArray, List.getElem_cons_zero, List.getElem_cons_succ])
               refine wpAnyH_ready (rs := [6]) (by kernel_rfl) (by simp) ?_
               refine AllReadyH.cons (o := _) rfl (fun K hK => ?_) AllReadyH.nil
               go_simp
               have hown8 := OwnD.lit1 (k := 5) w7 42 HOV.out rfl HND.out
               obtain ⟨nw, hsr⟩ := hown8.src
               have HSR := hide hsr
               clear hown8 hsr
               have T8 := hide (ErL.bel T7.out hlt (show Bel w7 (w7.alloc (.cells #[.int .i64 x0, .string x1, .int .i64 x2, .int .i64 x3, .slice A5 x4.length c5] 42)) from bl) hne hbc)
               refine hK.out _ _ trivial (fun hHeld => ?_)
               clear hK K
               (try simp only [Act.put, List.setIfInBounds_toArray, List.set_cons_zero, List.set_cons_succ, List.getElem_toArray, List.getElem_cons_zero, List.getElem_cons_succ])
               refine wpAnyH_ready (rs := [7]) (by kernel_rfl) (by simp) ?_
               refine AllReadyH.cons (o := _) rfl (fun K hK => ?_) AllReadyH.nil
               rw [if_pos (by rfl)]
               refine wp_append_D (.tmp 81) (.tmp 86) 40 rfl 42 ip (.agg #[.int .i64 0, .string ByteArray.empty, .int .i64 0, .int .i64 0, .slice none 0 0]) 5 64 Tryd.underlying40 hip zp0 zp1 zp2 (by decide) (by decide) T8.out.own HSR.out 1 rfl rfl (fun x hb hm => (HMB.out x hm).2.2 hb) (by rw [List.length_map]; omega) (by rw [List.length_map]; unfold maxLen; omega) (fun v9 w9 hO9 hg9 hw9 => ?_)
               obtain ⟨A9, n9, c9, rfl⟩ : ∃ A9 n9 c9, v9 = .slice A9 n9 c9 := by obtain ⟨A0, c0, L0, hv0, _⟩ := hO9.ownRow; exact ⟨_, _, _, hv0⟩
               obtain ⟨B9, TZ⟩ := ErL.grow HC.out T8.out hwb hbc hg9 hO9 (hw9) HMB.out HWT.out
               obtain ⟨hl9, f9, k90, k91, k92, k93, k94⟩ := B9
               have TZ := hide TZ
               clear hO9 hw9 hg9
               refine hK.out _ _ trivial (fun hHeld => ?_)
               clear hK K
               (try simp only [Act.put, List.setIfInBounds_toArray, List.set_cons_zero, List.set_cons_succ, List.getElem_toArray, List.getElem_cons_zero, List.getElem_cons_succ])
               have TY := TZ.out
               rw [← hd0] at TY
               replace TY := hide TY
               refine tkI 8 ?_
               refine wpAnyH_ready (rs := [9]) (by kernel_rfl) (by simp) ?_
               refine AllReadyH.cons (o := _) rfl (fun K hK => ?_) AllReadyH.nil
               go_simp
               refine hK.out _ _ trivial (fun hHeld => ?_)
               clear hK K
               (try simp only [Act.put, List.setIfInBounds_toArray, List.set_cons_zero, List.set_cons_succ, List.getElem_toArray, List.getElem_cons_zero, List.getElem_cons_succ])
               refine wpAnyH_done (by kernel_rfl) ?_ _
               clear hHeld
               go_wp2_with (fail)
               all_goals go_roundw
               case rel => exact ⟨i + 1, _, _, _, by go_num, by rw [List.length_append, hlen]; rfl, by omega, hide TY.out⟩
               case measure => simp [intOf]; omega
              ·
               skip
               go_simp
               have hown8 := OwnD.lit1 (k := 5) w7 42 HOV.out rfl HND.out
               obtain ⟨nw, hsr⟩ := hown8.src
               have HSR := hide hsr
               clear hown8 hsr
               have T8 := hide (ErL.bel T7.out hlt (show Bel w7 (w7.alloc (.cells #[.int .i64 x0, .string x1, .int .i64 x2, .int .i64 x3, .slice A5 x4.length c5] 42)) from bl) hne hbc)
               refine hK.out _ _ trivial (fun hHeld => ?_)
               clear hK K
               (try simp only [Act.put, List.setIfInBounds_toArray, List.set_cons_zero, List.set_cons_succ, List.getElem_toArray, List.getElem_cons_zero, List.getElem_cons_succ])
               have pb := T8.out.box; obtain ⟨hl8, f8, k80, k81, k82, k83, k84⟩ := pb
               refine wpAnyH_ready (rs := [1]) (by kernel_rfl) (by simp) ?_
               refine AllReadyH.cons (o := _) rfl (fun K hK => ?_) AllReadyH.nil
               go_simp
               refine hK.out _ _ trivial (fun hHeld => ?_)
               clear hK K
               (try simp only [Act.put, List.setIfInBounds_toArray, List.set_cons_zero, List.set_cons_succ, List.getElem_toArray, List.getElem_cons_zero, List.getElem_cons_succ])
               refine wpAnyH_ready (rs := [7]) (by kernel_rfl) (by simp) ?_
               refine AllReadyH.cons (o := _) rfl (fun K hK => ?_) AllReadyH.nil
               rw [if_pos (by rfl)]
               refine wp_append_D (.tmp 81) (.tmp 86) 40 rfl 42 ip (.agg #[.int .i64 0, .string ByteArray.empty, .int .i64 0, .int .i64 0, .slice none 0 0]) 5 64 Tryd.underlying40 hip zp0 zp1 zp2 (by decide) (by decide) T8.out.own HSR.out 1 rfl rfl (fun x hb hm => (HMB.out x hm).2.2 hb) (by rw [List.length_map]; omega) (by rw [List.length_map]; unfold maxLen; omega) (fun v9 w9 hO9 hg9 hw9 => ?_)
               obtain ⟨A9, n9, c9, rfl⟩ : ∃ A9 n9 c9, v9 = .slice A9 n9 c9 := by obtain ⟨A0, c0, L0, hv0, _⟩ := hO9.ownRow; exact ⟨_, _, _, hv0⟩
               obtain ⟨B9, TZ⟩ := ErL.grow HC.out T8.out hwb hbc hg9 hO9 (hw9) HMB.out HWT.out
               obtain ⟨hl9, f9, k90, k91, k92, k93, k94⟩ := B9
               have TZ := hide TZ
               clear hO9 hw9 hg9
               refine hK.out _ _ trivial (fun hHeld => ?_)
               clear hK K
               (try simp only [Act.put, List.setIfInBounds_toArray, List.set_cons_zero, List.set_cons_succ, List.getElem_toArray, List.getElem_cons_zero, List.getElem_cons_succ])
               have TY := TZ.out
               rw [← hd0] at TY
               replace TY := hide TY
               refine tkI 8 ?_
               refine wpAnyH_ready (rs := [9]) (by kernel_rfl) (by simp) ?_
               refine AllReadyH.cons (o := _) rfl (fun K hK => ?_) AllReadyH.nil
               go_simp
               refine hK.out _ _ trivial (fun hHeld => ?_)
               clear hK K
               (try simp only [Act.put, List.setIfInBounds_toArray, List.set_cons_zero, List.set_cons_succ, List.getElem_toArray, List.getElem_cons_zero, List.getElem_cons_succ])
               refine wpAnyH_done (by kernel_rfl) ?_ _
               clear hHeld
               go_wp2_with (fail)
               all_goals go_roundw
               case rel => exact ⟨i + 1, _, _, _, by go_num, by rw [List.length_append, hlen]; rfl, by omega, hide TY.out⟩
               case measure => simp [intOf]; omega
            ·
             skip
             have hdc : decide ((i : Int) < (N : Int)) = false := by simp; omega
             have hdn : decide (i < N) = false := by simp; omega
             obtain ⟨A9, n9, c9, rfl⟩ : ∃ A9 n9 c9, v = .slice A9 n9 c9 := by obtain ⟨A0, c0, L0, hv0, _⟩ := HT.out.own.ownRow; exact ⟨_, _, _, hv0⟩
             have RB := HT.out.res
             obtain ⟨rl, rf, r0, r1, r2, r3, r4⟩ := RB
             go_upto_region 21 with (fail)
             have HF := hide (ErL.fin HC.out HT.out hwb hbc T5.out.ik T5.out.ht T5.out.im (by omega))
             have HTR := hide HT.out.res
             have HRB := hide (show EB wr w.heap.size (.int .i64 0) (.string ByteArray.empty) (.int .i64 0) (.int .i64 0) (.slice none 0 0) from HTR.out)
             clear r0 r1 r2 r3 r4 rf f5
             refine wp_region_lit ?_
             refine wpList_plain rfl fun K hK => ?_
             go_simp
             refine hK _ _ ?_
             refine wpList_store_mid rfl 42 (.tmp 4) (.tmp 89) rfl w.heap.size 0 #[.int .i64 kd, .string t, .int .i64 m, .int .i64 0, .slice A9 n9 c9] rfl rfl HRB.out.there (by kernel_rfl) (by simp [Value.oneCell']) ?_
             refine wpList_namedF fun wz hwz => ?_
             obtain ⟨PZ, QZ⟩ := HF.out wz hwz
             obtain ⟨-, -, d0, d1, d2, d3, d4⟩ := PZ
             clear hwz k50 k51 k52 k53 k54 HRB HF
             refine wpList_nil ?_
             go_simp
             rename_i hKr
             refine hKr _ _ ?_
             clear hKr hK
             refine wp_ret ?_
             exact bodyPost_ret (v := .agg #[.int .i64 kd, .string t, .int .i64 m, .int .i64 0, .slice A9 n9 c9]) (by simp [results, Tryd.results26, d0, d1, d2, d3, d4, go_sem]; try rfl) rfl (by rw [HE.out]; exact QZ)
end Go.Proofs.YtdacpljinffnaaaDoor
