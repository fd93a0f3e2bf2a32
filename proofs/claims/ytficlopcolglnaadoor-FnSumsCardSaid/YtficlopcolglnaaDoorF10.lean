/- Draws: an operator and two values. -/
import Derived.Test.YtficlopcolglnaaDoorF9
namespace Go.Proofs.YtficlopcolglnaaDoor
set_option linter.unusedVariables false
set_option linter.unusedSimpArgs false
set_option maxRecDepth 100000
open Go.RowKit

/-- An operator and two values come back. -/
def DrawnB (w : World) (e : Ending) (w' : World) : Prop :=
  ∃ (op : Int) (a b : VVal), InI op ∧ a.Ok ∧ b.Ok ∧ e = .returned (.tuple #[.int .i64 op, a.val, b.val]) ∧ Bel w w'
theorem Z6.far6 {w : World} {b b' : Nat} (h' : Z6 w b') (hn : b ≠ b') (x0 x1 x2 x3 x4 x5 : Value) : Z6 (put6 w b x0 x1 x2 x3 x4 x5) b' := by
  obtain ⟨c0, c1, c2, c3, c4, c5, f, l⟩ := h'
  have e : ∀ o, (put6 w b x0 x1 x2 x3 x4 x5).cell? ⟨b', o, none⟩ = w.cell? ⟨b', o, none⟩ := fun o => by
    unfold put6
    rw [World.cell?_setCell_far _ _ _ _ hn, World.cell?_setCell_far _ _ _ _ hn, World.cell?_setCell_far _ _ _ _ hn, World.cell?_setCell_far _ _ _ _ hn, World.cell?_setCell_far _ _ _ _ hn, World.cell?_setCell_far _ _ _ _ hn]
  exact ⟨(e 0).trans c0, (e 1).trans c1, (e 2).trans c2, (e 3).trans c3, (e 4).trans c4, (e 5).trans c5, fun o => by unfold put6; simpa using f o, by unfold put6; simpa using l⟩
theorem Six.far6 {w : World} {b b' : Nat} {x0 x1 x2 x3 x4 x5 : Value} (h : Six w b' x0 x1 x2 x3 x4 x5) (hn : b ≠ b') (y0 y1 y2 y3 y4 y5 : Value) : Six (put6 w b y0 y1 y2 y3 y4 y5) b' x0 x1 x2 x3 x4 x5 := by
  obtain ⟨c0, c1, c2, c3, c4, c5⟩ := h
  have e : ∀ o, (put6 w b y0 y1 y2 y3 y4 y5).cell? ⟨b', o, none⟩ = w.cell? ⟨b', o, none⟩ := fun o => by
    unfold put6
    rw [World.cell?_setCell_far _ _ _ _ hn, World.cell?_setCell_far _ _ _ _ hn, World.cell?_setCell_far _ _ _ _ hn, World.cell?_setCell_far _ _ _ _ hn, World.cell?_setCell_far _ _ _ _ hn, World.cell?_setCell_far _ _ _ _ hn]
  exact ⟨(e 0).trans c0, (e 1).trans c1, (e 2).trans c2, (e 3).trans c3, (e 4).trans c4, (e 5).trans c5⟩
theorem ret_two {P : Program} {fn : Func} {Q : Ending → World → Prop} {ex : Exit} {a : Act} {w w00 : World} {b b' : Nat} {x0 x1 x2 x3 x4 x5 y0 y1 y2 y3 y4 y5 : Value} (h : Z6 w b) (h' : Z6 w b') (hn : b ≠ b') (hb : w00.heap.size ≤ b) (hb' : w00.heap.size ≤ b') (h0 : Bel w00 w)
    (H : ∀ w', Six w' b x0 x1 x2 x3 x4 x5 → Six w' b' y0 y1 y2 y3 y4 y5 → Bel w00 w' → bodyPost P fn Q ex a w') :
    bodyPost P fn Q ex a (put6 (put6 w b x0 x1 x2 x3 x4 x5) b' y0 y1 y2 y3 y4 y5) :=
  H _ (Six.far6 (h.put x0 x1 x2 x3 x4 x5) (Ne.symm hn) y0 y1 y2 y3 y4 y5) ((h'.far6 hn x0 x1 x2 x3 x4 x5).put y0 y1 y2 y3 y4 y5) ((h0.put6 hb x0 x1 x2 x3 x4 x5).put6 hb' y0 y1 y2 y3 y4 y5)

theorem two_zero (w : World) : Z6 ((w.alloc (.cells #[.int .i64 0, .int .i64 0, .int .i64 0, .string ByteArray.empty, .int .i64 0, .int .i64 0] 37)).alloc (.cells #[.int .i64 0, .int .i64 0, .int .i64 0, .string ByteArray.empty, .int .i64 0, .int .i64 0] 37)) w.heap.size ∧ Z6 ((w.alloc (.cells #[.int .i64 0, .int .i64 0, .int .i64 0, .string ByteArray.empty, .int .i64 0, .int .i64 0] 37)).alloc (.cells #[.int .i64 0, .int .i64 0, .int .i64 0, .string ByteArray.empty, .int .i64 0, .int .i64 0] 37)) (w.heap.size + 1) ∧ Bel w ((w.alloc (.cells #[.int .i64 0, .int .i64 0, .int .i64 0, .string ByteArray.empty, .int .i64 0, .int .i64 0] 37)).alloc (.cells #[.int .i64 0, .int .i64 0, .int .i64 0, .string ByteArray.empty, .int .i64 0, .int .i64 0] 37)) := by
  refine ⟨Z6.on Z6.new (Bel.alloc (Bel.refl _) _), ?_, Bel.alloc (Bel.alloc (Bel.refl _) _) _⟩
  have h := Z6.new (w := w.alloc (.cells #[.int .i64 0, .int .i64 0, .int .i64 0, .string ByteArray.empty, .int .i64 0, .int .i64 0] 37)) (t := 37)
  rw [World.size_alloc] at h
  exact h
theorem l1New_two (A : Option Addr) (n cap : Nat) (w : World) (hn : n ≤ 1048576) (hB : ∀ c, w.heap.size ≤ c → Bts w c A n) :
    Calls Tryd.prog 56 #[.slice A n cap] ((w.alloc (.cells #[.int .i64 0, .int .i64 0, .int .i64 0, .string ByteArray.empty, .int .i64 0, .int .i64 0] 37)).alloc (.cells #[.int .i64 0, .int .i64 0, .int .i64 0, .string ByteArray.empty, .int .i64 0, .int .i64 0] 37)) fun e w' => e = .returned (.pointer (some ⟨w.heap.size + 1 + 1, 0, none⟩)) ∧ Cur w' (w.heap.size + 1 + 1) A n cap ∧ Z6 w' w.heap.size ∧ Z6 w' (w.heap.size + 1) ∧ Bel w w' := by
  obtain ⟨z1, z2, hb⟩ := two_zero w
  refine (l1New_any A n cap _ hn (fun c h => (hB c (by simp at h; omega)).on (Oth.of_bel hb))).mono fun e w' ⟨he, hC, hb'⟩ => ?_
  simp only [World.size_alloc] at he hC
  exact ⟨he, hC, z1.on hb', z2.on hb', hb.trans hb'⟩

set_option maxHeartbeats 1000000 in
theorem drawBinary_any (A : Option Addr) (n cap : Nat) (w : World) (hn : n ≤ 1048576) (hB : ∀ c, w.heap.size ≤ c → Bts w c A n) :
    Calls Tryd.prog 40 #[.slice A n cap] w (DrawnB w) := by
  have HN := hide (l1New_two A n cap w hn hB)
  clear hB
  have hne1 : w.heap.size ≠ w.heap.size + 1 + 1 := by omega
  have hne2 : w.heap.size + 1 ≠ w.heap.size + 1 + 1 := by omega
  go_enter Tryd.func40, Tryd.ntmps40
  go_upto_region 2 with (go_at_call 56; refine HN.out.mono ?_; rintro e w1 ⟨rfl, hC1, za1, zb1, hb1⟩; have HC1 := hide hC1; have ZA1 := hide za1; have ZB1 := hide zb1; have HB1 := hide hb1; clear hC1 za1 zb1 hb1)
  go_upto_region 3 with (go_at_call 64; refine (l1Below_any 35 _ A n cap _ HC1.out (by unfold InI; omega)).mono ?_; rintro e w2 ⟨o2, p2, q2, rfl, hC2, hO2⟩; have r2 : o2 ≤ 34 := q2; clear q2; have HC2 := hide hC2; have ZA2 := hide (ZA1.out.oth hO2 hne1); have ZB2 := hide (ZB1.out.oth hO2 hne2); have HB2 := hide (Oth.bel HB1.out hO2 (by omega)); clear hC2 hO2)
  -- the ways
  have tok1 : True := trivial
  by_cases q : 40 ≤ 20 + o2
  · have dq : decide ((40 : Int) ≤ 20 + o2) = true := by simp; omega
    go_wp2_with (fail)
    refine (l1Once_any 2 _ A n cap _ HC2.out (by unfold InI; omega)).mono ?_
    rintro e w3 ⟨y3, rfl, hC3, hO3⟩
    have HC3 := hide hC3
    have ZA3 := hide (ZA2.out.oth hO3 hne1)
    have ZB3 := hide (ZB2.out.oth hO3 hne2)
    have HB3 := hide (Oth.bel HB2.out hO3 (by omega))
    clear hC3 hO3
    cases y3
    · skip
      go_wp2_with (fail)
      refine (l1Once_any 3 _ A n cap _ HC3.out (by unfold InI; omega)).mono ?_
      rintro e w4 ⟨y4, rfl, hC4, hO4⟩
      have HC4 := hide hC4
      have ZA4 := hide (ZA3.out.oth hO4 hne1)
      have ZB4 := hide (ZB3.out.oth hO4 hne2)
      have HB4 := hide (Oth.bel HB3.out hO4 (by omega))
      clear hC4 hO4
      cases y4
      · skip
        go_wp2_with (first
          | ((with_reducible refine (l11Draw_any _ A n cap _ HC4.out).mono ?_); rintro e w5 ⟨x5, hx5, rfl, hC5, hO5⟩; have hx5' := hide hx5; clear hx5; obtain ⟨k5, n5, i5, t5, lo5, hi5⟩ := x5; simp only [VVal.val]; have HC5 := hide hC5; have ZA5 := hide (ZA4.out.oth hO5 hne1); have ZB5 := hide (ZB4.out.oth hO5 hne2); have HB5 := hide (Oth.bel HB4.out hO5 (by omega)); clear hC5 hO5; have ya := ZA5.out; obtain ⟨ya0, ya1, ya2, ya3, ya4, ya5, yaf, yal⟩ := ya; have yb := ZB5.out; obtain ⟨yb0, yb1, yb2, yb3, yb4, yb5, ybf, ybl⟩ := yb)
          | ((with_reducible refine (l11Draw_any _ A n cap _ HC5.out).mono ?_); rintro e w6 ⟨x6, hx6, rfl, hC6, hO6⟩; have hx6' := hide hx6; clear hx6; obtain ⟨k6, n6, i6, t6, lo6, hi6⟩ := x6; simp only [VVal.val]; have HC6 := hide hC6; have ZA6 := hide (ZA5.out.oth hO6 hne1); have ZB6 := hide (ZB5.out.oth hO6 hne2); have HB6 := hide (Oth.bel HB5.out hO6 (by omega)); clear hC6 hO6; have ya := ZA6.out; obtain ⟨ya0, ya1, ya2, ya3, ya4, ya5, yaf, yal⟩ := ya; have yb := ZB6.out; obtain ⟨yb0, yb1, yb2, yb3, yb4, yb5, ybf, ybl⟩ := yb))
        refine ret_two ZA6.out ZB6.out (by omega) (Nat.le_refl _) (by omega) HB6.out fun wz sa sb hbz => ?_
        obtain ⟨d0, d1, d2, d3, d4, d5⟩ := sa
        obtain ⟨e0, e1, e2, e3, e4, e5⟩ := sb
        exact bodyPost_ret (v := .tuple #[.int .i64 (20 + o2), (VVal.mk k5 n5 i5 t5 lo5 hi5).val, (VVal.mk k6 n6 i6 t6 lo6 hi6).val]) (by simp [results, Tryd.results40, d0, d1, d2, d3, d4, d5, e0, e1, e2, e3, e4, e5, go_sem]; first | done | rfl | exact ⟨rfl, rfl⟩) rfl ⟨20 + o2, VVal.mk k5 n5 i5 t5 lo5 hi5, VVal.mk k6 n6 i6 t6 lo6 hi6, by unfold InI; omega, hx5'.out, hx6'.out, rfl, hbz⟩
      · skip
        go_wp2_with (first
          | ((have tok := tok1); go_at_call 69; refine (l1PickInt_any w4.heap.size 8 8 _ A n cap _ (HC4.out.bel (Bel.alloc (Bel.refl w4) _)) (rowI_new (w := w4) [0, 1, -1, 2, 7, 10, 999999, 999999999999] (by decide)) (by have := HC4.out.1; omega) (by omega) (by omega)).mono ?_; clear tok1 tok; rintro e w5 ⟨x5, hx5, rfl, hC5, hO5⟩; have hx5' := hide hx5; clear hx5; have hO5 := Oth.trans (Oth.of_bel (Bel.alloc (Bel.refl w4) _)) hO5; have HC5 := hide hC5; have ZA5 := hide (ZA4.out.oth hO5 hne1); have ZB5 := hide (ZB4.out.oth hO5 hne2); have HB5 := hide (Oth.bel HB4.out hO5 (by omega)); clear hC5 hO5)
          | (go_at_call 68; (with_reducible refine (l11Int_ex x5 _).mono ?_); rintro e w6 ⟨rfl, hb6⟩; have HC6 := hide (HC5.out.bel hb6); have ZA6 := hide (ZA5.out.on hb6); have ZB6 := hide (ZB5.out.on hb6); have HB6 := hide (HB5.out.trans hb6); clear hb6; have ya := ZA6.out; obtain ⟨ya0, ya1, ya2, ya3, ya4, ya5, yaf, yal⟩ := ya; have yb := ZB6.out; obtain ⟨yb0, yb1, yb2, yb3, yb4, yb5, ybf, ybl⟩ := yb)
          | (go_at_call 69; refine (l1PickInt_any w6.heap.size 9 9 _ A n cap _ (HC6.out.bel (Bel.alloc (Bel.refl w6) _)) (rowI_new (w := w6) [0, 1, -1, 2, 3, 12, 999999, 1000001, -999999999999] (by decide)) (by have := HC6.out.1; omega) (by omega) (by omega)).mono ?_; rintro e w7 ⟨x7, hx7, rfl, hC7, hO7⟩; have hx7' := hide hx7; clear hx7; have hO7 := Oth.trans (Oth.of_bel (Bel.alloc (Bel.refl w6) _)) hO7; have HC7 := hide hC7; have ZA7 := hide (ZA6.out.oth hO7 hne1); have ZB7 := hide (ZB6.out.oth hO7 hne2); have HB7 := hide (Oth.bel HB6.out hO7 (by omega)); clear hC7 hO7)
          | (go_at_call 68; (with_reducible refine (l11Int_ex x7 _).mono ?_); rintro e w8 ⟨rfl, hb8⟩; have HC8 := hide (HC7.out.bel hb8); have ZA8 := hide (ZA7.out.on hb8); have ZB8 := hide (ZB7.out.on hb8); have HB8 := hide (HB7.out.trans hb8); clear hb8; have ya := ZA8.out; obtain ⟨ya0, ya1, ya2, ya3, ya4, ya5, yaf, yal⟩ := ya; have yb := ZB8.out; obtain ⟨yb0, yb1, yb2, yb3, yb4, yb5, ybf, ybl⟩ := yb))
        refine ret_two ZA8.out ZB8.out (by omega) (Nat.le_refl _) (by omega) HB8.out fun wz sa sb hbz => ?_
        obtain ⟨d0, d1, d2, d3, d4, d5⟩ := sa
        obtain ⟨e0, e1, e2, e3, e4, e5⟩ := sb
        exact bodyPost_ret (v := .tuple #[.int .i64 (20 + o2), (VVal.ofInt x5).val, (VVal.ofInt x7).val]) (by simp [results, Tryd.results40, d0, d1, d2, d3, d4, d5, e0, e1, e2, e3, e4, e5, go_sem]; first | done | rfl | exact ⟨rfl, rfl⟩) rfl ⟨20 + o2, VVal.ofInt x5, VVal.ofInt x7, by unfold InI; omega, ⟨inI_small (by show -100 ≤ (1 : Int); decide) (by show (1 : Int) ≤ 100; decide), hx5'.out, in0, by show ByteArray.empty.size ≤ maxLen; decide, in0, in0⟩, ⟨inI_small (by show -100 ≤ (1 : Int); decide) (by show (1 : Int) ≤ 100; decide), hx7'.out, in0, by show ByteArray.empty.size ≤ maxLen; decide, in0, in0⟩, rfl, hbz⟩
    · skip
      go_wp2_with (first
        | ((with_reducible refine (l3Word_any _ A n cap _ HC3.out).mono ?_); rintro e w4 ⟨x4, hx4, rfl, hC4, hO4⟩; have hx4' := hide hx4; clear hx4; have HC4 := hide hC4; have ZA4 := hide (ZA3.out.oth hO4 hne1); have ZB4 := hide (ZB3.out.oth hO4 hne2); have HB4 := hide (Oth.bel HB3.out hO4 (by omega)); clear hC4 hO4)
        | (go_at_call 66; (with_reducible refine (l11Text_ex x4 _).mono ?_); rintro e w5 ⟨rfl, hb5⟩; have HC5 := hide (HC4.out.bel hb5); have ZA5 := hide (ZA4.out.on hb5); have ZB5 := hide (ZB4.out.on hb5); have HB5 := hide (HB4.out.trans hb5); clear hb5; have ya := ZA5.out; obtain ⟨ya0, ya1, ya2, ya3, ya4, ya5, yaf, yal⟩ := ya; have yb := ZB5.out; obtain ⟨yb0, yb1, yb2, yb3, yb4, yb5, ybf, ybl⟩ := yb)
        | ((with_reducible refine (l3Word_any _ A n cap _ HC5.out).mono ?_); rintro e w6 ⟨x6, hx6, rfl, hC6, hO6⟩; have hx6' := hide hx6; clear hx6; have HC6 := hide hC6; have ZA6 := hide (ZA5.out.oth hO6 hne1); have ZB6 := hide (ZB5.out.oth hO6 hne2); have HB6 := hide (Oth.bel HB5.out hO6 (by omega)); clear hC6 hO6)
        | (go_at_call 66; (with_reducible refine (l11Text_ex x6 _).mono ?_); rintro e w7 ⟨rfl, hb7⟩; have HC7 := hide (HC6.out.bel hb7); have ZA7 := hide (ZA6.out.on hb7); have ZB7 := hide (ZB6.out.on hb7); have HB7 := hide (HB6.out.trans hb7); clear hb7; have ya := ZA7.out; obtain ⟨ya0, ya1, ya2, ya3, ya4, ya5, yaf, yal⟩ := ya; have yb := ZB7.out; obtain ⟨yb0, yb1, yb2, yb3, yb4, yb5, ybf, ybl⟩ := yb))
      refine ret_two ZA7.out ZB7.out (by omega) (Nat.le_refl _) (by omega) HB7.out fun wz sa sb hbz => ?_
      obtain ⟨d0, d1, d2, d3, d4, d5⟩ := sa
      obtain ⟨e0, e1, e2, e3, e4, e5⟩ := sb
      exact bodyPost_ret (v := .tuple #[.int .i64 (20 + o2), (VVal.ofText x4).val, (VVal.ofText x6).val]) (by simp [results, Tryd.results40, d0, d1, d2, d3, d4, d5, e0, e1, e2, e3, e4, e5, go_sem]; first | done | rfl | exact ⟨rfl, rfl⟩) rfl ⟨20 + o2, VVal.ofText x4, VVal.ofText x6, by unfold InI; omega, ⟨inI_small (by show -100 ≤ (2 : Int); decide) (by show (2 : Int) ≤ 100; decide), in0, in0, by have := hx4'.out; show (x4).size ≤ maxLen; unfold maxLen; omega, in0, in0⟩, ⟨inI_small (by show -100 ≤ (2 : Int); decide) (by show (2 : Int) ≤ 100; decide), in0, in0, by have := hx6'.out; show (x6).size ≤ maxLen; unfold maxLen; omega, in0, in0⟩, rfl, hbz⟩
  · have dq : decide ((40 : Int) ≤ 20 + o2) = false := by simp; omega
    have HC3 := HC2
    have ZA3 := ZA2
    have ZB3 := ZB2
    have HB3 := HB2
    go_wp2_with (fail)
    refine (l1Once_any 3 _ A n cap _ HC3.out (by unfold InI; omega)).mono ?_
    rintro e w4 ⟨y4, rfl, hC4, hO4⟩
    have HC4 := hide hC4
    have ZA4 := hide (ZA3.out.oth hO4 hne1)
    have ZB4 := hide (ZB3.out.oth hO4 hne2)
    have HB4 := hide (Oth.bel HB3.out hO4 (by omega))
    clear hC4 hO4
    cases y4
    · skip
      go_wp2_with (first
        | ((with_reducible refine (l11Draw_any _ A n cap _ HC4.out).mono ?_); rintro e w5 ⟨x5, hx5, rfl, hC5, hO5⟩; have hx5' := hide hx5; clear hx5; obtain ⟨k5, n5, i5, t5, lo5, hi5⟩ := x5; simp only [VVal.val]; have HC5 := hide hC5; have ZA5 := hide (ZA4.out.oth hO5 hne1); have ZB5 := hide (ZB4.out.oth hO5 hne2); have HB5 := hide (Oth.bel HB4.out hO5 (by omega)); clear hC5 hO5; have ya := ZA5.out; obtain ⟨ya0, ya1, ya2, ya3, ya4, ya5, yaf, yal⟩ := ya; have yb := ZB5.out; obtain ⟨yb0, yb1, yb2, yb3, yb4, yb5, ybf, ybl⟩ := yb)
        | ((with_reducible refine (l11Draw_any _ A n cap _ HC5.out).mono ?_); rintro e w6 ⟨x6, hx6, rfl, hC6, hO6⟩; have hx6' := hide hx6; clear hx6; obtain ⟨k6, n6, i6, t6, lo6, hi6⟩ := x6; simp only [VVal.val]; have HC6 := hide hC6; have ZA6 := hide (ZA5.out.oth hO6 hne1); have ZB6 := hide (ZB5.out.oth hO6 hne2); have HB6 := hide (Oth.bel HB5.out hO6 (by omega)); clear hC6 hO6; have ya := ZA6.out; obtain ⟨ya0, ya1, ya2, ya3, ya4, ya5, yaf, yal⟩ := ya; have yb := ZB6.out; obtain ⟨yb0, yb1, yb2, yb3, yb4, yb5, ybf, ybl⟩ := yb))
      refine ret_two ZA6.out ZB6.out (by omega) (Nat.le_refl _) (by omega) HB6.out fun wz sa sb hbz => ?_
      obtain ⟨d0, d1, d2, d3, d4, d5⟩ := sa
      obtain ⟨e0, e1, e2, e3, e4, e5⟩ := sb
      exact bodyPost_ret (v := .tuple #[.int .i64 (20 + o2), (VVal.mk k5 n5 i5 t5 lo5 hi5).val, (VVal.mk k6 n6 i6 t6 lo6 hi6).val]) (by simp [results, Tryd.results40, d0, d1, d2, d3, d4, d5, e0, e1, e2, e3, e4, e5, go_sem]; first | done | rfl | exact ⟨rfl, rfl⟩) rfl ⟨20 + o2, VVal.mk k5 n5 i5 t5 lo5 hi5, VVal.mk k6 n6 i6 t6 lo6 hi6, by unfold InI; omega, hx5'.out, hx6'.out, rfl, hbz⟩
    · skip
      go_wp2_with (first
        | ((have tok := tok1); go_at_call 69; refine (l1PickInt_any w4.heap.size 8 8 _ A n cap _ (HC4.out.bel (Bel.alloc (Bel.refl w4) _)) (rowI_new (w := w4) [0, 1, -1, 2, 7, 10, 999999, 999999999999] (by decide)) (by have := HC4.out.1; omega) (by omega) (by omega)).mono ?_; clear tok1 tok; rintro e w5 ⟨x5, hx5, rfl, hC5, hO5⟩; have hx5' := hide hx5; clear hx5; have hO5 := Oth.trans (Oth.of_bel (Bel.alloc (Bel.refl w4) _)) hO5; have HC5 := hide hC5; have ZA5 := hide (ZA4.out.oth hO5 hne1); have ZB5 := hide (ZB4.out.oth hO5 hne2); have HB5 := hide (Oth.bel HB4.out hO5 (by omega)); clear hC5 hO5)
        | (go_at_call 68; (with_reducible refine (l11Int_ex x5 _).mono ?_); rintro e w6 ⟨rfl, hb6⟩; have HC6 := hide (HC5.out.bel hb6); have ZA6 := hide (ZA5.out.on hb6); have ZB6 := hide (ZB5.out.on hb6); have HB6 := hide (HB5.out.trans hb6); clear hb6; have ya := ZA6.out; obtain ⟨ya0, ya1, ya2, ya3, ya4, ya5, yaf, yal⟩ := ya; have yb := ZB6.out; obtain ⟨yb0, yb1, yb2, yb3, yb4, yb5, ybf, ybl⟩ := yb)
        | (go_at_call 69; refine (l1PickInt_any w6.heap.size 9 9 _ A n cap _ (HC6.out.bel (Bel.alloc (Bel.refl w6) _)) (rowI_new (w := w6) [0, 1, -1, 2, 3, 12, 999999, 1000001, -999999999999] (by decide)) (by have := HC6.out.1; omega) (by omega) (by omega)).mono ?_; rintro e w7 ⟨x7, hx7, rfl, hC7, hO7⟩; have hx7' := hide hx7; clear hx7; have hO7 := Oth.trans (Oth.of_bel (Bel.alloc (Bel.refl w6) _)) hO7; have HC7 := hide hC7; have ZA7 := hide (ZA6.out.oth hO7 hne1); have ZB7 := hide (ZB6.out.oth hO7 hne2); have HB7 := hide (Oth.bel HB6.out hO7 (by omega)); clear hC7 hO7)
        | (go_at_call 68; (with_reducible refine (l11Int_ex x7 _).mono ?_); rintro e w8 ⟨rfl, hb8⟩; have HC8 := hide (HC7.out.bel hb8); have ZA8 := hide (ZA7.out.on hb8); have ZB8 := hide (ZB7.out.on hb8); have HB8 := hide (HB7.out.trans hb8); clear hb8; have ya := ZA8.out; obtain ⟨ya0, ya1, ya2, ya3, ya4, ya5, yaf, yal⟩ := ya; have yb := ZB8.out; obtain ⟨yb0, yb1, yb2, yb3, yb4, yb5, ybf, ybl⟩ := yb))
      refine ret_two ZA8.out ZB8.out (by omega) (Nat.le_refl _) (by omega) HB8.out fun wz sa sb hbz => ?_
      obtain ⟨d0, d1, d2, d3, d4, d5⟩ := sa
      obtain ⟨e0, e1, e2, e3, e4, e5⟩ := sb
      exact bodyPost_ret (v := .tuple #[.int .i64 (20 + o2), (VVal.ofInt x5).val, (VVal.ofInt x7).val]) (by simp [results, Tryd.results40, d0, d1, d2, d3, d4, d5, e0, e1, e2, e3, e4, e5, go_sem]; first | done | rfl | exact ⟨rfl, rfl⟩) rfl ⟨20 + o2, VVal.ofInt x5, VVal.ofInt x7, by unfold InI; omega, ⟨inI_small (by show -100 ≤ (1 : Int); decide) (by show (1 : Int) ≤ 100; decide), hx5'.out, in0, by show ByteArray.empty.size ≤ maxLen; decide, in0, in0⟩, ⟨inI_small (by show -100 ≤ (1 : Int); decide) (by show (1 : Int) ≤ 100; decide), hx7'.out, in0, by show ByteArray.empty.size ≤ maxLen; decide, in0, in0⟩, rfl, hbz⟩

end Go.Proofs.YtficlopcolglnaaDoor
