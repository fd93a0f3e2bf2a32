/- What follows each of some endings: the program. -/
import Derived.Test.YtdjbfneniohaaaaPJa
namespace Go.Proofs.Ytdjbfneniohaaaa
set_option linter.unusedVariables false
set_option linter.unusedSimpArgs false
set_option maxRecDepth 100000
open Go.RowKit
def EndsPostI (w : World) (M : Nat) (A : Option Addr) (n c : Nat) (s : ByteArray) (f : Int) (r : ResE) (e : Ending) (w' : World) : Prop :=
 ∃ v L es st f', e = .returned (.tuple #[v, .bool st]) ∧ StI w' M A n c s f' ∧ OffS (fun b => b ≠ M) w w' ∧ OwnD w' 36 2 v L (es.map TEnding.D) ∧ (∀ b, Blk v L b → w.heap.size ≤ b) ∧ (∀ x ∈ es, (x.cs.length : Int) ≤ 6000 + max f 0) ∧ OutE f r es st f'
abbrev ImpC (w0 : World) (ds : List TPattern) (s : ByteArray) (M : Nat) (A : Option Addr) (c : Nat) (d : Nat) (q : TPattern) : Prop := ∀ (w : World) (vs : List Value) (S : Nat → Prop) (f a : Int), Dat.HoldVals w0 S q.D vs → Bel w0 w → w0.heap.size ≤ M → StI w M A ds.length c s f → f ≤ d → -1000000000 ≤ f → (0 < f → 0 ≤ a ∧ a ≤ s.size) → InI a →
 Calls Try.prog 29 #[.pointer (some ⟨M, 0, none⟩), .agg vs.toArray, .int .i64 a] w (EndsPostI w M A ds.length c s f (resE ds s d f q a))
def OutA (f : Nat) (r : ResE) (es : List TEnding) (st : Bool) (f' : Int) : Prop :=
 (∃ l t g, r = some (l, t, g) ∧ es = l ∧ st = t ∧ f' = (g : Nat)) ∨ (r = none ∧ f' < 0 ∧ es = [] ∧ -5000 * ((f : Int) + 1) - 1 ≤ f')
def AfterPost (w : World) (M : Nat) (A : Option Addr) (n c : Nat) (s : ByteArray) (v0 : Value) (L0 : List Nat) (f : Nat) (r : ResE) (e : Ending) (w' : World) : Prop :=
 ∃ v L es st f', e = .returned (.tuple #[v, .bool st]) ∧ StI w' M A n c s f' ∧ OffS (fun b => b ≠ M ∧ v0.ownBlock ≠ some b) w w' ∧ OwnD w' 36 2 v L (es.map TEnding.D) ∧ (∀ b, Blk v L b → Blk v0 L0 b ∨ w.heap.size ≤ b) ∧ (∀ x ∈ es, x.cs.length ≤ 6000) ∧ OutA f r es st f'
section
variable {ev : Nat → Nat → ResE} {above : Int} {fs os : List TEnding} {i g : Nat} {R : ResE} {es : List TEnding} {st : Bool} {f2 : Int}
theorem after_dead (hR : R = thenE ev above (fs.drop i) g os) (h1 : i < fs.length) (h2 : ¬ fs[i].pos ≤ above) (ho : OutE g (ev g fs[i].pos.toNat) es st f2) (h : f2 < 0) : R = none := by
 rcases ho with ⟨l, t, g1, r1, r2, r3, r4⟩ | ⟨r1, r2, r3, r4, r5⟩
 ·
  omega
 ·
  rw [hR, thenE_none h1 h2 r1]
theorem after_fuel (hR : R = thenE ev above (fs.drop i) g os) (h1 : i < fs.length) (h2 : ¬ fs[i].pos ≤ above) (ho : OutE g (ev g fs[i].pos.toNat) es st f2) {j : Nat} (hj : j < es.length) (h : f2 - j ≤ 0) : R = none := by
 rcases ho with ⟨l, t, g1, r1, r2, r3, r4⟩ | ⟨r1, r2, r3, r4, r5⟩
 ·
  subst r2
  rw [hR, thenE_some h1 h2 r1, if_neg (by omega)]
 ·
  rw [hR, thenE_none h1 h2 r1]
theorem after_done (hR : R = thenE ev above (fs.drop i) g os) (h1 : i < fs.length) (h2 : ¬ fs[i].pos ≤ above) (ho : OutE g (ev g fs[i].pos.toNat) es st f2) (h : 0 ≤ f2 - es.length) :
  R = if st then some (os ++ es.map (joinE fs[i]), true, (f2 - es.length).toNat) else thenE ev above (fs.drop (i + 1)) (f2 - es.length).toNat (os ++ es.map (joinE fs[i])) := by
 rcases ho with ⟨l, t, g1, r1, r2, r3, r4⟩ | ⟨r1, r2, r3, r4, r5⟩
 ·
  subst r2 r3 r4
  rw [hR, thenE_some h1 h2 r1, if_pos (by omega), show ((g1 : Int) - es.length).toNat = g1 - es.length by omega]
 ·
  omega
end
set_option maxHeartbeats 8000000 in
theorem after_any (w0 : World) (ds : List TPattern) (s : ByteArray) (M : Nat) (A : Option Addr) (c d : Nat) (q : TPattern) (IH : ImpC w0 ds s M A c d q) (hs : s.size ≤ 120) (hd : d ≤ 2999) (hqv : ∀ f' a', f' ≤ d → 0 ≤ a' ∧ a' ≤ (s.size : Int) → ∀ l t g2, endsE ds s d f' q a'.toNat = some (l, t, g2) → g2 < f' ∧ l.length + g2 ≤ f' ∧ ∀ y ∈ l, y.cs.length ≤ 3000)
  (w : World) (vs : List Value) (Sq S1 : Nat → Prop) (f : Nat) (above : Int) (fs os : List TEnding) (A1 : Option Addr) (c1 : Nat) (st0 : Bool) (v0 : Value) (L0 : List Nat) (N0 : Nat)
  (hv : Dat.HoldVals w0 Sq q.D vs) (hb0 : Bel w0 w) (hM : w0.heap.size ≤ M) (hst : StI w M A ds.length c s (f : Int)) (hf : f ≤ d) (hfs : fs.length ≤ 4000) (hos : os.length ≤ 4000)
  (hR1 : Row w S1 2 A1 c1 (fs.map TEnding.D)) (hS1 : ∀ b, S1 b → b ≠ M ∧ b < w.heap.size) (hgood : ∀ x ∈ fs, 0 ≤ x.pos ∧ x.pos ≤ s.size ∧ x.cs.length ≤ 3000) (hO : OwnD w 36 2 v0 L0 (os.map TEnding.D)) (hOM : ∀ b, Blk v0 L0 b → b ≠ M ∧ ¬ S1 b) (hOb : ∀ b, Blk v0 L0 b → w0.heap.size ≤ b) (hN0 : os.length + f ≤ N0) (hN1 : N0 ≤ 4000) (hoc : ∀ x ∈ os, x.cs.length ≤ 6000) :
  Calls Try.prog 52 #[.pointer (some ⟨M, 0, none⟩), v0, .slice A1 fs.length c1, .bool st0, .agg vs.toArray, .int .i64 above] w
   (AfterPost w M A ds.length c s v0 L0 f (orE st0 (thenE (fun f' a' => endsE ds s d f' q a') above fs f os))) := by
 obtain ⟨op, t, n, lo, hi, ks⟩ := q
 obtain ⟨Aq, cq, rfl, -⟩ := TPattern.vals hv
 have HV := hide hv
 have HR1 := hide hR1
 have HS1 := hide hS1
 have HG := hide hgood
 have HOM := hide hOM
 have HOB := hide hOb
 have HB0 := hide hb0
 have HOC := hide hoc
 have HIH := hide IH
 have HQV := hide hqv
 clear hoc IH hqv
 obtain ⟨R, hRR⟩ : ∃ R, thenE (fun f' a' => endsE ds s d f' (TPattern.mk op t n lo hi ks) a') above fs f os = R := ⟨_, rfl⟩
 rw [hRR]
 have HR0 := hide (show R = thenE (fun f' a' => endsE ds s d f' (TPattern.mk op t n lo hi ks) a') above (fs.drop 0) f os by rw [List.drop_zero]; exact hRR.symm)
 clear hRR
 have HO := hide hO
 have HOL0 := hide (fun b (h : Blk v0 L0 b) => OwnD.lt HO.out b h)
 have HST := hide hst
 have hMl := hst.1
 have hl1 := hR1.1
 have hc1 := hR1.2.1
 simp only [List.length_map] at hl1
 unfold maxLen at hc1
 obtain ⟨ie, hie, ze0, ze1, ze2⟩ := info_parts infoEnd
 obtain ⟨ic, hic, zc0, zc1, zc2⟩ := info_parts infoCap
 clear hv hR1 hS1 hgood hO hOM hOb hb0 hst
 go_enter Try.func52, Try.ntmps52
 go_wp2_with (fail)
 go_loopw [1, 22] (fun ov iv wr => ∃ (i : Nat) (L : List Nat) (os' : List TEnding) (g : Nat), iv = .int .i64 i ∧ i ≤ fs.length ∧ g ≤ f ∧ os'.length + g ≤ N0 ∧ Hid (OwnD wr 36 2 ov L (os'.map TEnding.D)) ∧ Hid (∀ x ∈ os', x.cs.length ≤ 6000) ∧ Hid (∀ b, Blk ov L b → Blk v0 L0 b ∨ (w.alloc (.cells #[.int .i64 op, .string t, .int .i64 n, .int .i64 lo, .int .i64 hi, .slice Aq ks.length cq] 28)).heap.size ≤ b) ∧ Hid (∀ b, ov.ownBlock = some b → v0.ownBlock = some b ∨ (w.alloc (.cells #[.int .i64 op, .string t, .int .i64 n, .int .i64 lo, .int .i64 hi, .slice Aq ks.length cq] 28)).heap.size ≤ b) ∧ Hid (StI wr M A ds.length c s (g : Int)) ∧ Hid (OffS (fun b => b ≠ M ∧ v0.ownBlock ≠ some b) (w.alloc (.cells #[.int .i64 op, .string t, .int .i64 n, .int .i64 lo, .int .i64 hi, .slice Aq ks.length cq] 28)) wr) ∧ Hid (R = thenE (fun f' a' => endsE ds s d f' (TPattern.mk op t n lo hi ks) a') above (fs.drop i) g os')) (fun _ iv _ => fs.length - (intOf iv).toNat)
 case atStart => exact ⟨0, L0, os, f, rfl, by omega, by omega, hN0, hide (OwnD.bel HO.out bl), hide HOC.out, hide (fun b h => Or.inl h), hide (fun b h => Or.inl h), hide (StI.bel HST.out bl), hide (OffS.refl _ _), hide HR0.out⟩
 case round => as_aux_lemma =>
  obtain ⟨i, Lo1, os1, g, rfl, hil, hgf, hN2, HO1, HC1, HBk, HBo, HS, HF, HL⟩ := hrel
  clear HO HST HR0
  obtain ⟨Ao, co, hov, hOD, hRo⟩ := HO1.out.two
  subst hov
  clear HO1
  have HO1 := hide hOD
  clear hOD hRo
  have hzr := HF.out.size
  simp only [World.size_alloc] at hzr
  obtain ⟨gM, gf, g0, g1, g2, g3⟩ := HS.out
  have hMne : ¬ w.heap.size = M := by omega
  have hv0n : v0.ownBlock ≠ some w.heap.size := fun h => by have := (show w.heap.size < w.heap.size from HOL0.out _ (Or.inl h)); omega
  have hbx := HF.out.same w.heap.size ⟨hMne, hv0n⟩ (by simp)
  have q0 : wr.cell? ⟨w.heap.size, 0, none⟩ = some (.int .i64 op) := (hbx.1 0).trans (by simp)
  have q1 : wr.cell? ⟨w.heap.size, 1, none⟩ = some (.string t) := (hbx.1 1).trans (by simp)
  have q2 : wr.cell? ⟨w.heap.size, 2, none⟩ = some (.int .i64 n) := (hbx.1 2).trans (by simp)
  have q3 : wr.cell? ⟨w.heap.size, 3, none⟩ = some (.int .i64 lo) := (hbx.1 3).trans (by simp)
  have q4 : wr.cell? ⟨w.heap.size, 4, none⟩ = some (.int .i64 hi) := (hbx.1 4).trans (by simp)
  have q5 : wr.cell? ⟨w.heap.size, 5, none⟩ = some (.slice Aq ks.length cq) := (hbx.1 5).trans (by simp)
  clear hbx
  have hl0 : w.heap.size < wr.heap.size := by omega
  have hn0 : ¬ w.heap.size = wr.heap.size := by omega
  have hMl2 : M < wr.heap.size := gM
  have hMn2 : ¬ M = wr.heap.size := by omega
  have hlen1 : (os1.map TEnding.D).length = os1.length := by simp
  rw [hlen1] at HO1 HBk HBo
  rw [hlen1]
  have HRr := hide (Row.offS HF.out (S := S1) (fun b hb => ⟨(HS1.out b hb).1, fun h => (HOM.out b (Or.inl h)).2 hb⟩) (Row.bel (show Bel w (w.alloc (.cells #[.int .i64 op, .string t, .int .i64 n, .int .i64 lo, .int .i64 hi, .slice Aq ks.length cq] 28)) from bl) HR1.out))
  by_cases h1 : i < fs.length
  case neg => as_aux_lemma =>
   have hd : decide ((i : Int) < (fs.length : Int)) = false := by simp; omega
   have hdn : decide (i < fs.length) = false := by simp; omega
   go_wp2_with (fail)
   all_goals
    go_returns
    exact ⟨_, Lo1, os1, st0, g, rfl, StI.bel HS.out bl, OffS.via (OffS.of_bel _ (show Bel w (w.alloc (.cells #[.int .i64 op, .string t, .int .i64 n, .int .i64 lo, .int .i64 hi, .slice Aq ks.length cq] 28)) from bl)) (OffS.bel HF.out bl) (fun b hb _ => hb), OwnD.bel HO1.out bl, fun b hb => (HBk.out b hb).imp id (fun h => by simp only [World.size_alloc] at h; omega), HC1.out, Or.inl ⟨os1, st0, g, by rw [HL.out, thenE_end (by omega)]; simp [orE], rfl, rfl, rfl⟩⟩
  case pos =>
  have hd : decide ((i : Int) < (fs.length : Int)) = true := by simp; omega
  have hdn : decide (i < fs.length) = true := by simp; omega
  have hi0 : 0 ≤ (i : Int) := by omega
  have hi1 : (i : Int) < (fs.length : Int) := by omega
  obtain ⟨b1, o1, x1_0, x1_1, A1_1, C1_1, hA1, hSb1, hlb1, hx1, hv1, g1_0, g1_1, c1_0, c1_1⟩ := TEnding.at HRr.out i h1
  subst hA1
  have HX1 := hide hx1
  have GR1_1 := hide g1_1
  have hSM1 : b1 ≠ M := (HS1.out b1 hSb1).1
  have HP := hide (show fs[i].pos = x1_0 by rw [hx1]; rfl)
  have HCS := hide (show fs[i].cs = x1_1 by rw [hx1]; rfl)
  clear hx1 hv1 g1_1
  go_upto_region 4 with (fail)
  refine wp_namedJ fun wA hwA => ?_
  have a_0 : wA.cell? ⟨w.heap.size, 0, none⟩ = some (.int .i64 op) := by rw [← hwA]; clear hwA; simp [go_sem, *]
  have a_1 : wA.cell? ⟨w.heap.size, 1, none⟩ = some (.string t) := by rw [← hwA]; clear hwA; simp [go_sem, *]
  have a_2 : wA.cell? ⟨w.heap.size, 2, none⟩ = some (.int .i64 n) := by rw [← hwA]; clear hwA; simp [go_sem, *]
  have a_3 : wA.cell? ⟨w.heap.size, 3, none⟩ = some (.int .i64 lo) := by rw [← hwA]; clear hwA; simp [go_sem, *]
  have a_4 : wA.cell? ⟨w.heap.size, 4, none⟩ = some (.int .i64 hi) := by rw [← hwA]; clear hwA; simp [go_sem, *]
  have a_5 : wA.cell? ⟨w.heap.size, 5, none⟩ = some (.slice Aq ks.length cq) := by rw [← hwA]; clear hwA; simp [go_sem, *]
  have f_0 : wA.cell? ⟨wr.heap.size, 0, none⟩ = some (.int .i64 x1_0) := by rw [← hwA]; clear hwA; simp [go_sem]
  have f_1 : wA.cell? ⟨wr.heap.size, 1, none⟩ = some (.slice A1_1 x1_1.length C1_1) := by rw [← hwA]; clear hwA; simp [go_sem]
  have hbA : Bel wr wA := by rw [← hwA]; exact bl
  have hzA : wA.heap.size = wr.heap.size + 1 := by rw [← hwA]; simp
  have hlA : w.heap.size < wA.heap.size := by omega
  have hlA1 : wr.heap.size < wA.heap.size := by omega
  have hMA : M < wA.heap.size := by omega
  have hnA : ¬ w.heap.size = wA.heap.size := by omega
  have hnA1 : ¬ wr.heap.size = wA.heap.size := by omega
  have hnMA : ¬ M = wA.heap.size := by omega
  clear hzA hwA
  by_cases h2 : x1_0 ≤ above
  case pos => as_aux_lemma =>
   have hd2 : decide (x1_0 ≤ above) = true := by simpa using h2
   have HNX := hide (show R = thenE (fun f' a' => endsE ds s d f' (TPattern.mk op t n lo hi ks) a') above (fs.drop (i + 1)) g os1 by rw [HL.out, thenE_skip h1 (by rw [HP.out]; exact h2)])
   go_wp2_with (fail)
   all_goals go_roundw
   case rel => exact ⟨i + 1, Lo1, os1, g, by go_num, by omega, by omega, by omega, hide (OwnD.bel HO1.out bl), hide HC1.out, hide HBk.out, hide HBo.out, hide (StI.bel HS.out bl), hide (OffS.bel HF.out bl), hide HNX.out⟩
   case measure => simp [intOf]; omega
  case neg =>
  have H2 := hide h2
  have hd2 : decide (x1_0 ≤ above) = false := by simpa using h2
  have HBW := hide (show Bel w0 wr from HF.out.toBel (Bel.trans HB0.out bl) (fun x hx => ⟨by omega, fun h => by have := HOB.out x (Or.inl h); omega⟩))
  have hgd := HG.out fs[i] (List.getElem_mem h1)
  rw [HP.out, HCS.out] at hgd
  obtain ⟨hp0, hp1, hcl1⟩ := hgd
  go_upto_region 6 with (go_at_call 29; refine (HIH.out _ _ Sq (g : Int) x1_0 HV.out (Bel.trans HBW.out hbA) hM (StI.bel HS.out hbA) (by omega) (by omega) (fun _ => ⟨hp0, hp1⟩) g1_0).mono ?_; rintro e w1 ⟨v2, L2, es2, st2, f2, rfl, hst2, hoff2, hO2, hB2, hC2, hout2⟩)
  have HOUT := hide (show OutE (g : Int) ((fun f' a' => endsE ds s d f' (TPattern.mk op t n lo hi ks) a') g fs[i].pos.toNat) es2 st2 f2 by have h := hout2; unfold resE at h; rw [if_pos (by omega), Int.toNat_natCast] at h; rw [HP.out]; exact h)
  have hz1 := hoff2.size
  have hxw := hoff2.same w.heap.size hMne hlA
  have hxf := hoff2.same wr.heap.size (by omega) hlA1
  have p_0 := (hxw.1 _).trans a_0
  have p_1 := (hxw.1 _).trans a_1
  have p_2 := (hxw.1 _).trans a_2
  have p_3 := (hxw.1 _).trans a_3
  have p_4 := (hxw.1 _).trans a_4
  have p_5 := (hxw.1 _).trans a_5
  have F_1 := (hxf.1 _).trans f_1
  have HS2 := hide hst2
  have HF2 := hide (OffS.via (OffS.of_bel (fun b => b ≠ M) hbA) hoff2 (fun b h _ => h))
  have HOL := hide (OwnD.offS (OwnD.bel HO1.out hbA) hoff2 (fun b hb => by
   rcases HBk.out b hb with h | h
   ·
    exact (HOM.out b h).1
   ·
    simp only [World.size_alloc] at h; omega))
  obtain ⟨A2, c2, hv2, hOD2, hR2⟩ := hO2.two
  subst hv2
  have hlen2 : (es2.map TEnding.D).length = es2.length := by simp
  rw [hlen2] at hR2 hB2
  rw [hlen2]
  have HR2 := hide hR2
  have HB2 := hide hB2
  have hl2 := hR2.1
  have hc2 := hR2.2.1
  simp only [List.length_map] at hl2
  unfold maxLen at hc2
  have hlw1 : w.heap.size < w1.heap.size := by omega
  have hlf1 : wr.heap.size < w1.heap.size := by omega
  have hMw1 : M < w1.heap.size := by omega
  have HQL := hide (show ∀ l t' g2, endsE ds s d g (TPattern.mk op t n lo hi ks) fs[i].pos.toNat = some (l, t', g2) → g2 < g ∧ l.length + g2 ≤ g ∧ ∀ y ∈ l, y.cs.length ≤ 3000 from fun l t' g2 h => HQV.out g fs[i].pos (by omega) (by rw [HP.out]; exact ⟨hp0, hp1⟩) l t' g2 h)
  have hfx : f2 ≤ 3000 ∧ -5000 * ((g : Int) + 1) ≤ f2 ∧ es2.length ≤ 4000 ∧ (0 ≤ f2 → es2.length + f2 ≤ g ∧ ∀ y ∈ es2, y.cs.length ≤ 3000) := by
   rcases HOUT.out with ⟨l, t', g2, r1, r2, r3, r4⟩ | ⟨r1, r2, r3, r4, r5⟩
   ·
    have hq := HQL.out l t' g2 r1
    subst r2
    exact ⟨by omega, by omega, by omega, fun _ => ⟨by omega, hq.2.2⟩⟩
   ·
    rw [if_pos (by omega)] at r4
    exact ⟨by omega, r4, by omega, fun h => by omega⟩
  obtain ⟨hfb1, hfb2, hle2, hfb3⟩ := hfx
  have HFB3 := hide hfb3
  have hos1 : os1.length ≤ 4000 := by omega
  clear hO2 hOD2 hR2 hB2 hoff2 hst2 hout2 hxw hxf hfb3 a_0 a_1 a_2 a_3 a_4 a_5 f_0 f_1 q0 q1 q2 q3 q4 q5 c1_0 c1_1
  go_wp2_with (fail)
  obtain ⟨wz, rfl⟩ : ∃ x : World, x = wr := ⟨_, rfl⟩
  go_loopw [1, 40] (fun ov kv wr => ∃ (j : Nat) (L' : List Nat), kv = .int .i64 j ∧ j ≤ es2.length ∧ (j = 0 ∨ 0 ≤ f2 - (j : Int)) ∧ Hid (OwnD wr 36 2 ov L' ((os1 ++ (es2.take j).map (joinE fs[i])).map TEnding.D)) ∧ Hid (∀ x ∈ os1 ++ (es2.take j).map (joinE fs[i]), x.cs.length ≤ 6000) ∧ Hid (∀ b, Blk ov L' b → Blk (Value.slice Ao os1.length co) Lo1 b ∨ w1.heap.size ≤ b) ∧ Hid (∀ b, ov.ownBlock = some b → (Value.slice Ao os1.length co).ownBlock = some b ∨ w1.heap.size ≤ b) ∧ Hid (StI wr M A ds.length c s (f2 - j)) ∧ Hid (OffS (fun b => b ≠ M ∧ (Value.slice Ao os1.length co).ownBlock ≠ some b) w1 wr)) (fun _ kv _ => es2.length - (intOf kv).toNat)
  case atStart => exact ⟨0, Lo1, rfl, by omega, Or.inl rfl, hide (by rw [List.take_zero, List.map_nil, List.append_nil]; exact OwnD.bel HOL.out bl), hide (by rw [List.take_zero, List.map_nil, List.append_nil]; exact HC1.out), hide (fun b h => Or.inl h), hide (fun b h => Or.inl h), hide (by have h := StI.bel HS2.out (show Bel w1 _ from bl); simpa using h), hide (OffS.of_bel _ bl)⟩
  case round => as_aux_lemma =>
   obtain ⟨j, L3, rfl, hj, hjf, HO3, HC3, HBk3, HBo3, HS3, HF3⟩ := hrel
   obtain ⟨A3, c3, hov3, hOD3, -⟩ := HO3.out.two
   subst hov3
   have hlen3 : ((os1 ++ (es2.take j).map (joinE fs[i])).map TEnding.D).length = os1.length + j := by simp; omega
   rw [hlen3] at hOD3 HBk3 HBo3
   rw [hlen3]
   clear HO3
   have HO3 := hide hOD3
   clear hOD3
   have hz3 := HF3.out.size
   obtain ⟨jM, jf, j0, j1, j2, j3⟩ := HS3.out
   have hzr1 := HF2.out.size
   have hVO : ∀ b, (Value.slice Ao os1.length co).ownBlock = some b → b ≠ M ∧ ¬ S1 b ∧ b ≠ w.heap.size ∧ b < wz.heap.size := fun b hb => by
    have hlt := OwnD.lt HO1.out b (Or.inl hb)
    rcases HBo.out b hb with h | h
    ·
     have h2 := HOM.out b (Or.inl h)
     have h3 := HOL0.out b (Or.inl h)
     exact ⟨h2.1, h2.2, by omega, hlt⟩
    ·
     simp only [World.size_alloc] at h
     exact ⟨by omega, fun q => by have := (HS1.out b q).2; omega, by omega, hlt⟩
   have HVO := hide hVO
   clear hVO
   have hxw := HF3.out.same w.heap.size ⟨hMne, fun h => (HVO.out _ h).2.2.1 rfl⟩ hlw1
   have hxf := HF3.out.same wz.heap.size ⟨by omega, fun h => by have := (HVO.out _ h).2.2.2; omega⟩ hlf1
   replace p_0 := (hxw.1 _).trans p_0
   replace p_1 := (hxw.1 _).trans p_1
   replace p_2 := (hxw.1 _).trans p_2
   replace p_3 := (hxw.1 _).trans p_3
   replace p_4 := (hxw.1 _).trans p_4
   replace p_5 := (hxw.1 _).trans p_5
   replace F_1 := (hxf.1 _).trans F_1
   have HG3 := hide (Row.offS HF3.out (S := S1) (fun b hb => ⟨(HS1.out b hb).1, fun h => (HVO.out _ h).2.1 hb⟩) (Row.offS HF2.out (S := S1) (fun b hb => (HS1.out b hb).1) GR1_1.out))
   have HR3 := hide (Row.offS HF3.out (S := fun b => Blk (.slice A2 es2.length c2) L2 b) (fun b hb => by have := HB2.out b hb; exact ⟨by omega, fun h => by have := (HVO.out _ h).2.2.2; omega⟩) HR2.out)
   have hlx : w.heap.size < wr.heap.size := by omega
   have hnx : ¬ w.heap.size = wr.heap.size := by omega
   have hMx : ¬ M = wr.heap.size := by omega
   have hlfx : wz.heap.size < wr.heap.size := by omega
   have hnfx : ¬ wz.heap.size = wr.heap.size := by omega
   clear hxw hxf
   have HFr := hide (OffS.via (OffS.via HF.out HF2.out (fun b hb _ => hb.1)) HF3.out (fun b hb hl => ⟨hb.1, fun h => by rcases HBo.out b h with q | q; exact hb.2 q; omega⟩))
   have HFw := hide (OffS.via (OffS.of_bel (fun b => b ≠ M ∧ v0.ownBlock ≠ some b) (show Bel w (w.alloc (.cells #[.int .i64 op, .string t, .int .i64 n, .int .i64 lo, .int .i64 hi, .slice Aq ks.length cq] 28)) from bl)) HFr.out (fun b hb _ => hb))
   by_cases h3 : j < es2.length
   case neg => as_aux_lemma =>
    obtain rfl : j = es2.length := by omega
    rw [List.take_length] at HO3 HC3
    have hd3 : decide ((es2.length : Int) < (es2.length : Int)) = false := by simp
    have hd3n : decide (es2.length < es2.length) = false := by simp
    by_cases h4 : f2 - (es2.length : Int) < 0
    case pos =>
     have hd4 : decide (f2 - (es2.length : Int) < 0) = true := by simpa using h4
     rw [hd4] at j3
     have HRN := hide (after_dead HL.out h1 (by rw [HP.out]; have := H2.out; omega) HOUT.out (by omega))
     go_wp2_with (fail)
     all_goals
      go_returns
      exact ⟨_, [], [], false, f2 - (es2.length : Int), rfl, StI.bel HS3.out bl, OffS.bel HFw.out bl, OwnD.nil _ _ _, fun b hb => hb.elim (fun h => by cases h) (fun h => by cases h), (fun x hx => by cases hx), Or.inr ⟨by rw [HRN.out]; rfl, h4, rfl, by omega⟩⟩
    case neg =>
    have hd4 : decide (f2 - (es2.length : Int) < 0) = false := by simpa using h4
    rw [hd4] at j3
    have HRD := hide (after_done HL.out h1 (by rw [HP.out]; have := H2.out; omega) HOUT.out (by omega))
    have hq3 := (HFB3.out (by omega)).1
    have HBk4 := hide (show ∀ b, Blk (.slice A3 (os1.length + es2.length) c3) L3 b → Blk v0 L0 b ∨ (w.alloc (.cells #[.int .i64 op, .string t, .int .i64 n, .int .i64 lo, .int .i64 hi, .slice Aq ks.length cq] 28)).heap.size ≤ b from fun b h => by rcases HBk3.out b h with q | q; exact HBk.out b q; right; simp only [World.size_alloc]; omega)
    have HBo4 := hide (show ∀ b, (Value.slice A3 (os1.length + es2.length) c3).ownBlock = some b → v0.ownBlock = some b ∨ (w.alloc (.cells #[.int .i64 op, .string t, .int .i64 n, .int .i64 lo, .int .i64 hi, .slice Aq ks.length cq] 28)).heap.size ≤ b from fun b h => by rcases HBo3.out b h with q | q; exact HBo.out b q; right; simp only [World.size_alloc]; omega)
    cases st2
    case true =>
     go_wp2_with (fail)
     all_goals
      go_returns
      exact ⟨_, L3, os1 ++ es2.map (joinE fs[i]), true, f2 - (es2.length : Int), rfl, StI.bel HS3.out bl, OffS.bel HFw.out bl, OwnD.bel HO3.out bl, fun b hb => (HBk4.out b hb).imp id (fun h => by simp only [World.size_alloc] at h; omega), HC3.out, Or.inl ⟨_, _, (f2 - (es2.length : Int)).toNat, by rw [HRD.out]; simp [orE], rfl, rfl, by omega⟩⟩
    case false =>
     obtain ⟨os4, hos4⟩ : ∃ l, os1 ++ es2.map (joinE fs[i]) = l := ⟨_, rfl⟩
     have hl4 : os4.length = os1.length + es2.length := by rw [← hos4]; simp
     have HR4 := hide (show R = thenE (fun f' a' => endsE ds s d f' (TPattern.mk op t n lo hi ks) a') above (fs.drop (i + 1)) (f2 - (es2.length : Int)).toNat os4 by rw [HRD.out, hos4]; rfl)
     rw [hos4] at HO3 HC3
     clear hos4 HRD hlen3
     have hfn : (((f2 - (es2.length : Int)).toNat : Nat) : Int) = f2 - (es2.length : Int) := by omega
     go_wp2_with (fail)
     all_goals go_roundw
     case rel => exact ⟨i + 1, L3, os4, (f2 - (es2.length : Int)).toNat, by go_num, by omega, by omega, by omega, hide (OwnD.bel HO3.out bl), hide HC3.out, hide HBk4.out, hide HBo4.out, hide (by rw [hfn]; exact StI.bel HS3.out bl), hide (OffS.bel HFr.out bl), hide HR4.out⟩
     case measure => simp [intOf]; omega
   case pos =>
   have hd3 : decide ((j : Int) < (es2.length : Int)) = true := by simp; omega
   have hd3n : decide (j < es2.length) = true := by simp; omega
   have hj0 : 0 ≤ (j : Int) := by omega
   have hj1 : (j : Int) < (es2.length : Int) := by omega
   obtain ⟨b2, o2, x2_0, x2_1, A2_1, C2_1, hA2, hSb2, hlb2, hx2, hv2, g2_0, g2_1, c2_0, c2_1⟩ := TEnding.at HR3.out j h3
   subst hA2
   have HX2 := hide hx2
   have GR2_1 := hide g2_1
   clear hx2 hv2 g2_1
   go_upto_region 9 with (fail)
   refine wp_namedJ fun wB hwB => ?_
   replace p_0 : wB.cell? ⟨w.heap.size, 0, none⟩ = some (.int .i64 op) := by rw [← hwB]; clear hwB; simp [go_sem, *]
   replace p_1 : wB.cell? ⟨w.heap.size, 1, none⟩ = some (.string t) := by rw [← hwB]; clear hwB; simp [go_sem, *]
   replace p_2 : wB.cell? ⟨w.heap.size, 2, none⟩ = some (.int .i64 n) := by rw [← hwB]; clear hwB; simp [go_sem, *]
   replace p_3 : wB.cell? ⟨w.heap.size, 3, none⟩ = some (.int .i64 lo) := by rw [← hwB]; clear hwB; simp [go_sem, *]
   replace p_4 : wB.cell? ⟨w.heap.size, 4, none⟩ = some (.int .i64 hi) := by rw [← hwB]; clear hwB; simp [go_sem, *]
   replace p_5 : wB.cell? ⟨w.heap.size, 5, none⟩ = some (.slice Aq ks.length cq) := by rw [← hwB]; clear hwB; simp [go_sem, *]
   replace F_1 : wB.cell? ⟨wz.heap.size, 1, none⟩ = some (.slice A1_1 x1_1.length C1_1) := by rw [← hwB]; clear hwB; simp [go_sem, *]
   have y_0 : wB.cell? ⟨wr.heap.size, 0, none⟩ = some (.int .i64 x2_0) := by rw [← hwB]; clear hwB; simp [go_sem]
   have y_1 : wB.cell? ⟨wr.heap.size, 1, none⟩ = some (.slice A2_1 x2_1.length C2_1) := by rw [← hwB]; clear hwB; simp [go_sem]
   have hbB : Bel wr wB := by rw [← hwB]; exact bl
   have hzB : wB.heap.size = wr.heap.size + 1 := by rw [← hwB]; simp
   have hlB : w.heap.size < wB.heap.size := by omega
   have hlB1 : wr.heap.size < wB.heap.size := by omega
   have hlBf : wz.heap.size < wB.heap.size := by omega
   have hMB : M < wB.heap.size := by omega
   have hw1B : w1.heap.size ≤ wB.heap.size := by omega
   clear hzB hwB
   by_cases h5 : 0 < f2 - (j : Int)
   case neg => as_aux_lemma =>
    have hd5 : decide (0 < f2 - (j : Int)) = false := by simpa using h5
    have HRN := hide (after_fuel HL.out h1 (by rw [HP.out]; have := H2.out; omega) HOUT.out h3 (by omega))
    go_wp2_with (go_at_call 50; refine (step_any _ M A ds.length c s (f2 - (j : Int)) (StI.bel HS3.out hbB) (by omega) (by omega)).mono ?_; rintro e w2 ⟨rfl, hst5, hoff5⟩; rw [hd5])
    all_goals
     go_returns
     exact ⟨_, [], [], false, f2 - (j : Int) - 1, rfl, StI.bel hst5 bl, OffS.via (OffS.bel HFw.out hbB) (OffS.bel hoff5 bl) (fun b hb _ => hb.1), OwnD.nil _ _ _, fun b hb => hb.elim (fun h => by cases h) (fun h => by cases h), (fun x hx => by cases hx), Or.inr ⟨by rw [HRN.out]; rfl, by omega, rfl, by omega⟩⟩
   case pos =>
   have hd5 : decide (0 < f2 - (j : Int)) = true := by simpa using h5
   have hcy := (HFB3.out (by omega)).2 es2[j] (List.getElem_mem h3)
   rw [HX2.out] at hcy
   have hcl2 : x2_1.length ≤ 3000 := hcy
   clear hcy
   go_upto_region 11 with (go_at_call 50; refine (step_any _ M A ds.length c s (f2 - (j : Int)) (StI.bel HS3.out hbB) (by omega) (by omega)).mono ?_; rintro e w2 ⟨rfl, hst5, hoff5⟩; rw [hd5])
   have hz5 := hoff5.size
   have hxx := hoff5.same wr.heap.size (by omega) hlB1
   have hxf := hoff5.same wz.heap.size (by omega) hlBf
   have Y_0 := (hxx.1 _).trans y_0
   have Y_1 := (hxx.1 _).trans y_1
   have G_1 := (hxf.1 _).trans F_1
   have HS5 := hide hst5
   have HF5 := hide hoff5
   clear hst5 hoff5 hxx hxf
   have hl5x : wr.heap.size < w2.heap.size := by omega
   have hl5f : wz.heap.size < w2.heap.size := by omega
   have HGA := hide (Row.offS HF5.out (S := S1) (fun b hb => (HS1.out b hb).1) (Row.bel hbB HG3.out))
   have HGB := hide (Row.offS HF5.out (S := fun b => Blk (.slice (some ⟨b2, o2, none⟩) es2.length c2) L2 b) (fun b hb => by have := HB2.out b hb; omega) (Row.bel hbB GR2_1.out))
   have HOA := hide (OwnD.offS (OwnD.bel HO3.out hbB) HF5.out (fun b hb => by
    rcases HBk3.out b hb with h | h
    ·
     rcases HBk.out b h with q | q
     ·
      exact (HOM.out b q).1
     ·
      simp only [World.size_alloc] at q; omega
    ·
     omega))
   refine wp_region_held_drew (S := fun w' => w'.cell? ⟨wr.heap.size, 0, none⟩ = some (.int .i64 x2_0) ∧ w'.cell? ⟨wz.heap.size, 1, none⟩ = some (.slice A1_1 x1_1.length C1_1) ∧ w'.cell? ⟨wr.heap.size, 1, none⟩ = some (.slice A2_1 x2_1.length C2_1)) (by kernel_rfl) ?_ (fun hHeld => ?_)
   ·
    exact ⟨Y_0, G_1, Y_1⟩
   refine tkI 0 ?_
   refine tkI 1 ?_
   refine tkI 2 ?_
   refine tkI 3 ?_
   refine tkI 4 ?_
   refine tkI 5 ?_
   refine tkI 6 ?_
   refine wpAnyH_ready (rs := [7]) (by kernel_rfl) (by simp) ?_
   refine AllReadyH.cons (o := _) rfl (fun K hK => ?_) AllReadyH.nil
   go_simp
   clear hHeld
   go_at_call 53
   refine (join_any _ _ _ x1_1 x2_1 A1_1 A2_1 C1_1 C2_1 (Row.bel bl HGA.out) (Row.bel bl HGB.out) (by omega) (by omega)).mono ?_
   rintro e w3 ⟨v3, rfl, hO5, hv5, hb5⟩
   have hb3 : Bel w2 w3 := Bel.trans (show Bel w2 w2.drew from bl) hb5
   have hv5b : ∀ b, v3.ownBlock = some b → w2.heap.size ≤ b := fun b hb => by have := hv5 b hb; simpa using this
   obtain ⟨xy, hxy⟩ : ∃ l, x1_1 ++ x2_1 = l := ⟨_, rfl⟩
   rw [hxy] at hO5
   have HXY := hide hxy
   clear hxy hv5 hb5
   obtain ⟨A6, c6, L6, hv6e, hr6, hn6, hk6⟩ := hO5.ownRow
   subst hv6e
   rw [List.length_map] at hv5b hk6
   rw [List.length_map]
   have HR6 := hide hr6
   have HK6 := hide (show ∀ b, b ∈ L6 → w2.heap.size ≤ b from fun b hb => (hk6 b hb).elim (fun h => hv5b b h) (fun h => by cases h))
   have HN6 := hide hn6
   clear hr6 hn6 hk6 hv5b hO5
   have hz6 := hb3.size
   refine hK.out _ _ ?_ (fun hHeld => ?_)
   ·
    exact ⟨(hb3.box wr.heap.size hl5x _).trans Y_0, (hb3.box wz.heap.size hl5f _).trans G_1, (hb3.box wr.heap.size hl5x _).trans Y_1⟩
   clear hK K
   (try simp only [Act.put, List.setIfInBounds_toArray, List.set_cons_zero, List.set_cons_succ, List.getElem_toArray, List.getElem_cons_zero, List.getElem_cons_succ])
   refine tkI 8 ?_
   refine wpAnyH_ready (rs := [9]) (by kernel_rfl) (by simp) ?_
   refine AllReadyH.cons (o := _) rfl (fun K hK => ?_) AllReadyH.nil
   go_simp
   clear hHeld
   have hown6 := OwnD.lit1 (k := 2) w3 36 (TEnding.own_mk (x0 := x2_0) (x1 := xy) g2_0 HR6.out) rfl HN6.out
   obtain ⟨nw3, hsr3⟩ := hown6.src
   have hb4 : Bel w2 (w3.alloc (.cells #[.int .i64 x2_0, .slice A6 xy.length c6] 36)) := bl
   refine hK.out _ _ ?_ (fun hHeld => ?_)
   ·
    exact ⟨(hb4.box wr.heap.size hl5x _).trans Y_0, (hb4.box wz.heap.size hl5f _).trans G_1, (hb4.box wr.heap.size hl5x _).trans Y_1⟩
   clear hK K
   (try simp only [Act.put, List.setIfInBounds_toArray, List.set_cons_zero, List.set_cons_succ, List.getElem_toArray, List.getElem_cons_zero, List.getElem_cons_succ])
   obtain ⟨os3, hos3⟩ : ∃ l, os1 ++ (es2.take j).map (joinE fs[i]) = l := ⟨_, rfl⟩
   rw [hos3] at hlen3
   have HOS3 := hide hos3
   have HOA3 := hide (show OwnD w2 36 2 _ L3 (os3.map TEnding.D) by rw [← hos3]; exact HOA.out)
   clear hos3
   refine wpAnyH_ready (rs := [10]) (by kernel_rfl) (by simp) ?_
   refine AllReadyH.cons (o := _) rfl (fun K hK => ?_) AllReadyH.nil
   rw [if_pos (by rfl)]
   refine wp_append_D (.tmp 47) (.tmp 56) 31 rfl 36 ie (.agg #[.int .i64 0, .slice none 0 0]) 2 32 Try.underlying31 hie ze0 ze1 ze2 (by decide) (by decide) (OwnD.bel HOA3.out hb4) hsr3 1 rfl rfl (fun b hb hm => by have h1 := OwnD.lt HOA.out b hb; have h2 := HK6.out b hm; omega) (by rw [hlen3]; omega) (by rw [hlen3]; unfold maxLen; omega) fun v7 w7 hO8 hg8 hw8 => ?_
   have HBO3 := hide (show ∀ b, (Value.slice A3 (os1.length + j) c3).ownBlock = some b → (Value.slice Ao os1.length co).ownBlock = some b ∨ w1.heap.size ≤ b from HBo3.out)
   have hz4 := hb4.size
   have same7 : ∀ b, b < w2.heap.size → (Value.slice A3 (os1.length + j) c3).ownBlock ≠ some b → SameB w2 w7 b := fun b hb hne => (hb4.same hb).trans ((grown_offS hg8).same b hne (Nat.lt_of_lt_of_le hb hz4))
   have hgx : (Value.slice A3 (os1.length + j) c3).ownBlock ≠ some wr.heap.size := fun h => by have := OwnD.lt HO3.out _ (Or.inl h); omega
   have hgf : (Value.slice A3 (os1.length + j) c3).ownBlock ≠ some wz.heap.size := fun h => (HBO3.out _ h).elim (fun q => by have := (HVO.out _ q).2.2.2; omega) (fun q => by omega)
   refine hK.out _ _ ?_ (fun hHeld => ?_)
   ·
    exact ⟨((same7 _ hl5x hgx).1 _).trans Y_0, ((same7 _ hl5f hgf).1 _).trans G_1, ((same7 _ hl5x hgx).1 _).trans Y_1⟩
   clear hK K
   (try simp only [Act.put, List.setIfInBounds_toArray, List.set_cons_zero, List.set_cons_succ, List.getElem_toArray, List.getElem_cons_zero, List.getElem_cons_succ])
   refine tkI 11 ?_
   refine wpAnyH_done (by kernel_rfl) ?_ _
   clear hHeld
   have HD := hide (show [TEnding.D (.mk x2_0 xy)] = [TEnding.D (joinE fs[i] es2[j])] by rw [joinE_D (a := x1_0) (cs := x1_1) HX1.out HX2.out, HXY.out, TEnding.D_mk])
   rw [show (os3.map TEnding.D ++ [TEnding.D (.mk x2_0 xy)]) = (os1 ++ (es2.take (j + 1)).map (joinE fs[i])).map TEnding.D by rw [HD.out, take_snoc h3, ← HOS3.out]; simp only [List.map_append, List.map_cons, List.map_nil, List.append_assoc]] at hO8
   have HO9 := hide hO8
   clear hO8
   have HC9 := hide (show ∀ x ∈ os1 ++ (es2.take (j + 1)).map (joinE fs[i]), x.cs.length ≤ 6000 from fun x hx => by
    rw [take_snoc h3, List.map_append, ← List.append_assoc] at hx
    rcases List.mem_append.1 hx with hx | hx
    ·
     exact HC3.out x hx
    ·
     obtain ⟨y, hy, rfl⟩ := List.mem_map.1 hx
     rw [List.mem_singleton.1 hy]
     simp only [joinE, TEnding.cs, List.length_append]
     rw [HX1.out, HX2.out]
     simp only
     omega)
   have HF9 := hide (OffS.via (OffS.via (OffS.via HF3.out (OffS.of_bel (fun _ => True) hbB) (fun b _ _ => trivial)) HF5.out (fun b hb _ => hb.1)) (OffS.via (OffS.of_bel (fun b => (Value.slice A3 (os1.length + j) c3).ownBlock ≠ some b) hb4) (grown_offS hg8) (fun b hb _ => hb)) (fun b hb hl h => (HBO3.out b h).elim (fun q => hb.2 q) (fun q => by omega)))
   have HB9 := hide (show ∀ b, v7.ownBlock = some b → (Value.slice Ao os1.length co).ownBlock = some b ∨ w1.heap.size ≤ b from fun b hb => (hw8 b hb).elim (fun q => HBO3.out b q) (fun q => Or.inr (by omega)))
   have HK9 := hide (show ∀ b, Blk v7 (L3 ++ L6) b → Blk (Value.slice Ao os1.length co) Lo1 b ∨ w1.heap.size ≤ b from fun b hb => hb.elim (fun q => (HB9.out b q).imp Or.inl id) (fun q => (List.mem_append.1 q).elim (fun q => HBk3.out b (Or.inr q)) (fun q => Or.inr (by have := HK6.out b q; omega))))
   have HS9 := hide (StI.same HS5.out (Nat.le_trans hz4 (grown_offS hg8).size) (same7 M (Nat.lt_of_lt_of_le hMB hz5) (fun h => (HBO3.out M h).elim (fun q => (HVO.out M q).1 rfl) (fun q => by omega))))
   have hz9 := (grown_offS hg8).size
   clear hg8 hw8 same7 hgx hgf
   go_wp2_with (fail)
   all_goals go_roundw
   case rel => exact ⟨j + 1, L3 ++ L6, by go_num, by omega, Or.inr (by omega), hide (OwnD.bel HO9.out bl), hide HC9.out, hide HK9.out, hide HB9.out, hide (by have h := StI.bel HS9.out (show Bel w7 _ from bl); rw [show f2 - ((j + 1 : Nat) : Int) = f2 - j - 1 by omega]; exact h), hide (OffS.bel HF9.out bl)⟩
   case measure => simp [intOf]; omega
end Go.Proofs.Ytdjbfneniohaaaa
