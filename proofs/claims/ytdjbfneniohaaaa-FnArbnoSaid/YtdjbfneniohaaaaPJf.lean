/- The program's evaluation, all of it. -/
import Derived.Test.YtdjbfneniohaaaaPJe
import Derived.Deep.RegionHeld3
import Derived.Deep.Cut
import Derived.OwnWalk
namespace Go.Proofs.Ytdjbfneniohaaaa
set_option linter.unusedVariables false
set_option linter.unusedSimpArgs false
set_option maxRecDepth 100000
open Go.RowKit
theorem simple_any (op n lo hi : Int) (t s : ByteArray) (a : Nat) (A : Option Addr) (m c : Nat) (w : World) (ha : a ≤ s.size) (hs : s.size ≤ 120) (ht : t.size ≤ 120) (h1 : 1 ≤ op) (h2 : op ≤ 23) (hn : 2 ≤ op ∧ op ≤ 6 → 0 ≤ n ∧ n ≤ 120) (h11 : ¬ op = 11) (h13 : ¬ op = 13) (h14 : ¬ op = 14) (h15 : ¬ op = 15) (h16 : ¬ op = 16) (h17 : ¬ op = 17) (h18 : ¬ op = 18) (h19 : ¬ op = 19) (h20 : ¬ op = 20) (h21 : ¬ op = 21) :
  Calls Try.prog 51 #[.agg #[.int .i64 op, .string t, .int .i64 n, .int .i64 lo, .int .i64 hi, .slice A m c], .string s, .int .i64 a] w fun e w' => simP (oneE op n lo hi t s a) e ∧ Bel w w' := by
 have hh : op = 1 ∨ op = 2 ∨ op = 3 ∨ op = 4 ∨ op = 5 ∨ op = 6 ∨ op = 7 ∨ op = 8 ∨ op = 9 ∨ op = 10 ∨ op = 12 ∨ op = 22 ∨ op = 23 := by omega
 rcases hh with rfl | rfl | rfl | rfl | rfl | rfl | rfl | rfl | rfl | rfl | rfl | rfl | rfl
 ·
  exact simple_1 n lo hi t s a A m c w ha hs ht
 ·
  exact simple_2 n lo hi t s a A m c w ha hs (hn (by decide)).1 (hn (by decide)).2
 ·
  exact simple_3 n lo hi t s a A m c w ha hs (hn (by decide)).1 (hn (by decide)).2
 ·
  exact simple_4 n lo hi t s a A m c w ha hs (hn (by decide)).1 (hn (by decide)).2
 ·
  exact simple_5 n lo hi t s a A m c w ha hs (hn (by decide)).1 (hn (by decide)).2
 ·
  exact simple_6 n lo hi t s a A m c w ha hs (hn (by decide)).1 (hn (by decide)).2
 ·
  exact simple_7 n lo hi t s a A m c w ha hs
 ·
  exact simple_8 n lo hi t s a A m c w ha hs
 ·
  exact simple_9 n lo hi t s a A m c w ha hs
 ·
  exact simple_10 n lo hi t s a A m c w ha hs
 ·
  exact simple_12 n lo hi t s a A m c w ha hs
 ·
  exact simple_22 n lo hi t s a A m c w ha hs
 ·
  exact simple_23 n lo hi t s a A m c w ha hs
set_option maxHeartbeats 4000000 in
theorem eval_one (w0 : World) (ds : List TPattern) (s : ByteArray) (M : Nat) (A : Option Addr) (c d : Nat) (op : Int) (t : ByteArray) (n lo hi : Int) (ks : List TPattern) (hs : s.size ≤ 120) (hd : d ≤ 2999) (w : World) (vs : List Value) (S : Nat → Prop) (g a : Nat) (hq : Dat.HoldVals w0 S (TPattern.mk op t n lo hi ks).D vs) (hb0 : Bel w0 w) (hM : w0.heap.size ≤ M) (hst : StI w M A ds.length c s ((g : Int) + 1)) (hg : g ≤ d) (ha : a ≤ s.size) (hv : (TPattern.mk op t n lo hi ks).vld ds.length = true) (h11 : ¬ op = 11) (h13 : ¬ op = 13) (h14 : ¬ op = 14) (h15 : ¬ op = 15) (h16 : ¬ op = 16) (h17 : ¬ op = 17) (h18 : ¬ op = 18) (h19 : ¬ op = 19) (h20 : ¬ op = 20) (h21 : ¬ op = 21) :
  Calls Try.prog 29 #[.pointer (some ⟨M, 0, none⟩), .agg vs.toArray, .int .i64 a] w (EndsPostI w M A ds.length c s ((g : Int) + 1) (endsE ds s (d + 1) (g + 1) (.mk op t n lo hi ks) a)) := by
 have hno := vld_node hv
 have hop1 := hno.1.1
 have hop2 := hno.1.2.1
 have ht120 := hno.1.2.2.2.2.1
 have HNN := hide (fun h => nodeN_num hno.2 h)
 clear hno
 obtain ⟨Aq, cq, rfl, gop, gt, gn, glo, ghi, gR⟩ := TPattern.vals hq
 have HQ := hide hq
 have HRQ := hide gR
 have HST := hide hst
 have HB0 := hide hb0
 have hM1 := hst.1
 have hqc := gR.1
 have hqm := gR.2.1
 simp only [List.length_map, List.length_cons, List.length_nil, Nat.reduceAdd] at hqc
 unfold maxLen at hqm gt
 clear hq gR hb0 hst
 have hne : ¬ M = w.heap.size := by omega
 have hne2 : ¬ w.heap.size = M := by omega
 have hd1 : decide (0 < (g : Int) + 1) = true := decide_eq_true (by omega)
 have hInA : InI (a : Int) := by unfold InI; omega
 go_enter Try.func29, Try.ntmps29
 go_upto_region 3 with (go_at_call 50; refine (step_any _ M A ds.length c s _ (StI.bel HST.out bl) (by omega) (by omega)).mono ?_; rintro e w1 ⟨rfl, hst1, hoff1⟩; rw [hd1])
 have HS1 := hide (show StI w1 M A ds.length c s (g : Int) by have h := hst1; rw [show (g : Int) + 1 - 1 = (g : Int) by omega] at h; exact h)
 have hz1 := hoff1.size
 simp only [World.size_alloc] at hz1
 have hx1 := hoff1.same w.heap.size hne2 (by simp)
 have p_0 : w1.cell? ⟨w.heap.size, 0, none⟩ = some (.int .i64 op) := (hx1.1 0).trans (by simp)
 have p_1 : w1.cell? ⟨w.heap.size, 1, none⟩ = some (.string t) := (hx1.1 1).trans (by simp)
 have p_2 : w1.cell? ⟨w.heap.size, 2, none⟩ = some (.int .i64 n) := (hx1.1 2).trans (by simp)
 have p_3 : w1.cell? ⟨w.heap.size, 3, none⟩ = some (.int .i64 lo) := (hx1.1 3).trans (by simp)
 have p_4 : w1.cell? ⟨w.heap.size, 4, none⟩ = some (.int .i64 hi) := (hx1.1 4).trans (by simp)
 have p_5 : w1.cell? ⟨w.heap.size, 5, none⟩ = some (.slice Aq ks.length cq) := (hx1.1 5).trans (by simp)
 have HF1 := hide (OffS.via (OffS.of_bel (fun b => b ≠ M) (show Bel w (w.alloc (.cells #[.int .i64 op, .string t, .int .i64 n, .int .i64 lo, .int .i64 hi, .slice Aq ks.length cq] 28)) from bl)) hoff1 (fun b hb _ => hb))
 clear hst1 hoff1 hx1
 obtain ⟨hM2, -, -, z1, -⟩ := HS1.out
 have hl1 : w.heap.size < w1.heap.size := by omega
 have hn1 : ¬ w.heap.size = w1.heap.size := by omega
 have hnm1 : ¬ M = w1.heap.size := by omega
 obtain ⟨r, hr⟩ : ∃ r, oneE op n lo hi t s a = r := ⟨_, rfl⟩
 have hri : ∀ e, r = some e → e ≤ s.size := fun e he => (oneE_in ha (fun q => (HNN.out q).1) (hr.trans he)).2
 have HE := hide (one_out (ds := ds) (d := d) (g := g) (ks := ks) h11 h13 h14 h15 h16 h17 h18 h19 h20 h21 r hr)
 have HRI := hide hri
 clear hri
 have HCON := hide (fun (wx : World) => show Calls Try.prog 51 #[.agg #[.int .i64 op, .string t, .int .i64 n, .int .i64 lo, .int .i64 hi, .slice Aq ks.length cq], .string s, .int .i64 a] wx (fun e w' => simP r e ∧ Bel wx w') by rw [← hr]; exact simple_any op n lo hi t s a Aq ks.length cq wx ha hs ht120 hop1 hop2 (fun q => HNN.out q) h11 h13 h14 h15 h16 h17 h18 h19 h20 h21)
 clear hr h11 h13 h14 h15 h16 h17 h18 h19 h20 h21
 cases r
 case none => as_aux_lemma =>
  go_region_held3 (fun w' => w'.cell? ⟨w.heap.size, 0, none⟩ = some (.int .i64 op) ∧ w'.cell? ⟨w.heap.size, 1, none⟩ = some (.string t) ∧ w'.cell? ⟨w.heap.size, 2, none⟩ = some (.int .i64 n) ∧ w'.cell? ⟨w.heap.size, 3, none⟩ = some (.int .i64 lo) ∧ w'.cell? ⟨w.heap.size, 4, none⟩ = some (.int .i64 hi) ∧ w'.cell? ⟨w.heap.size, 5, none⟩ = some (.slice Aq ks.length cq) ∧ w'.cell? ⟨M, 1, none⟩ = some (.string s)) (go_keep) (first | (go_at_call 51; refine (HCON.out _).mono ?_; rintro e w2 ⟨⟨x, rfl⟩, hb2⟩; (have hz2 := hb2.sz; obtain ⟨hk2_0, hf2_0, hl2_0, hn2_0⟩ := hb2.lay (w.heap.size); obtain ⟨hk2_1, hf2_1, hl2_1, hn2_1⟩ := hb2.lay (M))))
  all_goals (try (go_wp2_with (fail)))
  all_goals
   go_returns
   exact ⟨_, [], [], false, g, rfl, StI.bel HS1.out bl, OffS.bel HF1.out bl, OwnD.nil _ _ _, fun b hb => hb.elim (fun h => by cases h) (fun h => by cases h), (fun x hx => by cases hx), HE.out⟩
 case some k => as_aux_lemma =>
  have hkl := HRI.out k rfl
  have hInK : InI (k : Int) := by unfold InI; omega
  go_region_held3 (fun w' => w'.cell? ⟨w.heap.size, 0, none⟩ = some (.int .i64 op) ∧ w'.cell? ⟨w.heap.size, 1, none⟩ = some (.string t) ∧ w'.cell? ⟨w.heap.size, 2, none⟩ = some (.int .i64 n) ∧ w'.cell? ⟨w.heap.size, 3, none⟩ = some (.int .i64 lo) ∧ w'.cell? ⟨w.heap.size, 4, none⟩ = some (.int .i64 hi) ∧ w'.cell? ⟨w.heap.size, 5, none⟩ = some (.slice Aq ks.length cq) ∧ w'.cell? ⟨M, 1, none⟩ = some (.string s)) (go_keep) (first | (go_at_call 51; refine (HCON.out _).mono ?_; rintro e w2 ⟨rfl, hb2⟩; (have hz2 := hb2.sz; obtain ⟨hk2_0, hf2_0, hl2_0, hn2_0⟩ := hb2.lay (w.heap.size); obtain ⟨hk2_1, hf2_1, hl2_1, hn2_1⟩ := hb2.lay (M))))
  all_goals (try (go_wp2_with (fail)))
  all_goals
   go_returns
   exact ⟨_, [], [TEnding.mk (k : Int) []], false, g, rfl, StI.bel HS1.out bl, OffS.bel HF1.out bl, OwnD.lit1 (k := 2) _ 36 (TEnding.own_mk (x0 := (k : Int)) (x1 := []) hInK (OwnRow.nil _ 3 none 0 (by unfold maxLen; omega))) rfl List.nodup_nil, fun b hb => hb.elim (fun h => by have h2 := Option.some.inj (show some (World.heap _ |>.size) = some b from h); (try simp only [World.size_alloc, World.size_drew] at h2); omega) (fun h => by cases h), fun x hx => by rw [List.mem_singleton.1 hx]; simp only [TEnding.cs, List.length_nil]; omega, HE.out⟩
theorem eval_any (w0 : World) (ds : List TPattern) (s : ByteArray) (M : Nat) (A : Option Addr) (c : Nat) (Sd : Nat → Prop) (hR : Row w0 Sd 6 A c (ds.map TPattern.D)) (hds : ∀ q ∈ ds, q.vld ds.length = true) (hs : s.size ≤ 120) :
  ∀ (d : Nat), d ≤ 3000 → ∀ q : TPattern, q.vld ds.length = true → ImpC w0 ds s M A c d q := by
 intro d
 induction d with
 | zero =>
  intro _ q hv w vs S f a hq hb0 hM hst hf hlo hpos hIn
  exact eval_dead w0 ds s M A c 0 q w vs S f a hq hb0 hM hst (by omega) hlo
 | succ d ih =>
  intro hd q hv w vs S f a hq hb0 hM hst hf hlo hpos hIn
  rcases Int.lt_or_le 0 f with h0 | h0
  ·
   have IH := ih (by omega)
   obtain ⟨ha0, ha1⟩ := hpos h0
   obtain ⟨k, rfl⟩ := Int.eq_ofNat_of_zero_le ha0
   obtain ⟨g, rfl⟩ : ∃ g : Nat, f = (g : Int) + 1 := ⟨(f - 1).toNat, by omega⟩
   have hk : k ≤ s.size := by omega
   have hg : g ≤ d := by omega
   have e : resE ds s (d + 1) ((g : Int) + 1) q (k : Int) = endsE ds s (d + 1) (g + 1) q k := by
    unfold resE
    rw [if_pos (by omega), Int.toNat_natCast, show ((g : Int) + 1).toNat = g + 1 by omega]
   rw [e]
   clear e
   obtain ⟨op, t, n, lo, hi, ks⟩ := q
   by_cases h11 : op = 11
   ·
    subst h11; exact eval_11 w0 ds s M A c d t n lo hi ks hs (by omega) w vs S g k hq hb0 hM hst hg hk
   by_cases h13 : op = 13
   ·
    subst h13; obtain ⟨p, rfl, -⟩ := TPattern.kids1 hv rfl; exact eval_13 w0 ds s M A c d t n lo hi p hs (by omega) w vs S g k hq hb0 hM hst hg hk hds IH hv
   by_cases h14 : op = 14
   ·
    subst h14; obtain ⟨p, q, rfl, -⟩ := TPattern.kids2 hv rfl; exact eval_14 w0 ds s M A c d t n lo hi p q hs (by omega) w vs S g k hq hb0 hM hst hg hk hds IH hv
   by_cases h15 : op = 15
   ·
    subst h15; obtain ⟨p, q, rfl, -⟩ := TPattern.kids2 hv rfl; exact eval_15 w0 ds s M A c d t n lo hi p q hs (by omega) w vs S g k hq hb0 hM hst hg hk hds IH hv
   by_cases h16 : op = 16
   ·
    subst h16; obtain ⟨p, rfl, -⟩ := TPattern.kids1 hv rfl; exact eval_16 w0 ds s M A c d t n lo hi p hs (by omega) w vs S g k hq hb0 hM hst hg hk hds IH hv
   by_cases h17 : op = 17
   ·
    subst h17; obtain ⟨p, rfl, -⟩ := TPattern.kids1 hv rfl; exact eval_17 w0 ds s M A c d t n lo hi p hs (by omega) w vs S g k hq hb0 hM hst hg hk hds IH hv
   by_cases h18 : op = 18
   ·
    subst h18; exact eval_18 w0 ds s M A c d t n lo hi ks hs (by omega) w vs S g k hq hb0 hM hst hg hk
   by_cases h19 : op = 19
   ·
    subst h19; exact eval_19 w0 ds s M A c d t n lo hi ks hs (by omega) w vs S g k hq hb0 hM hst hg hk
   by_cases h20 : op = 20
   ·
    subst h20; exact eval_20 w0 ds s M A c d t n lo hi ks hs (by omega) w vs S g k hq hb0 hM hst hg hk hds IH hv Sd hR
   by_cases h21 : op = 21
   ·
    subst h21; exact eval_21 w0 ds s M A c d t n lo hi ks hs (by omega) w vs S g k hq hb0 hM hst hg hk
   exact eval_one w0 ds s M A c d op t n lo hi ks hs (by omega) w vs S g k hq hb0 hM hst hg hk hv h11 h13 h14 h15 h16 h17 h18 h19 h20 h21
  ·
   exact eval_dead w0 ds s M A c (d + 1) q w vs S f a hq hb0 hM hst h0 hlo
end Go.Proofs.Ytdjbfneniohaaaa
