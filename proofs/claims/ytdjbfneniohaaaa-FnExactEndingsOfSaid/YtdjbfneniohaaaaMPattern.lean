/- Own data of Pattern: copies, marks. -/
import Derived.Test.YtdjbfneniohaaaaHPattern
import Derived.Test.YtdjbfneniohaaaaOw
import Derived.Test.YtdjbfneniohaaaaMk
namespace Go.Proofs.Ytdjbfneniohaaaa
set_option linter.unusedVariables false
set_option linter.unusedSimpArgs false
set_option maxRecDepth 100000
open Go.RowKit

theorem TPattern.vals_own {w : World} {L : List Nat} {x0 : Int} {x1 : ByteArray} {x2 : Int} {x3 : Int} {x4 : Int} {x5 : List TPattern} {vs : List Value} (h : Dat.OwnVals w L (TPattern.mk x0 x1 x2 x3 x4 x5).D vs) : ∃ A5 c5 L5, L = L5 ∧ vs = [.int .i64 x0, .string x1, .int .i64 x2, .int .i64 x3, .int .i64 x4, .slice A5 x5.length c5] ∧ InI x0 ∧ x1.size ≤ maxLen ∧ InI x2 ∧ InI x3 ∧ InI x4 ∧ OwnRow w L5 6 A5 c5 (x5.map TPattern.D) := by
  rw [TPattern.D_mk] at h
  have hl := h.length
  match vs, hl, h with
  | [u0, u1, u2, u3, u4, u5], _, h =>
  simp only [Dat.OwnVals] at h
  obtain ⟨M0, N0, e0, h0, M1, N1, e1, h1, M2, N2, e2, h2, M3, N3, e3, h3, M4, N4, e4, h4, M5, N5, e5, h5, en⟩ := h
  subst en
  subst e5
  subst e4
  subst e3
  subst e2
  subst e1
  subst e0
  obtain ⟨rfl, rfl, g0⟩ := Dat.own_int.1 h0
  obtain ⟨rfl, rfl, g1⟩ := Dat.own_str.1 h1
  obtain ⟨rfl, rfl, g2⟩ := Dat.own_int.1 h2
  obtain ⟨rfl, rfl, g3⟩ := Dat.own_int.1 h3
  obtain ⟨rfl, rfl, g4⟩ := Dat.own_int.1 h4
  obtain ⟨A5, c5, rfl, g5⟩ := Dat.own_row.1 h5
  exact ⟨A5, c5, M5, by simp only [List.nil_append, List.append_nil], by simp only [List.length_map], g0, g1, g2, g3, g4, g5⟩
theorem TPattern.own_mk {w : World} {x0 : Int} {x1 : ByteArray} {x2 : Int} {x3 : Int} {x4 : Int} {x5 : List TPattern} {A5 : Option Addr} {c5 : Nat} {L5 : List Nat} (h0 : InI x0) (h1 : x1.size ≤ maxLen) (h2 : InI x2) (h3 : InI x3) (h4 : InI x4) (h5 : OwnRow w L5 6 A5 c5 (x5.map TPattern.D)) : Dat.OwnVals w (L5) (TPattern.mk x0 x1 x2 x3 x4 x5).D [.int .i64 x0, .string x1, .int .i64 x2, .int .i64 x3, .int .i64 x4, .slice A5 x5.length c5] := by
  rw [TPattern.D_mk]
  exact ⟨[], _, (List.nil_append _).symm, Dat.own_int.2 ⟨rfl, rfl, h0⟩, ⟨[], _, (List.nil_append _).symm, Dat.own_str.2 ⟨rfl, rfl, h1⟩, ⟨[], _, (List.nil_append _).symm, Dat.own_int.2 ⟨rfl, rfl, h2⟩, ⟨[], _, (List.nil_append _).symm, Dat.own_int.2 ⟨rfl, rfl, h3⟩, ⟨[], _, (List.nil_append _).symm, Dat.own_int.2 ⟨rfl, rfl, h4⟩, ⟨L5, _, (List.append_nil _).symm, Dat.own_row.2 ⟨_, _, by simp only [List.length_map], h5⟩, rfl⟩⟩⟩⟩⟩⟩
def ToPatternL (t : TPattern) : Prop := ∀ (S : Nat → Prop) (w : World) (vs : List Value), Dat.HoldVals w S t.D vs → Dat.wtL t.D ≤ 1048576 →
  Calls Try.prog 19 #[.agg vs.toArray] w (MadeVL w t.D)
set_option maxHeartbeats 800000 in
theorem toPatternS_ofL (ks : List TPattern) (IH : ∀ (i : Nat) (hi : i < ks.length), ToPatternL ks[i]) (S : Nat → Prop) (w : World) (A : Option Addr) (c : Nat) (hR : Row w S 6 A c (ks.map TPattern.D)) (hwt : ks.length + Dat.wtR (ks.map TPattern.D) ≤ 1048576) :
    Calls Try.prog 18 #[.slice A ks.length c] w (MadeRL w 6 (ks.map TPattern.D)) := by
  have IH' := hide IH
  have HR := hide hR
  have hlen := hR.1
  have hcm := hR.2.1
  simp only [List.length_map] at hlen
  unfold maxLen at hcm
  clear IH hR
  obtain ⟨cur, hcur, hmk⟩ := make_rows (P := Try.prog) (t := 24) (e := 28) (k := 6) ks.length (by omega) Try.underlying24 (by kernel_rfl)
  have HC := hide hcur
  clear hcur
  have HW := hide hwt
  clear hwt
  go_enter Try.func18, Try.ntmps18
  go_wp2_with (fail)
  have HF := hide (FillO.start w 28 6 ks.length HC.out)
  clear hmk
  go_loopw [4] (fun iv wr => ∃ k : Nat, k ≤ ks.length ∧ iv = .int .i64 k ∧ FillO wr w.heap.size 28 6 ks.length ((ks.map TPattern.D).take k) ∧ Bel w wr) (fun iv _ => ks.length - (intOf iv).toNat)
  case atStart => exact ⟨0, Nat.zero_le _, rfl, HF.out, bl⟩
  case round =>
    obtain ⟨k, hk, rfl, hF, hbw⟩ := hrel
    have HF1 := hide hF
    have hgl := hF.lt
    clear hF HF
    rcases Nat.lt_or_ge k ks.length with hlt | hge
    · have hd : decide ((k : Int) < (ks.length : Int)) = true := by simp; omega
      have hi0 : 0 ≤ (k : Int) := by omega
      have hi1 : (k : Int) < (ks.length : Int) := by omega
      (obtain ⟨b1, o1, x1_0, x1_1, x1_2, x1_3, x1_4, x1_5, A1_5, C1_5, hA1, hS1, hl1, hx1, hv1, g1_0, g1_1, g1_2, g1_3, g1_4, g1_5, c1_0, c1_1, c1_2, c1_3, c1_4, c1_5⟩ := TPattern.at HR.out k hlt; subst hA1; have HV1 := hide (Dat.HoldVals.bel hbw hv1); have hh1 := hbw.box b1 hl1; have hw1 := Nat.lt_of_lt_of_le hl1 (Bel.size hbw); replace c1_0 := (hh1 _).trans c1_0; replace c1_1 := (hh1 _).trans c1_1; replace c1_2 := (hh1 _).trans c1_2; replace c1_3 := (hh1 _).trans c1_3; replace c1_4 := (hh1 _).trans c1_4; replace c1_5 := (hh1 _).trans c1_5; have HX1 := hide hx1; have GR1_5 := hide g1_5; clear hh1 hv1 hx1 hS1 g1_5)
      have hw := hide (Dat.wtR_take (ks.map TPattern.D) k (by simpa using hlt))
      have hw' := hide (Dat.wtR_le (ks.map TPattern.D) (k + 1))
      have hwk : Dat.wtL ks[k].D ≤ 1048576 := by have a := hw.out; have b := hw'.out; have c := HW.out; rw [List.getElem_map] at a; omega
      go_wp2_with (fail)
      refine (IH'.out k hlt S _ _ (Dat.HoldVals.bel bl HV1.out) hwk).mono ?_
      rintro e w1 ⟨vs', L', rfl, hv', hnd', hlo', hb1⟩
      have HN' := hide hnd'
      have HL' := hide hlo'
      clear hnd' hlo'
      have HV' := hide hv'
      rw [HX1.out] at hv'
      obtain ⟨A5, c5, rfl, -⟩ := TPattern.vals (Dat.OwnVals.vals (S := fun _ => True) (fun _ _ => trivial) hv')
      clear hv'
      obtain ⟨y0, e0⟩ := (FillO.bel HF1.out (show Bel _ w1 from bl)).cell (i := k * 6) (by omega)
      obtain ⟨y1, e1⟩ := (FillO.bel HF1.out (show Bel _ w1 from bl)).cell (i := k * 6 + 1) (by omega)
      obtain ⟨y2, e2⟩ := (FillO.bel HF1.out (show Bel _ w1 from bl)).cell (i := k * 6 + 2) (by omega)
      obtain ⟨y3, e3⟩ := (FillO.bel HF1.out (show Bel _ w1 from bl)).cell (i := k * 6 + 3) (by omega)
      obtain ⟨y4, e4⟩ := (FillO.bel HF1.out (show Bel _ w1 from bl)).cell (i := k * 6 + 4) (by omega)
      obtain ⟨y5, e5⟩ := (FillO.bel HF1.out (show Bel _ w1 from bl)).cell (i := k * 6 + 5) (by omega)
      have f0 := (FillO.bel HF1.out (show Bel _ w1 from bl)).free (k * 6)
      have f1 := (FillO.bel HF1.out (show Bel _ w1 from bl)).free (k * 6 + 1)
      have f2 := (FillO.bel HF1.out (show Bel _ w1 from bl)).free (k * 6 + 2)
      have f3 := (FillO.bel HF1.out (show Bel _ w1 from bl)).free (k * 6 + 3)
      have f4 := (FillO.bel HF1.out (show Bel _ w1 from bl)).free (k * 6 + 4)
      have f5 := (FillO.bel HF1.out (show Bel _ w1 from bl)).free (k * 6 + 5)
      go_wp2_with (fail)
      go_roundw
      case rel =>
       exact ⟨k + 1, by omega, by go_num, FillO.snoc6 HF1.out hlt rfl bl (Dat.OwnVals.bel bl HV'.out) HN'.out (fun b hb => HL'.out b hb), bl⟩
      case measure => simp [intOf]; omega
    · have hd : decide ((k : Int) < (ks.length : Int)) = false := by simp; omega
      go_wp2_with (fail)
      go_returns
      obtain ⟨L, q1, q2, q3⟩ := FillO.done HF1.out hge rfl (by unfold maxLen; omega)
      exact ⟨some ⟨w.heap.size, 0, none⟩, ks.length, L, by rw [List.length_map]; rfl, q1, q2, q3, hbw⟩
set_option maxHeartbeats 2000000 in
theorem toPatternL_any : ∀ t : TPattern, ToPatternL t := by
  refine TPattern.ind fun x0 x1 x2 x3 x4 x5 IH => ?_
  intro S w vs hv hwt
  obtain ⟨A5, c5, rfl, g0, g1, g2, g3, g4, hR5⟩ := TPattern.vals hv
  have R5 := hide hR5
  have IH' := hide IH
  rw [TPattern.D_mk] at hwt
  simp only [Dat.wtL, Dat.wt, List.length_map] at hwt
  have hw5 : x5.length + Dat.wtR (x5.map TPattern.D) ≤ 1048576 := by omega
  clear hv hwt IH hR5
  unfold maxLen at g1
  go_enter Try.func19, Try.ntmps19
  go_wp2_with (fail)
  refine (toCset_flat x3 x4 _).mono ?_
  rintro e w1 ⟨rfl, hb1⟩
  (have hz1 := hb1.sz; obtain ⟨hk1_0, hf1_0, hl1_0, hn1_0⟩ := hb1.lay (w.heap.size); obtain ⟨hk1_1, hf1_1, hl1_1, hn1_1⟩ := hb1.lay (w.heap.size + 1); obtain ⟨hk1_2, hf1_2, hl1_2, hn1_2⟩ := hb1.lay (w.heap.size + 1 + 1))
  go_wp2_with (fail)
  refine (toPatternS_ofL x5 IH'.out S _ _ _ (Row.bel bl R5.out) hw5).mono ?_
  rintro e w2 ⟨B5, d5, L5, rfl, hQ5, hN5, hL5, hb2⟩
  (have hz2 := hb2.sz; obtain ⟨hk2_0, hf2_0, hl2_0, hn2_0⟩ := hb2.lay (w.heap.size); obtain ⟨hk2_1, hf2_1, hl2_1, hn2_1⟩ := hb2.lay (w.heap.size + 1); obtain ⟨hk2_2, hf2_2, hl2_2, hn2_2⟩ := hb2.lay (w.heap.size + 1 + 1))
  have N5 := hide hN5
  have V5 := hide (show ∀ b, b ∈ L5 → w.heap.size + 2 < b from fun b hb => by have := hL5 b hb; (try simp only [World.size_alloc, World.size_setCell, World.size_drew, World.heap_drewN] at this); omega)
  have U5 := hide hL5
  have T5 := hide (hQ5.lt)
  have Q5 := hide hQ5
  clear hQ5 hN5 hL5
  go_wp2_with (fail)
  exact bodyPost_ret (v := .agg #[.int .i64 x0, .string x1, .int .i64 x2, .int .i64 x3, .int .i64 x4, .slice B5 x5.length d5]) (by simp [results, Try.results19, go_sem, hk1_1, hf1_1, hk1_2, hf1_2, hk2_1, hf2_1, hk2_2, hf2_2]) rfl
    ⟨[.int .i64 x0, .string x1, .int .i64 x2, .int .i64 x3, .int .i64 x4, .slice B5 x5.length d5], L5, rfl, TPattern.own_mk g0 (by unfold maxLen; omega) g2 g3 g4 (OwnRow.offS (S := fun b => w.heap.size + 2 < b) osl (fun b hb => V5.out b hb) Q5.out), N5.out, fun b hb => by have := V5.out b hb; omega, bl⟩
theorem toPatternSL_any (ks : List TPattern) (S : Nat → Prop) (w : World) (A : Option Addr) (c : Nat) (hR : Row w S 6 A c (ks.map TPattern.D)) (hwt : ks.length + Dat.wtR (ks.map TPattern.D) ≤ 1048576) :
    Calls Try.prog 18 #[.slice A ks.length c] w (MadeRL w 6 (ks.map TPattern.D)) := toPatternS_ofL ks (fun _ _ => toPatternL_any _) S w A c hR hwt
theorem TPattern.cnt_mk {x0 : Int} {x1 : ByteArray} {x2 : Int} {x3 : Int} {x4 : Int} {x5 : List TPattern} : Dat.cntC (TPattern.mk x0 x1 x2 x3 x4 x5).D = 5 + Dat.cntR (x5.map TPattern.D) := by
  simp only [TPattern.D_mk, Dat.cntC, Dat.cnt]; (try omega)
theorem TPattern.mark_own {w : World} {m : Int} {x0 : Int} {x1 : ByteArray} {x2 : Int} {x3 : Int} {x4 : Int} {x5 : List TPattern} {A5 : Option Addr} {c5 : Nat} {L5 : List Nat} (h0 : 0 ≤ m) (hm : m + (5 + Dat.cntR (x5.map TPattern.D) : Nat) ≤ 4611686018427387904) (h5 : OwnRow w L5 6 A5 c5 (Dat.markR (m + 1 + 1 + 1 + 1 + 1) (x5.map TPattern.D))) : Dat.OwnVals w (L5) (Dat.markC m (TPattern.mk x0 x1 x2 x3 x4 x5).D) [.int .i64 (m), .string (markT (m + 1)), .int .i64 (m + 1 + 1), .int .i64 (m + 1 + 1 + 1), .int .i64 (m + 1 + 1 + 1 + 1), .slice A5 x5.length c5] := by
  have e : Dat.markC m (TPattern.mk x0 x1 x2 x3 x4 x5).D = [.int (m), .str (markT (m + 1)), .int (m + 1 + 1), .int (m + 1 + 1 + 1), .int (m + 1 + 1 + 1 + 1), .row 6 (Dat.markR (m + 1 + 1 + 1 + 1 + 1) (x5.map TPattern.D))] := by
    simp only [TPattern.D_mk, Dat.markC, Dat.mark, Dat.cnt]
    first | done | rfl | (simp only [Nat.cast_one]; done) | (simp; done) | (push_cast; simp)
  rw [e]
  exact ⟨[], _, (List.nil_append _).symm, Dat.own_int.2 ⟨rfl, rfl, InI.of_le (by omega) (by omega)⟩, ⟨[], _, (List.nil_append _).symm, Dat.own_str.2 ⟨rfl, rfl, Nat.le_trans (markT_size _) (by unfold maxLen; omega)⟩, ⟨[], _, (List.nil_append _).symm, Dat.own_int.2 ⟨rfl, rfl, InI.of_le (by omega) (by omega)⟩, ⟨[], _, (List.nil_append _).symm, Dat.own_int.2 ⟨rfl, rfl, InI.of_le (by omega) (by omega)⟩, ⟨[], _, (List.nil_append _).symm, Dat.own_int.2 ⟨rfl, rfl, InI.of_le (by omega) (by omega)⟩, ⟨L5, _, (List.append_nil _).symm, Dat.own_row.2 ⟨_, _, by simp only [Dat.markR_length, List.length_map], h5⟩, rfl⟩⟩⟩⟩⟩⟩
theorem TPattern.mcnt_le : ∀ t : TPattern, Dat.cntC t.D ≤ 16 + 16 * Dat.wtL t.D := by
  refine TPattern.ind fun x0 x1 x2 x3 x4 x5 IH => ?_
  have r5 := cntR_le_of TPattern.D x5 (IH)
  rw [TPattern.cnt_mk, TPattern.D_mk]
  simp only [Dat.wtL, Dat.wt, List.length_map]
  omega
theorem TPattern.mark_vals {w : World} {S : Nat → Prop} {m : Int} {x0 : Int} {x1 : ByteArray} {x2 : Int} {x3 : Int} {x4 : Int} {x5 : List TPattern} {vs : List Value} (h : Dat.HoldVals w S (Dat.markC m (TPattern.mk x0 x1 x2 x3 x4 x5).D) vs) : ∃ A5 c5, vs = [.int .i64 (m), .string (markT (m + 1)), .int .i64 (m + 1 + 1), .int .i64 (m + 1 + 1 + 1), .int .i64 (m + 1 + 1 + 1 + 1), .slice A5 x5.length c5] ∧ Row w S 6 A5 c5 (Dat.markR (m + 1 + 1 + 1 + 1 + 1) (x5.map TPattern.D)) := by
  have e : Dat.markC m (TPattern.mk x0 x1 x2 x3 x4 x5).D = [.int (m), .str (markT (m + 1)), .int (m + 1 + 1), .int (m + 1 + 1 + 1), .int (m + 1 + 1 + 1 + 1), .row 6 (Dat.markR (m + 1 + 1 + 1 + 1 + 1) (x5.map TPattern.D))] := by
    simp only [TPattern.D_mk, Dat.markC, Dat.mark, Dat.cnt]
    first | done | rfl | (simp only [Nat.cast_one]; done) | (simp; done) | (push_cast; simp)
  rw [e] at h
  match vs, h with
  | [u0, u1, u2, u3, u4, u5], h =>
  simp only [Dat.HoldVals] at h
  obtain ⟨h0, h1, h2, h3, h4, h5, -⟩ := h
  obtain ⟨rfl, -⟩ := Dat.holds_int.1 h0
  obtain ⟨rfl, -⟩ := Dat.holds_str.1 h1
  obtain ⟨rfl, -⟩ := Dat.holds_int.1 h2
  obtain ⟨rfl, -⟩ := Dat.holds_int.1 h3
  obtain ⟨rfl, -⟩ := Dat.holds_int.1 h4
  obtain ⟨A5, c5, rfl, g5⟩ := Dat.holds_row.1 h5
  exact ⟨A5, c5, by simp only [Dat.markR_length, List.length_map], g5⟩
def TPattern.kids : TPattern → List TPattern | .mk x0 x1 x2 x3 x4 x5 => x5
def MarkPatternS (ks : List TPattern) : Prop := ∀ (L : List Nat) (w : World) (A : Option Addr) (c : Nat) (k : Int) (hR : OwnRow w L 6 A c (ks.map TPattern.D)) (hnd : L.Nodup) (h0 : 0 ≤ k) (hb : k + (Dat.cntR (ks.map TPattern.D) : Nat) ≤ 4611686018427387904), Calls Try.prog 23 #[.slice A ks.length c, .int .i64 k] w (Marked w L 6 A c k (ks.map TPattern.D))
set_option maxHeartbeats 2000000 in
theorem markPatternS_of (ks : List TPattern) (IH : ∀ (i : Nat) (hi : i < ks.length), MarkPatternS ks[i].kids) (L : List Nat) (w : World) (A : Option Addr) (c : Nat) (k : Int) (hR : OwnRow w L 6 A c (ks.map TPattern.D)) (hnd : L.Nodup) (h0 : 0 ≤ k) (hb : k + (Dat.cntR (ks.map TPattern.D) : Nat) ≤ 4611686018427387904) :
    Calls Try.prog 23 #[.slice A ks.length c, .int .i64 k] w (Marked w L 6 A c k (ks.map TPattern.D)) := by
  have IH' := hide IH
  clear IH
  have HR := hide hR
  have HN := hide hnd
  have hlen := hR.1
  have hcm := hR.2.1
  simp only [List.length_map] at hlen
  unfold maxLen at hcm
  clear hR hnd
  go_enter Try.func23, Try.ntmps23
  go_wp2_with (fail)
  go_loopw [1, 5] (fun kv iv wr => ∃ i : Nat, i ≤ ks.length ∧ iv = .int .i64 i ∧ kv = .int .i64 (k + (Dat.cntR ((ks.map TPattern.D).take i) : Nat)) ∧ Hid (OwnRow wr L 6 A c (Dat.markTo k i (ks.map TPattern.D))) ∧ OffS (fun x => x ∉ L) w wr) (fun _ iv _ => ks.length - (intOf iv).toNat)
  case atStart => exact ⟨0, Nat.zero_le _, rfl, by simp [Dat.cntR], (by rw [Dat.markTo_zero]; exact HR.out), osl⟩
  case round =>
    obtain ⟨i, hi, rfl, rfl, hO, hoff⟩ := hrel
    rcases Nat.lt_or_ge i ks.length with hlt | hge
    · have hd : decide ((i : Int) < (ks.length : Int)) = true := by simp; omega
      have hi0 : 0 ≤ (i : Int) := by omega
      have hi1 : (i : Int) < (ks.length : Int) := by omega
      obtain ⟨x0, x1, x2, x3, x4, x5, hx⟩ : ∃ x0 x1 x2 x3 x4 x5, ks[i] = .mk x0 x1 x2 x3 x4 x5 := by cases ks[i]; exact ⟨_, _, _, _, _, _, rfl⟩
      have HX := hide hx
      have IHk := hide (show MarkPatternS x5 from by have := IH'.out i hlt; rw [hx] at this; exact this)
      have ht := Dat.cntR_take (ks.map TPattern.D) i (by simpa using hlt)
      have hle := Dat.cntR_le (ks.map TPattern.D) (i + 1)
      simp only [List.getElem_map, hx, TPattern.cnt_mk] at ht
      obtain ⟨q5, hq5⟩ : ∃ q, Dat.cntR (x5.map TPattern.D) = q := ⟨_, rfl⟩
      simp only [hq5] at ht
      obtain ⟨m, hm⟩ : ∃ m : Int, k + (Dat.cntR ((ks.map TPattern.D).take i) : Nat) = m := ⟨_, rfl⟩
      have hm0 : 0 ≤ m := by omega
      have hm1 : m + 5 + (q5 : Nat) ≤ 4611686018427387904 := by omega
      have HE := hide (show k + (Dat.cntR ((ks.map TPattern.D).take (i + 1)) : Nat) = m + 5 + (q5 : Nat) by omega)
      rw [hm]
      have HM := hide hm
      have HQ5 := hide hq5
      obtain ⟨b, o, L1, Le, L2, vs, rfl, hb1, hf1, hLe, hv, hvl, hc, hput⟩ := OwnRow.at hO.out i (by rw [Dat.markTo_length]; simpa using hlt)
      rw [Dat.markTo_get k i _ (by simpa using hlt), List.getElem_map, hx] at hv
      obtain ⟨A5, c5, L_5, hEL, rfl, g0, g1, g2, g3, g4, g5⟩ := TPattern.vals_own hv
      have hEL2 := hEL.symm
      clear hEL
      subst hEL2
      have z0 : wr.cell? ⟨b, o + i * 6, none⟩ = some (.int .i64 x0) := by simpa using hc 0 (by decide)
      have z1 : wr.cell? ⟨b, o + i * 6 + 1, none⟩ = some (.string x1) := by simpa using hc 1 (by decide)
      have z2 : wr.cell? ⟨b, o + i * 6 + 2, none⟩ = some (.int .i64 x2) := by simpa using hc 2 (by decide)
      have z3 : wr.cell? ⟨b, o + i * 6 + 3, none⟩ = some (.int .i64 x3) := by simpa using hc 3 (by decide)
      have z4 : wr.cell? ⟨b, o + i * 6 + 4, none⟩ = some (.int .i64 x4) := by simpa using hc 4 (by decide)
      have z5 : wr.cell? ⟨b, o + i * 6 + 5, none⟩ = some (.slice A5 x5.length c5) := by simpa using hc 5 (by decide)
      obtain ⟨hbL, hLeL, hbLe, hnLe, hrest⟩ := own_parts hLe HN.out
      have HNL5 := hide hnLe
      have HI5 := hide (show ∀ x, x ∈ L_5 → x ∈ (L_5) from fun x h => by simp [h])
      have hb_5 : b ∉ L_5 := fun h => hbLe (HI5.out b h)
      have G5 := hide g5
      unfold maxLen at g1
      have HP := hide hput
      have HLe := hide hLe
      have HL2 := hide hLeL
      have HRS := hide hrest
      clear hv hc hx ht hle hm hq5 hnLe g5 hput hLe hLeL hrest
      go_wp2_with (fail)
      refine (markText_any _ _ (by omega) (by omega)).mono ?_
      rintro e w1 ⟨rfl, hb101⟩
      have hz1 := hb101.size
      (try simp only [World.size_alloc, World.size_setCell, World.size_drew, World.heap_drewN] at hz1)
      have hk1 := hb101.box b (by first | (simp; done) | (simp; omega) | omega)
      have hf_1 := hb101.boxf b (by first | (simp; done) | (simp; omega) | omega)
      have hl1 : b < w1.heap.size := by omega
      go_wp2_with (fail)
      refine (IHk.out L_5 _ A5 c5 _ (OwnRow.offS (S := fun x => x ∈ L_5) (w := wr) osl (fun x hx => hx) G5.out) HNL5.out (by omega) (by rw [HQ5.out]; omega)).mono ?_
      rintro e w2 ⟨rfl, hO5, ho2⟩
      rw [HQ5.out]
      have HO5 := hide hO5
      clear hO5
      have hz2 := ho2.size
      (try simp only [World.size_alloc, World.size_setCell, World.size_drew, World.heap_drewN] at hz2)
      have hss2 := ho2.same b hb_5 (by first | (simp; done) | (simp; omega) | omega)
      have hk2 := hss2.1
      have hf_2 := hss2.2
      have hl2 : b < w2.heap.size := by omega
      have hoL2 := OffS.narrow (S' := fun x => x ∉ L) ho2 (fun x hx h => hx (HL2.out x (HI5.out x h)))
      have hoE2 := OffS.narrow (S' := fun x => x ∉ (L_5) ∧ x ≠ b) ho2 (fun x hx h => hx.1 (HI5.out x h))
      clear hss2 ho2
      go_wp2_with (fail)
      go_roundw
      case rel =>
       refine ⟨i + 1, by omega, by go_num, by rw [HE.out]; first | done | go_num, ?_, osl⟩
       rw [← Dat.markTo_succ k i _ (by simpa using hlt)]
       refine hide ?_
       rw [List.getElem_map, HX.out, HM.out]
       refine HP.out _ _ [.int .i64 (m), .string (markT (m + 1)), .int .i64 (m + 1 + 1), .int .i64 (m + 1 + 1 + 1), .int .i64 (m + 1 + 1 + 1 + 1), .slice A5 x5.length c5] (by (try simp only [← HQ5.out]); exact TPattern.mark_own (m := m) (x0 := x0) (x1 := x1) (x2 := x2) (x3 := x3) (x4 := x4) (x5 := x5) (A5 := A5) (c5 := c5) (L5 := L_5) hm0 (by (try simp only [HQ5.out]); omega) (by (try simp only [HQ5.out]); exact OwnRow.offS (S := fun x => x ∈ L_5) (w := w2) osl (fun x hx => hx) HO5.out)) rfl (by (try simp only [World.size_alloc, World.size_setCell, World.size_drew, World.heap_drewN]); omega) (fun z hz => ?_) (fun z => by simp [go_sem, hk1, hf_1, hk2, hf_2, hf1]) (fun z hz => ?_) (cells_of6 (by simp [go_sem, hk1, hf_1, hk2, hf_2, z0, z1, z2, z3, z4, z5]) (by simp [go_sem, hk1, hf_1, hk2, hf_2, z0, z1, z2, z3, z4, z5]) (by simp [go_sem, hk1, hf_1, hk2, hf_2, z0, z1, z2, z3, z4, z5]) (by simp [go_sem, hk1, hf_1, hk2, hf_2, z0, z1, z2, z3, z4, z5]) (by simp [go_sem, hk1, hf_1, hk2, hf_2, z0, z1, z2, z3, z4, z5]) (by simp [go_sem, hk1, hf_1, hk2, hf_2, z0, z1, z2, z3, z4, z5]))
       · exact OffS.same (S := fun x => x ∉ (L_5) ∧ x ≠ b) (w := wr) osl z ⟨(HRS.out z hz).1, (HRS.out z hz).2.1⟩ (hO.out.lt z (HRS.out z hz).2.2)
       · have n0 : z ≠ o + i * 6 := by omega
         have n1 : z ≠ o + i * 6 + 1 := by omega
         have n2 : z ≠ o + i * 6 + 2 := by omega
         have n3 : z ≠ o + i * 6 + 3 := by omega
         have n4 : z ≠ o + i * 6 + 4 := by omega
         have n5 : z ≠ o + i * 6 + 5 := by omega
         simp [go_sem, hk1, hf_1, hk2, hf_2, n0, n1, n2, n3, n4, n5]
      case measure => simp [intOf]; omega
    · have hd : decide ((i : Int) < (ks.length : Int)) = false := by simp; omega
      obtain rfl : i = ks.length := by omega
      have HO2 := hide (show OwnRow wr L 6 A c (Dat.markR k (ks.map TPattern.D)) from by have := hO.out; rw [Dat.markTo_all _ _ _ (by simp)] at this; exact this)
      go_wp2_with (fail)
      go_returns
      rw [List.take_of_length_le (by simp)]
      exact ⟨rfl, HO2.out, hoff⟩
theorem markPattern_kids : ∀ t : TPattern, MarkPatternS t.kids := TPattern.ind fun x0 x1 x2 x3 x4 x5 IH => markPatternS_of x5 fun i hi => IH i hi
theorem markPatternS_any (ks : List TPattern) : MarkPatternS ks := markPatternS_of ks fun i hi => markPattern_kids ks[i]
set_option maxHeartbeats 2000000 in
theorem markPattern_any (t : TPattern) (L : List Nat) (w : World) (vs : List Value) (k : Int) (hv : Dat.OwnVals w L t.D vs) (hnd : L.Nodup) (h0 : 0 ≤ k) (hb : k + (Dat.cntC t.D : Nat) ≤ 4611686018427387904) :
    Calls Try.prog 24 #[.agg vs.toArray, .int .i64 k] w fun e w' => (∃ k' : Int, 0 ≤ k' ∧ e = .returned (.int .i64 k')) ∧ OffS (fun x => x ∉ L) w w' := by
  obtain ⟨x0, x1, x2, x3, x4, x5⟩ := t
  rw [TPattern.cnt_mk] at hb
  obtain ⟨A5, c5, L_5, hLL, rfl, -, -, -, -, -, g5⟩ := TPattern.vals_own hv
  clear hv
  have hLL2 := hLL.symm
  clear hLL
  subst hLL2
  obtain ⟨q5, hq5⟩ : ∃ q, Dat.cntR (x5.map TPattern.D) = q := ⟨_, rfl⟩
  simp only [hq5] at hb
  have HNL5 := hide hnd
  clear hnd
  have HI5 := hide (show ∀ x, x ∈ L_5 → x ∈ (L_5) from fun x h => by simp [h])
  have hb_5 : w.heap.size ∉ L_5 := fun h => Nat.lt_irrefl _ (g5.lt _ h)
  have G5 := hide g5
  have HQ5 := hide hq5
  clear g5 hq5
  go_enter Try.func24, Try.ntmps24
  go_wp2_with (fail)
  refine (markPatternS_any x5 L_5 _ A5 c5 _ (OwnRow.offS (S := fun x => x ∈ L_5) (w := w) osl (fun x hx => hx) G5.out) HNL5.out (by omega) (by rw [HQ5.out]; omega)).mono ?_
  rintro e w1 ⟨rfl, -, ho1⟩
  rw [HQ5.out]
  have hz1 := ho1.size
  (try simp only [World.size_alloc, World.size_setCell, World.size_drew, World.heap_drewN] at hz1)
  have hss1 := ho1.same w.heap.size hb_5 (by first | (simp; done) | (simp; omega) | omega)
  have hk1 := hss1.1
  have hf_1 := hss1.2
  have hl1 : w.heap.size < w1.heap.size := by omega
  have hoL1 := OffS.narrow (S' := fun x => x ∉ (L_5)) ho1 (fun x hx h => hx (HI5.out x h))
  clear hss1 ho1
  go_wp2_with (fail)
  go_returns
  exact ⟨⟨_, by omega, rfl⟩, osl⟩
end Go.Proofs.Ytdjbfneniohaaaa
