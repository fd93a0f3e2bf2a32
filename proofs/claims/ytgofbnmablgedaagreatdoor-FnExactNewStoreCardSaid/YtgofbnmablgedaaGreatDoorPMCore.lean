/- Own data of Core: copies, marks. -/
import Derived.Test.YtgofbnmablgedaaGreatDoorPHCore
import Derived.Test.YtgofbnmablgedaaGreatDoorPTk
import Derived.Test.YtgofbnmablgedaaGreatDoorPMStringS
namespace Go.Proofs.YtgofbnmablgedaaGreatDoor
set_option linter.unusedVariables false
set_option linter.unusedSimpArgs false
set_option maxRecDepth 100000
open Go.RowKit
theorem TCore.vals_own {w : World} {L : List Nat} {x0 : Int} {x1 : Int} {x2 : Int} {x3 : Int} {x4 : ByteArray} {x5 : List TCore} {vs : List Value} (h : Dat.OwnVals w L (TCore.mk x0 x1 x2 x3 x4 x5).D vs) : ∃ A5 c5 L5, L = L5 ∧ vs = [.int .i64 x0, .int .i64 x1, .int .i64 x2, .int .i64 x3, .string x4, .slice A5 x5.length c5] ∧ InI x0 ∧ InI x1 ∧ InI x2 ∧ InI x3 ∧ x4.size ≤ maxLen ∧ OwnRow w L5 6 A5 c5 (x5.map TCore.D) := by
 rw [TCore.D_mk] at h
 have hl := h.length
 match vs, hl, h with
 | [u0, u1, u2, u3, u4, u5], _, h =>
 simp only [Dat.OwnVals] at h
 obtain ⟨M0, N0, e0, h0, M1, N1, e1, h1, M2, N2, e2, h2, M3, N3, e3, h3, M4, N4, e4, h4, M5, N5, e5, h5, en⟩ := h
 subst en
 subst e5
 subst e4
 subst e3
 subst e2
 subst e1
 subst e0
 obtain ⟨rfl, rfl, g0⟩ := Dat.own_int.1 h0
 obtain ⟨rfl, rfl, g1⟩ := Dat.own_int.1 h1
 obtain ⟨rfl, rfl, g2⟩ := Dat.own_int.1 h2
 obtain ⟨rfl, rfl, g3⟩ := Dat.own_int.1 h3
 obtain ⟨rfl, rfl, g4⟩ := Dat.own_str.1 h4
 obtain ⟨A5, c5, rfl, g5⟩ := Dat.own_row.1 h5
 exact ⟨A5, c5, M5, by simp only [List.nil_append, List.append_nil], by simp only [List.length_map], g0, g1, g2, g3, g4, g5⟩
theorem TCore.own_mk {w : World} {x0 : Int} {x1 : Int} {x2 : Int} {x3 : Int} {x4 : ByteArray} {x5 : List TCore} {A5 : Option Addr} {c5 : Nat} {L5 : List Nat} (h0 : InI x0) (h1 : InI x1) (h2 : InI x2) (h3 : InI x3) (h4 : x4.size ≤ maxLen) (h5 : OwnRow w L5 6 A5 c5 (x5.map TCore.D)) : Dat.OwnVals w (L5) (TCore.mk x0 x1 x2 x3 x4 x5).D [.int .i64 x0, .int .i64 x1, .int .i64 x2, .int .i64 x3, .string x4, .slice A5 x5.length c5] := by
 rw [TCore.D_mk]
 exact ⟨[], _, (List.nil_append _).symm, Dat.own_int.2 ⟨rfl, rfl, h0⟩, ⟨[], _, (List.nil_append _).symm, Dat.own_int.2 ⟨rfl, rfl, h1⟩, ⟨[], _, (List.nil_append _).symm, Dat.own_int.2 ⟨rfl, rfl, h2⟩, ⟨[], _, (List.nil_append _).symm, Dat.own_int.2 ⟨rfl, rfl, h3⟩, ⟨[], _, (List.nil_append _).symm, Dat.own_str.2 ⟨rfl, rfl, h4⟩, ⟨L5, _, (List.append_nil _).symm, Dat.own_row.2 ⟨_, _, by simp only [List.length_map], h5⟩, rfl⟩⟩⟩⟩⟩⟩
def ToCoreL (t : TCore) : Prop := ∀ (S : Nat → Prop) (w : World) (vs : List Value), Dat.HoldVals w S t.D vs → Dat.wtL t.D ≤ 1048576 →
 Calls Tryz.prog 75 #[.agg vs.toArray] w (MadeVL w t.D)
set_option maxHeartbeats 800000 in
theorem toCoreS_ofL (ks : List TCore) (IH : ∀ (i : Nat) (hi : i < ks.length), ToCoreL ks[i]) (S : Nat → Prop) (w : World) (A : Option Addr) (c : Nat) (hR : Row w S 6 A c (ks.map TCore.D)) (hwt : ks.length + Dat.wtR (ks.map TCore.D) ≤ 1048576) :
    Calls Tryz.prog 91 #[.slice A ks.length c] w (MadeRL w 6 (ks.map TCore.D)) := by
  have IH' := hide IH
  have HR := hide hR
  have hlen := hR.1
  have hcm := hR.2.1
  simp only [List.length_map] at hlen
  unfold maxLen at hcm
  clear IH hR
  obtain ⟨cur, hcur, hmk⟩ := make_rows (P := Tryz.prog) (t := 51) (e := 53) (k := 6) ks.length (by omega) Tryz.underlying51 (by kernel_rfl)
  have HC := hide hcur
  clear hcur
  have HW := hide hwt
  clear hwt
  go_enter Tryz.func91, Tryz.ntmps91
  go_wp2_with (fail)
  have HF := hide (FillO.start w 53 6 ks.length HC.out)
  clear hmk
  go_loopw [4] (fun iv wr => ∃ k : Nat, k ≤ ks.length ∧ iv = .int .i64 k ∧ FillO wr w.heap.size 53 6 ks.length ((ks.map TCore.D).take k) ∧ Bel w wr) (fun iv _ => ks.length - (intOf iv).toNat)
  case atStart => exact ⟨0, Nat.zero_le _, rfl, HF.out, bl⟩
  case round =>
    obtain ⟨k, hk, rfl, hF, hbw⟩ := hrel
    have HF1 := hide hF
    have hgl := hF.lt
    clear hF HF
    rcases Nat.lt_or_ge k ks.length with hlt | hge
    · have hd : decide ((k : Int) < (ks.length : Int)) = true := by simp; omega
      have hi0 : 0 ≤ (k : Int) := by omega
      have hi1 : (k : Int) < (ks.length : Int) := by omega
      (obtain ⟨b1, o1, x1_0, x1_1, x1_2, x1_3, x1_4, x1_5, A1_5, C1_5, hA1, hS1, hl1, hx1, hv1, g1_0, g1_1, g1_2, g1_3, g1_4, g1_5, c1_0, c1_1, c1_2, c1_3, c1_4, c1_5⟩ := TCore.at HR.out k hlt; subst hA1; have HV1 := hide (Dat.HoldVals.bel hbw hv1); have hh1 := hbw.box b1 hl1; have hw1 := Nat.lt_of_lt_of_le hl1 (Bel.size hbw); replace c1_0 := (hh1 _).trans c1_0; replace c1_1 := (hh1 _).trans c1_1; replace c1_2 := (hh1 _).trans c1_2; replace c1_3 := (hh1 _).trans c1_3; replace c1_4 := (hh1 _).trans c1_4; replace c1_5 := (hh1 _).trans c1_5; have HX1 := hide hx1; have GR1_5 := hide g1_5; clear hh1 hv1 hx1 hS1 g1_5)
      have hw := hide (Dat.wtR_take (ks.map TCore.D) k (by simpa using hlt))
      have hw' := hide (Dat.wtR_le (ks.map TCore.D) (k + 1))
      have hwk : Dat.wtL ks[k].D ≤ 1048576 := by have a := hw.out; have b := hw'.out; have c := HW.out; rw [List.getElem_map] at a; omega
      go_wp2_with (fail)
      refine (IH'.out k hlt S _ _ (Dat.HoldVals.bel bl HV1.out) hwk).mono ?_
      rintro e w1 ⟨vs', L', rfl, hv', hnd', hlo', hb1⟩
      have HN' := hide hnd'
      have HL' := hide hlo'
      clear hnd' hlo'
      have HV' := hide hv'
      rw [HX1.out] at hv'
      obtain ⟨A5, c5, rfl, -⟩ := TCore.vals (Dat.OwnVals.vals (S := fun _ => True) (fun _ _ => trivial) hv')
      clear hv'
      obtain ⟨y0, e0⟩ := (FillO.bel HF1.out (show Bel _ w1 from bl)).cell (i := k * 6) (by omega)
      obtain ⟨y1, e1⟩ := (FillO.bel HF1.out (show Bel _ w1 from bl)).cell (i := k * 6 + 1) (by omega)
      obtain ⟨y2, e2⟩ := (FillO.bel HF1.out (show Bel _ w1 from bl)).cell (i := k * 6 + 2) (by omega)
      obtain ⟨y3, e3⟩ := (FillO.bel HF1.out (show Bel _ w1 from bl)).cell (i := k * 6 + 3) (by omega)
      obtain ⟨y4, e4⟩ := (FillO.bel HF1.out (show Bel _ w1 from bl)).cell (i := k * 6 + 4) (by omega)
      obtain ⟨y5, e5⟩ := (FillO.bel HF1.out (show Bel _ w1 from bl)).cell (i := k * 6 + 5) (by omega)
      have f0 := (FillO.bel HF1.out (show Bel _ w1 from bl)).free (k * 6)
      have f1 := (FillO.bel HF1.out (show Bel _ w1 from bl)).free (k * 6 + 1)
      have f2 := (FillO.bel HF1.out (show Bel _ w1 from bl)).free (k * 6 + 2)
      have f3 := (FillO.bel HF1.out (show Bel _ w1 from bl)).free (k * 6 + 3)
      have f4 := (FillO.bel HF1.out (show Bel _ w1 from bl)).free (k * 6 + 4)
      have f5 := (FillO.bel HF1.out (show Bel _ w1 from bl)).free (k * 6 + 5)
      go_wp2_with (fail)
      go_roundw
      case rel =>
       exact ⟨k + 1, by omega, by go_num, FillO.snoc6 HF1.out hlt rfl bl (Dat.OwnVals.bel bl HV'.out) HN'.out (fun b hb => HL'.out b hb), bl⟩
      case measure => simp [intOf]; omega
    · have hd : decide ((k : Int) < (ks.length : Int)) = false := by simp; omega
      go_wp2_with (fail)
      go_returns
      obtain ⟨L, q1, q2, q3⟩ := FillO.done HF1.out hge rfl (by unfold maxLen; omega)
      exact ⟨some ⟨w.heap.size, 0, none⟩, ks.length, L, by rw [List.length_map]; rfl, q1, q2, q3, hbw⟩
set_option maxHeartbeats 2000000 in
theorem toCoreL_any : ∀ t : TCore, ToCoreL t := by
 refine TCore.ind fun x0 x1 x2 x3 x4 x5 IH => ?_
 intro S w vs hv hwt
 obtain ⟨A5, c5, rfl, g0, g1, g2, g3, g4, hR5⟩ := TCore.vals hv
 have R5 := hide hR5
 have IH' := hide IH
 rw [TCore.D_mk] at hwt
 simp only [Dat.wtL, Dat.wt, List.length_map] at hwt
 have hw5 : x5.length + Dat.wtR (x5.map TCore.D) ≤ 1048576 := by omega
 clear hv hwt IH hR5
 unfold maxLen at g4
 go_enter Tryz.func75, Tryz.ntmps75
 go_wp2_with (fail)
 refine (toCoreS_ofL x5 IH'.out S _ _ _ (Row.bel bl R5.out) hw5).mono ?_
 rintro e w1 ⟨B5, d5, L5, rfl, hQ5, hN5, hL5, hb1⟩
 (have hz1 := hb1.sz; obtain ⟨hk1_0, hf1_0, hl1_0, hn1_0⟩ := hb1.lay (w.heap.size); obtain ⟨hk1_1, hf1_1, hl1_1, hn1_1⟩ := hb1.lay (w.heap.size + 1); obtain ⟨hk1_2, hf1_2, hl1_2, hn1_2⟩ := hb1.lay (w.heap.size + 1 + 1))
 have N5 := hide hN5
 have V5 := hide (show ∀ b, b ∈ L5 → w.heap.size + 2 < b from fun b hb => by have := hL5 b hb; (try simp only [World.size_alloc, World.size_setCell, World.size_drew, World.heap_drewN] at this); omega)
 have U5 := hide hL5
 have T5 := hide (hQ5.lt)
 have Q5 := hide hQ5
 clear hQ5 hN5 hL5
 go_wp2_with (fail)
 exact bodyPost_ret (v := .agg #[.int .i64 x0, .int .i64 x1, .int .i64 x2, .int .i64 x3, .string x4, .slice B5 x5.length d5]) (by simp [results, Tryz.results75, go_sem, hk1_1, hf1_1, hk1_2, hf1_2]) rfl
  ⟨[.int .i64 x0, .int .i64 x1, .int .i64 x2, .int .i64 x3, .string x4, .slice B5 x5.length d5], L5, rfl, TCore.own_mk g0 g1 g2 g3 (by unfold maxLen; omega) (OwnRow.offS (S := fun b => w.heap.size + 2 < b) osl (fun b hb => V5.out b hb) Q5.out), N5.out, fun b hb => by have := V5.out b hb; omega, bl⟩
theorem TCore.cnt_mk {x0 : Int} {x1 : Int} {x2 : Int} {x3 : Int} {x4 : ByteArray} {x5 : List TCore} : Dat.cntC (TCore.mk x0 x1 x2 x3 x4 x5).D = 5 + Dat.cntR (x5.map TCore.D) := by
 simp only [TCore.D_mk, Dat.cntC, Dat.cnt]; (try omega)
theorem TCore.mark_own {w : World} {m : Int} {x0 : Int} {x1 : Int} {x2 : Int} {x3 : Int} {x4 : ByteArray} {x5 : List TCore} {A5 : Option Addr} {c5 : Nat} {L5 : List Nat} (h0 : 0 ≤ m) (hm : m + (5 + Dat.cntR (x5.map TCore.D) : Nat) ≤ 4611686018427387904) (h5 : OwnRow w L5 6 A5 c5 (Dat.markR (m + 1 + 1 + 1 + 1 + 1) (x5.map TCore.D))) : Dat.OwnVals w (L5) (Dat.markC m (TCore.mk x0 x1 x2 x3 x4 x5).D) [.int .i64 (m), .int .i64 (m + 1), .int .i64 (m + 1 + 1), .int .i64 (m + 1 + 1 + 1), .string (markT (m + 1 + 1 + 1 + 1)), .slice A5 x5.length c5] := by
 have e : Dat.markC m (TCore.mk x0 x1 x2 x3 x4 x5).D = [.int (m), .int (m + 1), .int (m + 1 + 1), .int (m + 1 + 1 + 1), .str (markT (m + 1 + 1 + 1 + 1)), .row 6 (Dat.markR (m + 1 + 1 + 1 + 1 + 1) (x5.map TCore.D))] := by
  simp only [TCore.D_mk, Dat.markC, Dat.mark, Dat.cnt]
  first | done | rfl | (simp only [Nat.cast_one]; done) | (simp; done) | (push_cast; simp)
 rw [e]
 exact ⟨[], _, (List.nil_append _).symm, Dat.own_int.2 ⟨rfl, rfl, InI.of_le (by omega) (by omega)⟩, ⟨[], _, (List.nil_append _).symm, Dat.own_int.2 ⟨rfl, rfl, InI.of_le (by omega) (by omega)⟩, ⟨[], _, (List.nil_append _).symm, Dat.own_int.2 ⟨rfl, rfl, InI.of_le (by omega) (by omega)⟩, ⟨[], _, (List.nil_append _).symm, Dat.own_int.2 ⟨rfl, rfl, InI.of_le (by omega) (by omega)⟩, ⟨[], _, (List.nil_append _).symm, Dat.own_str.2 ⟨rfl, rfl, Nat.le_trans (markT_size _) (by unfold maxLen; omega)⟩, ⟨L5, _, (List.append_nil _).symm, Dat.own_row.2 ⟨_, _, by simp only [Dat.markR_length, List.length_map], h5⟩, rfl⟩⟩⟩⟩⟩⟩
theorem TCore.mcnt_le : ∀ t : TCore, Dat.cntC t.D ≤ 16 + 16 * Dat.wtL t.D := by
 refine TCore.ind fun x0 x1 x2 x3 x4 x5 IH => ?_
 have r5 := cntR_le_of TCore.D x5 (IH)
 rw [TCore.cnt_mk, TCore.D_mk]
 simp only [Dat.wtL, Dat.wt, List.length_map]
 omega
theorem TCore.mark_vals {w : World} {S : Nat → Prop} {m : Int} {x0 : Int} {x1 : Int} {x2 : Int} {x3 : Int} {x4 : ByteArray} {x5 : List TCore} {vs : List Value} (h : Dat.HoldVals w S (Dat.markC m (TCore.mk x0 x1 x2 x3 x4 x5).D) vs) : ∃ A5 c5, vs = [.int .i64 (m), .int .i64 (m + 1), .int .i64 (m + 1 + 1), .int .i64 (m + 1 + 1 + 1), .string (markT (m + 1 + 1 + 1 + 1)), .slice A5 x5.length c5] ∧ Row w S 6 A5 c5 (Dat.markR (m + 1 + 1 + 1 + 1 + 1) (x5.map TCore.D)) := by
 have e : Dat.markC m (TCore.mk x0 x1 x2 x3 x4 x5).D = [.int (m), .int (m + 1), .int (m + 1 + 1), .int (m + 1 + 1 + 1), .str (markT (m + 1 + 1 + 1 + 1)), .row 6 (Dat.markR (m + 1 + 1 + 1 + 1 + 1) (x5.map TCore.D))] := by
  simp only [TCore.D_mk, Dat.markC, Dat.mark, Dat.cnt]
  first | done | rfl | (simp only [Nat.cast_one]; done) | (simp; done) | (push_cast; simp)
 rw [e] at h
 match vs, h with
 | [u0, u1, u2, u3, u4, u5], h =>
 simp only [Dat.HoldVals] at h
 obtain ⟨h0, h1, h2, h3, h4, h5, -⟩ := h
 obtain ⟨rfl, -⟩ := Dat.holds_int.1 h0
 obtain ⟨rfl, -⟩ := Dat.holds_int.1 h1
 obtain ⟨rfl, -⟩ := Dat.holds_int.1 h2
 obtain ⟨rfl, -⟩ := Dat.holds_int.1 h3
 obtain ⟨rfl, -⟩ := Dat.holds_str.1 h4
 obtain ⟨A5, c5, rfl, g5⟩ := Dat.holds_row.1 h5
 exact ⟨A5, c5, by simp only [Dat.markR_length, List.length_map], g5⟩
def TCore.kids : TCore → List TCore | .mk x0 x1 x2 x3 x4 x5 => x5
def MarkCoreS (ks : List TCore) : Prop := ∀ (L : List Nat) (w : World) (A : Option Addr) (c : Nat) (k : Int) (hR : OwnRow w L 6 A c (ks.map TCore.D)) (hnd : L.Nodup) (h0 : 0 ≤ k) (hb : k + (Dat.cntR (ks.map TCore.D) : Nat) ≤ 4611686018427387904), Calls Tryz.prog 65 #[.slice A ks.length c, .int .i64 k] w (Marked w L 6 A c k (ks.map TCore.D))
set_option maxHeartbeats 2000000 in
theorem markCoreS_of (ks : List TCore) (IH : ∀ (i : Nat) (hi : i < ks.length), MarkCoreS ks[i].kids) (L : List Nat) (w : World) (A : Option Addr) (c : Nat) (k : Int) (hR : OwnRow w L 6 A c (ks.map TCore.D)) (hnd : L.Nodup) (h0 : 0 ≤ k) (hb : k + (Dat.cntR (ks.map TCore.D) : Nat) ≤ 4611686018427387904) :
    Calls Tryz.prog 65 #[.slice A ks.length c, .int .i64 k] w (Marked w L 6 A c k (ks.map TCore.D)) := by
  have IH' := hide IH
  clear IH
  have HR := hide hR
  have HN := hide hnd
  have hlen := hR.1
  have hcm := hR.2.1
  simp only [List.length_map] at hlen
  unfold maxLen at hcm
  clear hR hnd
  go_enter Tryz.func65, Tryz.ntmps65
  go_wp2_with (fail)
  go_loopw [1, 5] (fun kv iv wr => ∃ i : Nat, i ≤ ks.length ∧ iv = .int .i64 i ∧ kv = .int .i64 (k + (Dat.cntR ((ks.map TCore.D).take i) : Nat)) ∧ Hid (OwnRow wr L 6 A c (Dat.markTo k i (ks.map TCore.D))) ∧ OffS (fun x => x ∉ L) w wr) (fun _ iv _ => ks.length - (intOf iv).toNat)
  case atStart => exact ⟨0, Nat.zero_le _, rfl, by simp [Dat.cntR], (by rw [Dat.markTo_zero]; exact HR.out), osl⟩
  case round =>
    obtain ⟨i, hi, rfl, rfl, hO, hoff⟩ := hrel
    rcases Nat.lt_or_ge i ks.length with hlt | hge
    · have hd : decide ((i : Int) < (ks.length : Int)) = true := by simp; omega
      have hi0 : 0 ≤ (i : Int) := by omega
      have hi1 : (i : Int) < (ks.length : Int) := by omega
      obtain ⟨x0, x1, x2, x3, x4, x5, hx⟩ : ∃ x0 x1 x2 x3 x4 x5, ks[i] = .mk x0 x1 x2 x3 x4 x5 := by cases ks[i]; exact ⟨_, _, _, _, _, _, rfl⟩
      have HX := hide hx
      have IHk := hide (show MarkCoreS x5 from by have := IH'.out i hlt; rw [hx] at this; exact this)
      have ht := Dat.cntR_take (ks.map TCore.D) i (by simpa using hlt)
      have hle := Dat.cntR_le (ks.map TCore.D) (i + 1)
      simp only [List.getElem_map, hx, TCore.cnt_mk] at ht
      obtain ⟨q5, hq5⟩ : ∃ q, Dat.cntR (x5.map TCore.D) = q := ⟨_, rfl⟩
      simp only [hq5] at ht
      obtain ⟨m, hm⟩ : ∃ m : Int, k + (Dat.cntR ((ks.map TCore.D).take i) : Nat) = m := ⟨_, rfl⟩
      have hm0 : 0 ≤ m := by omega
      have hm1 : m + 5 + (q5 : Nat) ≤ 4611686018427387904 := by omega
      have HE := hide (show k + (Dat.cntR ((ks.map TCore.D).take (i + 1)) : Nat) = m + 5 + (q5 : Nat) by omega)
      rw [hm]
      have HM := hide hm
      have HQ5 := hide hq5
      obtain ⟨b, o, L1, Le, L2, vs, rfl, hb1, hf1, hLe, hv, hvl, hc, hput⟩ := OwnRow.at hO.out i (by rw [Dat.markTo_length]; simpa using hlt)
      rw [Dat.markTo_get k i _ (by simpa using hlt), List.getElem_map, hx] at hv
      obtain ⟨A5, c5, L_5, hEL, rfl, g0, g1, g2, g3, g4, g5⟩ := TCore.vals_own hv
      have hEL2 := hEL.symm
      clear hEL
      subst hEL2
      have z0 : wr.cell? ⟨b, o + i * 6, none⟩ = some (.int .i64 x0) := by simpa using hc 0 (by decide)
      have z1 : wr.cell? ⟨b, o + i * 6 + 1, none⟩ = some (.int .i64 x1) := by simpa using hc 1 (by decide)
      have z2 : wr.cell? ⟨b, o + i * 6 + 2, none⟩ = some (.int .i64 x2) := by simpa using hc 2 (by decide)
      have z3 : wr.cell? ⟨b, o + i * 6 + 3, none⟩ = some (.int .i64 x3) := by simpa using hc 3 (by decide)
      have z4 : wr.cell? ⟨b, o + i * 6 + 4, none⟩ = some (.string x4) := by simpa using hc 4 (by decide)
      have z5 : wr.cell? ⟨b, o + i * 6 + 5, none⟩ = some (.slice A5 x5.length c5) := by simpa using hc 5 (by decide)
      obtain ⟨hbL, hLeL, hbLe, hnLe, hrest⟩ := own_parts hLe HN.out
      have HNL5 := hide hnLe
      have HI5 := hide (show ∀ x, x ∈ L_5 → x ∈ (L_5) from fun x h => by simp [h])
      have hb_5 : b ∉ L_5 := fun h => hbLe (HI5.out b h)
      have G5 := hide g5
      unfold maxLen at g4
      have HP := hide hput
      have HLe := hide hLe
      have HL2 := hide hLeL
      have HRS := hide hrest
      clear hv hc hx ht hle hm hq5 hnLe g5 hput hLe hLeL hrest
      go_wp2_with (fail)
      refine (markText_any _ _ (by omega) (by omega)).mono ?_
      rintro e w1 ⟨rfl, hb101⟩
      have hz1 := hb101.size
      (try simp only [World.size_alloc, World.size_setCell, World.size_drew, World.heap_drewN] at hz1)
      have hk1 := hb101.box b (by first | (simp; done) | (simp; omega) | omega)
      have hf_1 := hb101.boxf b (by first | (simp; done) | (simp; omega) | omega)
      have hl1 : b < w1.heap.size := by omega
      go_wp2_with (fail)
      refine (IHk.out L_5 _ A5 c5 _ (OwnRow.offS (S := fun x => x ∈ L_5) (w := wr) osl (fun x hx => hx) G5.out) HNL5.out (by omega) (by rw [HQ5.out]; omega)).mono ?_
      rintro e w2 ⟨rfl, hO5, ho2⟩
      rw [HQ5.out]
      have HO5 := hide hO5
      clear hO5
      have hz2 := ho2.size
      (try simp only [World.size_alloc, World.size_setCell, World.size_drew, World.heap_drewN] at hz2)
      have hss2 := ho2.same b hb_5 (by first | (simp; done) | (simp; omega) | omega)
      have hk2 := hss2.1
      have hf_2 := hss2.2
      have hl2 : b < w2.heap.size := by omega
      have hoL2 := OffS.narrow (S' := fun x => x ∉ L) ho2 (fun x hx h => hx (HL2.out x (HI5.out x h)))
      have hoE2 := OffS.narrow (S' := fun x => x ∉ (L_5) ∧ x ≠ b) ho2 (fun x hx h => hx.1 (HI5.out x h))
      clear hss2 ho2
      go_wp2_with (fail)
      go_roundw
      case rel =>
       refine ⟨i + 1, by omega, by go_num, by rw [HE.out]; first | done | go_num, ?_, osl⟩
       rw [← Dat.markTo_succ k i _ (by simpa using hlt)]
       refine hide ?_
       rw [List.getElem_map, HX.out, HM.out]
       refine HP.out _ _ [.int .i64 (m), .int .i64 (m + 1), .int .i64 (m + 1 + 1), .int .i64 (m + 1 + 1 + 1), .string (markT (m + 1 + 1 + 1 + 1)), .slice A5 x5.length c5] (by (try simp only [← HQ5.out]); exact TCore.mark_own (m := m) (x0 := x0) (x1 := x1) (x2 := x2) (x3 := x3) (x4 := x4) (x5 := x5) (A5 := A5) (c5 := c5) (L5 := L_5) hm0 (by (try simp only [HQ5.out]); omega) (by (try simp only [HQ5.out]); exact OwnRow.offS (S := fun x => x ∈ L_5) (w := w2) osl (fun x hx => hx) HO5.out)) rfl (by (try simp only [World.size_alloc, World.size_setCell, World.size_drew, World.heap_drewN]); omega) (fun z hz => ?_) (fun z => by simp [go_sem, hk1, hf_1, hk2, hf_2, hf1]) (fun z hz => ?_) (cells_of6 (by simp [go_sem, hk1, hf_1, hk2, hf_2, z0, z1, z2, z3, z4, z5]) (by simp [go_sem, hk1, hf_1, hk2, hf_2, z0, z1, z2, z3, z4, z5]) (by simp [go_sem, hk1, hf_1, hk2, hf_2, z0, z1, z2, z3, z4, z5]) (by simp [go_sem, hk1, hf_1, hk2, hf_2, z0, z1, z2, z3, z4, z5]) (by simp [go_sem, hk1, hf_1, hk2, hf_2, z0, z1, z2, z3, z4, z5]) (by simp [go_sem, hk1, hf_1, hk2, hf_2, z0, z1, z2, z3, z4, z5]))
       · exact OffS.same (S := fun x => x ∉ (L_5) ∧ x ≠ b) (w := wr) osl z ⟨(HRS.out z hz).1, (HRS.out z hz).2.1⟩ (hO.out.lt z (HRS.out z hz).2.2)
       · have n0 : z ≠ o + i * 6 := by omega
         have n1 : z ≠ o + i * 6 + 1 := by omega
         have n2 : z ≠ o + i * 6 + 2 := by omega
         have n3 : z ≠ o + i * 6 + 3 := by omega
         have n4 : z ≠ o + i * 6 + 4 := by omega
         have n5 : z ≠ o + i * 6 + 5 := by omega
         simp [go_sem, hk1, hf_1, hk2, hf_2, n0, n1, n2, n3, n4, n5]
      case measure => simp [intOf]; omega
    · have hd : decide ((i : Int) < (ks.length : Int)) = false := by simp; omega
      obtain rfl : i = ks.length := by omega
      have HO2 := hide (show OwnRow wr L 6 A c (Dat.markR k (ks.map TCore.D)) from by have := hO.out; rw [Dat.markTo_all _ _ _ (by simp)] at this; exact this)
      go_wp2_with (fail)
      go_returns
      rw [List.take_of_length_le (by simp)]
      exact ⟨rfl, HO2.out, hoff⟩
theorem markCore_kids : ∀ t : TCore, MarkCoreS t.kids := TCore.ind fun x0 x1 x2 x3 x4 x5 IH => markCoreS_of x5 fun i hi => IH i hi
theorem markCoreS_any (ks : List TCore) : MarkCoreS ks := markCoreS_of ks fun i hi => markCore_kids ks[i]
end Go.Proofs.YtgofbnmablgedaaGreatDoor
namespace Go.Proofs.YtgofbnmablgedaaGreatDoor
set_option linter.unusedVariables false
set_option linter.unusedSimpArgs false
set_option maxRecDepth 100000
open Go.RowKit
set_option maxHeartbeats 4000000 in
theorem TRoutine.vals_own {w : World} {L : List Nat} {x0 : ByteArray} {x1 : Int} {x2 : List ByteArray} {x3 : Int} {x4 : Int} {x5 : Int} {x6 : Int} {x7 : ByteArray} {x8 : List TCore} {vs : List Value} (h : Dat.OwnVals w L (TRoutine.mk x0 x1 x2 x3 x4 x5 x6 x7 x8).D vs) : ∃ A2 c2 L2 A8 c8 L8, L = L2 ++ L8 ∧ vs = [.string x0, .int .i64 x1, .slice A2 x2.length c2, .int .i64 x3, .int .i64 x4, .int .i64 x5, .int .i64 x6, .string x7, .slice A8 x8.length c8] ∧ x0.size ≤ maxLen ∧ InI x1 ∧ OwnRow w L2 1 A2 c2 (x2.map (fun x => [Dat.str x])) ∧ InI x3 ∧ InI x4 ∧ InI x5 ∧ InI x6 ∧ x7.size ≤ maxLen ∧ OwnRow w L8 6 A8 c8 (x8.map TCore.D) := by
 rw [TRoutine.D_mk] at h
 have hl := h.length
 obtain ⟨u0, u1, u2, u3, u4, u5, u6, u7, u8, rfl⟩ := lst9 (hl.trans rfl)
 clear hl
 simp only [Dat.OwnVals] at h
 obtain ⟨M0, N0, e0, h0, M1, N1, e1, h1, M2, N2, e2, h2, M3, N3, e3, h3, M4, N4, e4, h4, M5, N5, e5, h5, M6, N6, e6, h6, M7, N7, e7, h7, M8, N8, e8, h8, en⟩ := h
 subst en
 subst e8
 subst e7
 subst e6
 subst e5
 subst e4
 subst e3
 subst e2
 subst e1
 subst e0
 obtain ⟨rfl, rfl, g0⟩ := Dat.own_str.1 h0
 obtain ⟨rfl, rfl, g1⟩ := Dat.own_int.1 h1
 obtain ⟨A2, c2, rfl, g2⟩ := Dat.own_row.1 h2
 obtain ⟨rfl, rfl, g3⟩ := Dat.own_int.1 h3
 obtain ⟨rfl, rfl, g4⟩ := Dat.own_int.1 h4
 obtain ⟨rfl, rfl, g5⟩ := Dat.own_int.1 h5
 obtain ⟨rfl, rfl, g6⟩ := Dat.own_int.1 h6
 obtain ⟨rfl, rfl, g7⟩ := Dat.own_str.1 h7
 obtain ⟨A8, c8, rfl, g8⟩ := Dat.own_row.1 h8
 exact ⟨A2, c2, M2, A8, c8, M8, by simp only [List.nil_append, List.append_nil], by simp only [List.length_map], g0, g1, g2, g3, g4, g5, g6, g7, g8⟩
theorem TRoutine.own_mk {w : World} {x0 : ByteArray} {x1 : Int} {x2 : List ByteArray} {x3 : Int} {x4 : Int} {x5 : Int} {x6 : Int} {x7 : ByteArray} {x8 : List TCore} {A2 : Option Addr} {c2 : Nat} {L2 : List Nat} {A8 : Option Addr} {c8 : Nat} {L8 : List Nat} (h0 : x0.size ≤ maxLen) (h1 : InI x1) (h2 : OwnRow w L2 1 A2 c2 (x2.map (fun x => [Dat.str x]))) (h3 : InI x3) (h4 : InI x4) (h5 : InI x5) (h6 : InI x6) (h7 : x7.size ≤ maxLen) (h8 : OwnRow w L8 6 A8 c8 (x8.map TCore.D)) : Dat.OwnVals w (L2 ++ L8) (TRoutine.mk x0 x1 x2 x3 x4 x5 x6 x7 x8).D [.string x0, .int .i64 x1, .slice A2 x2.length c2, .int .i64 x3, .int .i64 x4, .int .i64 x5, .int .i64 x6, .string x7, .slice A8 x8.length c8] := by
 rw [TRoutine.D_mk]
 exact ⟨[], _, (List.nil_append _).symm, Dat.own_str.2 ⟨rfl, rfl, h0⟩, ⟨[], _, (List.nil_append _).symm, Dat.own_int.2 ⟨rfl, rfl, h1⟩, ⟨L2, _, rfl, Dat.own_row.2 ⟨_, _, by simp only [List.length_map], h2⟩, ⟨[], _, (List.nil_append _).symm, Dat.own_int.2 ⟨rfl, rfl, h3⟩, ⟨[], _, (List.nil_append _).symm, Dat.own_int.2 ⟨rfl, rfl, h4⟩, ⟨[], _, (List.nil_append _).symm, Dat.own_int.2 ⟨rfl, rfl, h5⟩, ⟨[], _, (List.nil_append _).symm, Dat.own_int.2 ⟨rfl, rfl, h6⟩, ⟨[], _, (List.nil_append _).symm, Dat.own_str.2 ⟨rfl, rfl, h7⟩, ⟨L8, _, (List.append_nil _).symm, Dat.own_row.2 ⟨_, _, by simp only [List.length_map], h8⟩, rfl⟩⟩⟩⟩⟩⟩⟩⟩⟩
def ToRoutineL (t : TRoutine) : Prop := ∀ (S : Nat → Prop) (w : World) (vs : List Value), Dat.HoldVals w S t.D vs → Dat.wtL t.D ≤ 1048576 →
 Calls Tryz.prog 48 #[.agg vs.toArray] w (MadeVL w t.D)
set_option maxHeartbeats 800000 in
theorem toRoutineS_ofL (ks : List TRoutine) (IH : ∀ (i : Nat) (hi : i < ks.length), ToRoutineL ks[i]) (S : Nat → Prop) (w : World) (A : Option Addr) (c : Nat) (hR : Row w S 9 A c (ks.map TRoutine.D)) (hwt : ks.length + Dat.wtR (ks.map TRoutine.D) ≤ 1048576) :
    Calls Tryz.prog 19 #[.slice A ks.length c] w (MadeRL w 9 (ks.map TRoutine.D)) := by
  have IH' := hide IH
  have HR := hide hR
  have hlen := hR.1
  have hcm := hR.2.1
  simp only [List.length_map] at hlen
  unfold maxLen at hcm
  clear IH hR
  obtain ⟨cur, hcur, hmk⟩ := make_rows (P := Tryz.prog) (t := 36) (e := 55) (k := 9) ks.length (by omega) Tryz.underlying36 (by kernel_rfl)
  have HC := hide hcur
  clear hcur
  have HW := hide hwt
  clear hwt
  go_enter Tryz.func19, Tryz.ntmps19
  go_wp2_with (fail)
  have HF := hide (FillO.start w 55 9 ks.length HC.out)
  clear hmk
  go_loopw [4] (fun iv wr => ∃ k : Nat, k ≤ ks.length ∧ iv = .int .i64 k ∧ FillO wr w.heap.size 55 9 ks.length ((ks.map TRoutine.D).take k) ∧ Bel w wr) (fun iv _ => ks.length - (intOf iv).toNat)
  case atStart => exact ⟨0, Nat.zero_le _, rfl, HF.out, bl⟩
  case round =>
    obtain ⟨k, hk, rfl, hF, hbw⟩ := hrel
    have HF1 := hide hF
    have hgl := hF.lt
    clear hF HF
    rcases Nat.lt_or_ge k ks.length with hlt | hge
    · have hd : decide ((k : Int) < (ks.length : Int)) = true := by simp; omega
      have hi0 : 0 ≤ (k : Int) := by omega
      have hi1 : (k : Int) < (ks.length : Int) := by omega
      (obtain ⟨b1, o1, x1_0, x1_1, x1_2, x1_3, x1_4, x1_5, x1_6, x1_7, x1_8, A1_2, C1_2, A1_8, C1_8, hA1, hS1, hl1, hx1, hv1, g1_0, g1_1, g1_2, g1_3, g1_4, g1_5, g1_6, g1_7, g1_8, c1_0, c1_1, c1_2, c1_3, c1_4, c1_5, c1_6, c1_7, c1_8⟩ := TRoutine.at HR.out k hlt; subst hA1; have HV1 := hide (Dat.HoldVals.bel hbw hv1); have hh1 := hbw.box b1 hl1; have hw1 := Nat.lt_of_lt_of_le hl1 (Bel.size hbw); replace c1_0 := (hh1 _).trans c1_0; replace c1_1 := (hh1 _).trans c1_1; replace c1_2 := (hh1 _).trans c1_2; replace c1_3 := (hh1 _).trans c1_3; replace c1_4 := (hh1 _).trans c1_4; replace c1_5 := (hh1 _).trans c1_5; replace c1_6 := (hh1 _).trans c1_6; replace c1_7 := (hh1 _).trans c1_7; replace c1_8 := (hh1 _).trans c1_8; have HX1 := hide hx1; have GR1_2 := hide g1_2; have GR1_8 := hide g1_8; clear hh1 hv1 hx1 hS1 g1_2 g1_8)
      have hw := hide (Dat.wtR_take (ks.map TRoutine.D) k (by simpa using hlt))
      have hw' := hide (Dat.wtR_le (ks.map TRoutine.D) (k + 1))
      have hwk : Dat.wtL ks[k].D ≤ 1048576 := by have a := hw.out; have b := hw'.out; have c := HW.out; rw [List.getElem_map] at a; omega
      go_wp2_with (fail)
      refine (IH'.out k hlt S _ _ (Dat.HoldVals.bel bl HV1.out) hwk).mono ?_
      rintro e w1 ⟨vs', L', rfl, hv', hnd', hlo', hb1⟩
      have HN' := hide hnd'
      have HL' := hide hlo'
      clear hnd' hlo'
      have HV' := hide hv'
      rw [HX1.out] at hv'
      obtain ⟨A2, c2, A8, c8, rfl, -⟩ := TRoutine.vals (Dat.OwnVals.vals (S := fun _ => True) (fun _ _ => trivial) hv')
      clear hv'
      obtain ⟨y0, e0⟩ := (FillO.bel HF1.out (show Bel _ w1 from bl)).cell (i := k * 9) (by omega)
      obtain ⟨y1, e1⟩ := (FillO.bel HF1.out (show Bel _ w1 from bl)).cell (i := k * 9 + 1) (by omega)
      obtain ⟨y2, e2⟩ := (FillO.bel HF1.out (show Bel _ w1 from bl)).cell (i := k * 9 + 2) (by omega)
      obtain ⟨y3, e3⟩ := (FillO.bel HF1.out (show Bel _ w1 from bl)).cell (i := k * 9 + 3) (by omega)
      obtain ⟨y4, e4⟩ := (FillO.bel HF1.out (show Bel _ w1 from bl)).cell (i := k * 9 + 4) (by omega)
      obtain ⟨y5, e5⟩ := (FillO.bel HF1.out (show Bel _ w1 from bl)).cell (i := k * 9 + 5) (by omega)
      obtain ⟨y6, e6⟩ := (FillO.bel HF1.out (show Bel _ w1 from bl)).cell (i := k * 9 + 6) (by omega)
      obtain ⟨y7, e7⟩ := (FillO.bel HF1.out (show Bel _ w1 from bl)).cell (i := k * 9 + 7) (by omega)
      obtain ⟨y8, e8⟩ := (FillO.bel HF1.out (show Bel _ w1 from bl)).cell (i := k * 9 + 8) (by omega)
      have f0 := (FillO.bel HF1.out (show Bel _ w1 from bl)).free (k * 9)
      have f1 := (FillO.bel HF1.out (show Bel _ w1 from bl)).free (k * 9 + 1)
      have f2 := (FillO.bel HF1.out (show Bel _ w1 from bl)).free (k * 9 + 2)
      have f3 := (FillO.bel HF1.out (show Bel _ w1 from bl)).free (k * 9 + 3)
      have f4 := (FillO.bel HF1.out (show Bel _ w1 from bl)).free (k * 9 + 4)
      have f5 := (FillO.bel HF1.out (show Bel _ w1 from bl)).free (k * 9 + 5)
      have f6 := (FillO.bel HF1.out (show Bel _ w1 from bl)).free (k * 9 + 6)
      have f7 := (FillO.bel HF1.out (show Bel _ w1 from bl)).free (k * 9 + 7)
      have f8 := (FillO.bel HF1.out (show Bel _ w1 from bl)).free (k * 9 + 8)
      go_wp2_with (fail)
      go_roundw
      case rel =>
       exact ⟨k + 1, by omega, by go_num, FillO.snoc9 HF1.out hlt rfl bl (Dat.OwnVals.bel bl HV'.out) HN'.out (fun b hb => HL'.out b hb), bl⟩
      case measure => simp [intOf]; omega
    · have hd : decide ((k : Int) < (ks.length : Int)) = false := by simp; omega
      go_wp2_with (fail)
      go_returns
      obtain ⟨L, q1, q2, q3⟩ := FillO.done HF1.out hge rfl (by unfold maxLen; omega)
      exact ⟨some ⟨w.heap.size, 0, none⟩, ks.length, L, by rw [List.length_map]; rfl, q1, q2, q3, hbw⟩
set_option maxHeartbeats 8000000 in
theorem toRoutineL_any : ∀ t : TRoutine, ToRoutineL t := by
 rintro ⟨x0, x1, x2, x3, x4, x5, x6, x7, x8⟩
 intro S w vs hv hwt
 obtain ⟨A2, c2, A8, c8, rfl, g0, g1, hR2, g3, g4, g5, g6, g7, hR8⟩ := TRoutine.vals hv
 have R2 := hide hR2
 have R8 := hide hR8
 rw [TRoutine.D_mk] at hwt
 simp only [Dat.wtL, Dat.wt, List.length_map] at hwt
 have hw2 : x2.length + Dat.wtR (x2.map (fun x => [Dat.str x])) ≤ 1048576 := by omega
 have hw3 : Dat.wtL (TCore.mk x3 x4 x5 x6 x7 x8).D ≤ 1048576 := by rw [TCore.D_mk]; simp only [Dat.wtL, Dat.wt, List.length_map]; omega
 clear hv hwt hR2 hR8
 unfold maxLen at g0
 unfold maxLen at g7
 go_enter Tryz.func48, Tryz.ntmps48
 go_wp2_with (fail)
 refine (toStringSL_any x2 S _ _ _ (Row.bel bl R2.out) hw2).mono ?_
 rintro e w1 ⟨B2, d2, L2, rfl, hQ2, hN2, hL2, hb1⟩
 (have hz1 := hb1.sz; obtain ⟨hk1_0, hf1_0, hl1_0, hn1_0⟩ := hb1.lay (w.heap.size); obtain ⟨hk1_1, hf1_1, hl1_1, hn1_1⟩ := hb1.lay (w.heap.size + 1); obtain ⟨hk1_2, hf1_2, hl1_2, hn1_2⟩ := hb1.lay (w.heap.size + 1 + 1))
 have N2 := hide hN2
 have V2 := hide (show ∀ b, b ∈ L2 → w.heap.size + 2 < b from fun b hb => by have := hL2 b hb; (try simp only [World.size_alloc, World.size_setCell, World.size_drew, World.heap_drewN] at this); omega)
 have U2 := hide hL2
 have T2 := hide (hQ2.lt)
 have Q2 := hide hQ2
 clear hQ2 hN2 hL2
 go_wp2_with (fail)
 refine Calls.named fun W1 hW1 => ?_
 have hB1 : Bel w W1 := by rw [← hW1]; exact bl
 have hZ1 := hB1.size
 have hY1 : w.heap.size + 1 + 1 < W1.heap.size := by rw [← hW1]; simp; omega
 have hV1 : w1.heap.size ≤ W1.heap.size := by rw [← hW1]; simp
 have ka1_3 : W1.cell? ⟨w.heap.size, 3, none⟩ = some (.int .i64 x3) := by rw [← hW1]; simp [hk1_0, go_sem] <;> rfl
 have ka1_4 : W1.cell? ⟨w.heap.size, 4, none⟩ = some (.int .i64 x4) := by rw [← hW1]; simp [hk1_0, go_sem] <;> rfl
 have ka1_5 : W1.cell? ⟨w.heap.size, 5, none⟩ = some (.int .i64 x5) := by rw [← hW1]; simp [hk1_0, go_sem] <;> rfl
 have ka1_6 : W1.cell? ⟨w.heap.size, 6, none⟩ = some (.int .i64 x6) := by rw [← hW1]; simp [hk1_0, go_sem] <;> rfl
 have ka1_7 : W1.cell? ⟨w.heap.size, 7, none⟩ = some (.string x7) := by rw [← hW1]; simp [hk1_0, go_sem] <;> rfl
 have ka1_8 : W1.cell? ⟨w.heap.size, 8, none⟩ = some (.slice A8 x8.length c8) := by rw [← hW1]; simp [hk1_0, go_sem] <;> rfl
 have fa1 : ∀ o, W1.frozen? ⟨w.heap.size, o, none⟩ = false := by intro o; rw [← hW1]; simp [hf1_0, go_sem]
 have kr1_0 : W1.cell? ⟨w.heap.size + 1, 0, none⟩ = some (.string ByteArray.empty) := by rw [← hW1]; simp [hk1_1, go_sem] <;> rfl
 have kr1_1 : W1.cell? ⟨w.heap.size + 1, 1, none⟩ = some (.int .i64 0) := by rw [← hW1]; simp [hk1_1, go_sem] <;> rfl
 have kr1_2 : W1.cell? ⟨w.heap.size + 1, 2, none⟩ = some (.slice none 0 0) := by rw [← hW1]; simp [hk1_1, go_sem] <;> rfl
 have kr1_3 : W1.cell? ⟨w.heap.size + 1, 3, none⟩ = some (.int .i64 0) := by rw [← hW1]; simp [hk1_1, go_sem] <;> rfl
 have kr1_4 : W1.cell? ⟨w.heap.size + 1, 4, none⟩ = some (.int .i64 0) := by rw [← hW1]; simp [hk1_1, go_sem] <;> rfl
 have kr1_5 : W1.cell? ⟨w.heap.size + 1, 5, none⟩ = some (.int .i64 0) := by rw [← hW1]; simp [hk1_1, go_sem] <;> rfl
 have kr1_6 : W1.cell? ⟨w.heap.size + 1, 6, none⟩ = some (.int .i64 0) := by rw [← hW1]; simp [hk1_1, go_sem] <;> rfl
 have kr1_7 : W1.cell? ⟨w.heap.size + 1, 7, none⟩ = some (.string ByteArray.empty) := by rw [← hW1]; simp [hk1_1, go_sem] <;> rfl
 have kr1_8 : W1.cell? ⟨w.heap.size + 1, 8, none⟩ = some (.slice none 0 0) := by rw [← hW1]; simp [hk1_1, go_sem] <;> rfl
 have fr1 : ∀ o, W1.frozen? ⟨w.heap.size + 1, o, none⟩ = false := by intro o; rw [← hW1]; simp [hf1_1, go_sem]
 have ko1_0 : W1.cell? ⟨w.heap.size + 1 + 1, 0, none⟩ = some (.string x0) := by rw [← hW1]; simp [hk1_2, go_sem] <;> rfl
 have ko1_1 : W1.cell? ⟨w.heap.size + 1 + 1, 1, none⟩ = some (.int .i64 x1) := by rw [← hW1]; simp [hk1_2, go_sem] <;> rfl
 have ko1_2 : W1.cell? ⟨w.heap.size + 1 + 1, 2, none⟩ = some (.slice B2 x2.length d2) := by rw [← hW1]; simp [hk1_2, go_sem] <;> rfl
 have ko1_3 : W1.cell? ⟨w.heap.size + 1 + 1, 3, none⟩ = some (.int .i64 0) := by rw [← hW1]; simp [hk1_2, go_sem] <;> rfl
 have ko1_4 : W1.cell? ⟨w.heap.size + 1 + 1, 4, none⟩ = some (.int .i64 0) := by rw [← hW1]; simp [hk1_2, go_sem] <;> rfl
 have ko1_5 : W1.cell? ⟨w.heap.size + 1 + 1, 5, none⟩ = some (.int .i64 0) := by rw [← hW1]; simp [hk1_2, go_sem] <;> rfl
 have ko1_6 : W1.cell? ⟨w.heap.size + 1 + 1, 6, none⟩ = some (.int .i64 0) := by rw [← hW1]; simp [hk1_2, go_sem] <;> rfl
 have ko1_7 : W1.cell? ⟨w.heap.size + 1 + 1, 7, none⟩ = some (.string ByteArray.empty) := by rw [← hW1]; simp [hk1_2, go_sem] <;> rfl
 have ko1_8 : W1.cell? ⟨w.heap.size + 1 + 1, 8, none⟩ = some (.slice none 0 0) := by rw [← hW1]; simp [hk1_2, go_sem] <;> rfl
 have fo1 : ∀ o, W1.frozen? ⟨w.heap.size + 1 + 1, o, none⟩ = false := by intro o; rw [← hW1]; simp [hf1_2, go_sem]
 replace Q2 := hide (OwnRow.offS (show OffS (fun b => w.heap.size + 2 < b) _ W1 by rw [← hW1]; exact osl) (fun b hb => V2.out b hb) Q2.out)
 clear hW1 hk1_0 hk1_1 hk1_2 hf1_0 hf1_1 hf1_2 hb1
 refine (toCoreL_any (.mk x3 x4 x5 x6 x7 x8) S _ _ (TCore.vals_mk g3 g4 g5 g6 (by unfold maxLen; omega) (Row.bel bl R8.out)) hw3).mono ?_
 rintro e w2 ⟨vs3, LL3, rfl, hv3, hN3, hL3, hb2⟩
 obtain ⟨B8, d8, L8, hLL, rfl, -, -, -, -, -, hQ8⟩ := TCore.vals_own hv3
 have hLL2 := hLL.symm
 clear hLL
 subst hLL2
 (have hz2 := hb2.sz; obtain ⟨hk2_0, hf2_0, hl2_0, hn2_0⟩ := hb2.lay (w.heap.size); obtain ⟨hk2_1, hf2_1, hl2_1, hn2_1⟩ := hb2.lay (w.heap.size + 1); obtain ⟨hk2_2, hf2_2, hl2_2, hn2_2⟩ := hb2.lay (w.heap.size + 1 + 1))
 have N8 := hide hN3
 have V8 := hide (show ∀ b, b ∈ L8 → w.heap.size + 2 < b from fun b hb => by have := hL3 b hb; (try simp only [World.size_alloc, World.size_setCell, World.size_drew, World.heap_drewN] at this); omega)
 have U8 := hide (show ∀ b, b ∈ L8 → w1.heap.size ≤ b from fun b hb => by have := hL3 b hb; (try simp only [World.size_alloc, World.size_setCell, World.size_drew, World.heap_drewN] at this); omega)
 have T8 := hide (hQ8.lt)
 have Q8 := hide hQ8
 clear hQ8 hN3 hL3 hv3
 go_upto_region 6 with (fail)
 refine wp_named fun W2 hW2 => ?_
 have hB2 : Bel w W2 := by rw [← hW2]; exact bl
 have hZ2 := hB2.size
 have hY2 : w.heap.size + 1 + 1 < W2.heap.size := by rw [← hW2]; simp; omega
 have hV2 : w2.heap.size ≤ W2.heap.size := by rw [← hW2]; simp
 have fa2 : ∀ o, W2.frozen? ⟨w.heap.size, o, none⟩ = false := by intro o; rw [← hW2]; simp [hf2_0, go_sem, fa1]
 have kr2_0 : W2.cell? ⟨w.heap.size + 1, 0, none⟩ = some (.string ByteArray.empty) := by rw [← hW2]; simp [hk2_1, go_sem, kr1_0] <;> rfl
 have kr2_1 : W2.cell? ⟨w.heap.size + 1, 1, none⟩ = some (.int .i64 0) := by rw [← hW2]; simp [hk2_1, go_sem, kr1_1] <;> rfl
 have kr2_2 : W2.cell? ⟨w.heap.size + 1, 2, none⟩ = some (.slice none 0 0) := by rw [← hW2]; simp [hk2_1, go_sem, kr1_2] <;> rfl
 have kr2_3 : W2.cell? ⟨w.heap.size + 1, 3, none⟩ = some (.int .i64 0) := by rw [← hW2]; simp [hk2_1, go_sem, kr1_3] <;> rfl
 have kr2_4 : W2.cell? ⟨w.heap.size + 1, 4, none⟩ = some (.int .i64 0) := by rw [← hW2]; simp [hk2_1, go_sem, kr1_4] <;> rfl
 have kr2_5 : W2.cell? ⟨w.heap.size + 1, 5, none⟩ = some (.int .i64 0) := by rw [← hW2]; simp [hk2_1, go_sem, kr1_5] <;> rfl
 have kr2_6 : W2.cell? ⟨w.heap.size + 1, 6, none⟩ = some (.int .i64 0) := by rw [← hW2]; simp [hk2_1, go_sem, kr1_6] <;> rfl
 have kr2_7 : W2.cell? ⟨w.heap.size + 1, 7, none⟩ = some (.string ByteArray.empty) := by rw [← hW2]; simp [hk2_1, go_sem, kr1_7] <;> rfl
 have kr2_8 : W2.cell? ⟨w.heap.size + 1, 8, none⟩ = some (.slice none 0 0) := by rw [← hW2]; simp [hk2_1, go_sem, kr1_8] <;> rfl
 have fr2 : ∀ o, W2.frozen? ⟨w.heap.size + 1, o, none⟩ = false := by intro o; rw [← hW2]; simp [hf2_1, go_sem, fr1]
 have ko2_0 : W2.cell? ⟨w.heap.size + 1 + 1, 0, none⟩ = some (.string x0) := by rw [← hW2]; simp [hk2_2, go_sem, ko1_0] <;> rfl
 have ko2_1 : W2.cell? ⟨w.heap.size + 1 + 1, 1, none⟩ = some (.int .i64 x1) := by rw [← hW2]; simp [hk2_2, go_sem, ko1_1] <;> rfl
 have ko2_2 : W2.cell? ⟨w.heap.size + 1 + 1, 2, none⟩ = some (.slice B2 x2.length d2) := by rw [← hW2]; simp [hk2_2, go_sem, ko1_2] <;> rfl
 have ko2_3 : W2.cell? ⟨w.heap.size + 1 + 1, 3, none⟩ = some (.int .i64 x3) := by rw [← hW2]; simp [hk2_2, go_sem, ko1_3] <;> rfl
 have ko2_4 : W2.cell? ⟨w.heap.size + 1 + 1, 4, none⟩ = some (.int .i64 x4) := by rw [← hW2]; simp [hk2_2, go_sem, ko1_4] <;> rfl
 have ko2_5 : W2.cell? ⟨w.heap.size + 1 + 1, 5, none⟩ = some (.int .i64 x5) := by rw [← hW2]; simp [hk2_2, go_sem, ko1_5] <;> rfl
 have ko2_6 : W2.cell? ⟨w.heap.size + 1 + 1, 6, none⟩ = some (.int .i64 x6) := by rw [← hW2]; simp [hk2_2, go_sem, ko1_6] <;> rfl
 have ko2_7 : W2.cell? ⟨w.heap.size + 1 + 1, 7, none⟩ = some (.string x7) := by rw [← hW2]; simp [hk2_2, go_sem, ko1_7] <;> rfl
 have ko2_8 : W2.cell? ⟨w.heap.size + 1 + 1, 8, none⟩ = some (.slice B8 x8.length d8) := by rw [← hW2]; simp [hk2_2, go_sem, ko1_8] <;> rfl
 have fo2 : ∀ o, W2.frozen? ⟨w.heap.size + 1 + 1, o, none⟩ = false := by intro o; rw [← hW2]; simp [hf2_2, go_sem, fo1]
 replace Q2 := hide (OwnRow.offS (show OffS (fun b => w.heap.size + 2 < b) _ W2 by rw [← hW2]; exact osl) (fun b hb => V2.out b hb) Q2.out)
 replace Q8 := hide (OwnRow.offS (show OffS (fun b => w.heap.size + 2 < b) _ W2 by rw [← hW2]; exact osl) (fun b hb => V8.out b hb) Q8.out)
 clear hW2 hk2_0 hk2_1 hk2_2 hf2_0 hf2_1 hf2_2 hb2 hB1 hY1 fa1 fr1 fo1 kr1_0 kr1_1 kr1_2 kr1_3 kr1_4 kr1_5 kr1_6 kr1_7 kr1_8 ko1_0 ko1_1 ko1_2 ko1_3 ko1_4 ko1_5 ko1_6 ko1_7 ko1_8 ka1_3 ka1_4 ka1_5 ka1_6 ka1_7 ka1_8
 go_wp2_with (fail)
 exact bodyPost_ret (v := .agg #[.string x0, .int .i64 x1, .slice B2 x2.length d2, .int .i64 x3, .int .i64 x4, .int .i64 x5, .int .i64 x6, .string x7, .slice B8 x8.length d8]) (by simp [results, Tryz.results48, go_sem, kr2_0, kr2_1, kr2_2, kr2_3, kr2_4, kr2_5, kr2_6, kr2_7, kr2_8, ko2_0, ko2_1, ko2_2, ko2_3, ko2_4, ko2_5, ko2_6, ko2_7, ko2_8, fr2, fo2]) rfl
  ⟨[.string x0, .int .i64 x1, .slice B2 x2.length d2, .int .i64 x3, .int .i64 x4, .int .i64 x5, .int .i64 x6, .string x7, .slice B8 x8.length d8], L2 ++ L8, rfl, TRoutine.own_mk (by unfold maxLen; omega) g1 (OwnRow.offS (S := fun b => w.heap.size + 2 < b) osl (fun b hb => V2.out b hb) Q2.out) g3 g4 g5 g6 (by unfold maxLen; omega) (OwnRow.offS (S := fun b => w.heap.size + 2 < b) osl (fun b hb => V8.out b hb) Q8.out), nodup_app_lt (n := w1.heap.size) N2.out (N8.out) (fun b hb => T2.out b hb) (fun b hb => by have := U8.out b hb; omega), fun b hb => (List.mem_append.1 hb).elim (fun hb => by have := V2.out b hb; omega) (fun hb => by have := V8.out b hb; omega), bl⟩
theorem toRoutineSL_any (ks : List TRoutine) (S : Nat → Prop) (w : World) (A : Option Addr) (c : Nat) (hR : Row w S 9 A c (ks.map TRoutine.D)) (hwt : ks.length + Dat.wtR (ks.map TRoutine.D) ≤ 1048576) :
  Calls Tryz.prog 19 #[.slice A ks.length c] w (MadeRL w 9 (ks.map TRoutine.D)) := toRoutineS_ofL ks (fun _ _ => toRoutineL_any _) S w A c hR hwt
theorem TRoutine.cnt_mk {x0 : ByteArray} {x1 : Int} {x2 : List ByteArray} {x3 : Int} {x4 : Int} {x5 : Int} {x6 : Int} {x7 : ByteArray} {x8 : List TCore} : Dat.cntC (TRoutine.mk x0 x1 x2 x3 x4 x5 x6 x7 x8).D = 7 + Dat.cntR (x2.map (fun x => [Dat.str x])) + Dat.cntR (x8.map TCore.D) := by
 simp only [TRoutine.D_mk, Dat.cntC, Dat.cnt]; (try omega)
theorem TRoutine.mark_own {w : World} {m : Int} {x0 : ByteArray} {x1 : Int} {x2 : List ByteArray} {x3 : Int} {x4 : Int} {x5 : Int} {x6 : Int} {x7 : ByteArray} {x8 : List TCore} {A2 : Option Addr} {c2 : Nat} {L2 : List Nat} {A8 : Option Addr} {c8 : Nat} {L8 : List Nat} (h0 : 0 ≤ m) (hm : m + (7 + Dat.cntR (x2.map (fun x => [Dat.str x])) + Dat.cntR (x8.map TCore.D) : Nat) ≤ 4611686018427387904) (h2 : OwnRow w L2 1 A2 c2 (Dat.markR (m + 1 + 1) (x2.map (fun x => [Dat.str x])))) (h8 : OwnRow w L8 6 A8 c8 (Dat.markR (m + 1 + 1 + (Dat.cntR (x2.map (fun x => [Dat.str x])) : Nat) + 1 + 1 + 1 + 1 + 1) (x8.map TCore.D))) : Dat.OwnVals w (L2 ++ L8) (Dat.markC m (TRoutine.mk x0 x1 x2 x3 x4 x5 x6 x7 x8).D) [.string (markT (m)), .int .i64 (m + 1), .slice A2 x2.length c2, .int .i64 (m + 1 + 1 + (Dat.cntR (x2.map (fun x => [Dat.str x])) : Nat)), .int .i64 (m + 1 + 1 + (Dat.cntR (x2.map (fun x => [Dat.str x])) : Nat) + 1), .int .i64 (m + 1 + 1 + (Dat.cntR (x2.map (fun x => [Dat.str x])) : Nat) + 1 + 1), .int .i64 (m + 1 + 1 + (Dat.cntR (x2.map (fun x => [Dat.str x])) : Nat) + 1 + 1 + 1), .string (markT (m + 1 + 1 + (Dat.cntR (x2.map (fun x => [Dat.str x])) : Nat) + 1 + 1 + 1 + 1)), .slice A8 x8.length c8] := by
 have e : Dat.markC m (TRoutine.mk x0 x1 x2 x3 x4 x5 x6 x7 x8).D = [.str (markT (m)), .int (m + 1), .row 1 (Dat.markR (m + 1 + 1) (x2.map (fun x => [Dat.str x]))), .int (m + 1 + 1 + (Dat.cntR (x2.map (fun x => [Dat.str x])) : Nat)), .int (m + 1 + 1 + (Dat.cntR (x2.map (fun x => [Dat.str x])) : Nat) + 1), .int (m + 1 + 1 + (Dat.cntR (x2.map (fun x => [Dat.str x])) : Nat) + 1 + 1), .int (m + 1 + 1 + (Dat.cntR (x2.map (fun x => [Dat.str x])) : Nat) + 1 + 1 + 1), .str (markT (m + 1 + 1 + (Dat.cntR (x2.map (fun x => [Dat.str x])) : Nat) + 1 + 1 + 1 + 1)), .row 6 (Dat.markR (m + 1 + 1 + (Dat.cntR (x2.map (fun x => [Dat.str x])) : Nat) + 1 + 1 + 1 + 1 + 1) (x8.map TCore.D))] := by
  simp only [TRoutine.D_mk, Dat.markC, Dat.mark, Dat.cnt]
  first | done | rfl | (simp only [Nat.cast_one]; done) | (simp; done) | (push_cast; simp)
 rw [e]
 exact ⟨[], _, (List.nil_append _).symm, Dat.own_str.2 ⟨rfl, rfl, Nat.le_trans (markT_size _) (by unfold maxLen; omega)⟩, ⟨[], _, (List.nil_append _).symm, Dat.own_int.2 ⟨rfl, rfl, InI.of_le (by omega) (by omega)⟩, ⟨L2, _, rfl, Dat.own_row.2 ⟨_, _, by simp only [Dat.markR_length, List.length_map], h2⟩, ⟨[], _, (List.nil_append _).symm, Dat.own_int.2 ⟨rfl, rfl, InI.of_le (by omega) (by omega)⟩, ⟨[], _, (List.nil_append _).symm, Dat.own_int.2 ⟨rfl, rfl, InI.of_le (by omega) (by omega)⟩, ⟨[], _, (List.nil_append _).symm, Dat.own_int.2 ⟨rfl, rfl, InI.of_le (by omega) (by omega)⟩, ⟨[], _, (List.nil_append _).symm, Dat.own_int.2 ⟨rfl, rfl, InI.of_le (by omega) (by omega)⟩, ⟨[], _, (List.nil_append _).symm, Dat.own_str.2 ⟨rfl, rfl, Nat.le_trans (markT_size _) (by unfold maxLen; omega)⟩, ⟨L8, _, (List.append_nil _).symm, Dat.own_row.2 ⟨_, _, by simp only [Dat.markR_length, List.length_map], h8⟩, rfl⟩⟩⟩⟩⟩⟩⟩⟩⟩
theorem TRoutine.mcnt_le : ∀ t : TRoutine, Dat.cntC t.D ≤ 16 + 16 * Dat.wtL t.D := by
 rintro ⟨x0, x1, x2, x3, x4, x5, x6, x7, x8⟩
 have r2 := cntR_le_of (fun x => [Dat.str x]) x2 (fun i hi => by simp [Dat.cntC, Dat.cnt]; omega)
 have r8 := cntR_le_of TCore.D x8 (fun i hi => TCore.mcnt_le x8[i])
 rw [TRoutine.cnt_mk, TRoutine.D_mk]
 simp only [Dat.wtL, Dat.wt, List.length_map]
 omega
theorem TRoutine.mark_vals {w : World} {S : Nat → Prop} {m : Int} {x0 : ByteArray} {x1 : Int} {x2 : List ByteArray} {x3 : Int} {x4 : Int} {x5 : Int} {x6 : Int} {x7 : ByteArray} {x8 : List TCore} {vs : List Value} (h : Dat.HoldVals w S (Dat.markC m (TRoutine.mk x0 x1 x2 x3 x4 x5 x6 x7 x8).D) vs) : ∃ A2 c2 A8 c8, vs = [.string (markT (m)), .int .i64 (m + 1), .slice A2 x2.length c2, .int .i64 (m + 1 + 1 + (Dat.cntR (x2.map (fun x => [Dat.str x])) : Nat)), .int .i64 (m + 1 + 1 + (Dat.cntR (x2.map (fun x => [Dat.str x])) : Nat) + 1), .int .i64 (m + 1 + 1 + (Dat.cntR (x2.map (fun x => [Dat.str x])) : Nat) + 1 + 1), .int .i64 (m + 1 + 1 + (Dat.cntR (x2.map (fun x => [Dat.str x])) : Nat) + 1 + 1 + 1), .string (markT (m + 1 + 1 + (Dat.cntR (x2.map (fun x => [Dat.str x])) : Nat) + 1 + 1 + 1 + 1)), .slice A8 x8.length c8] ∧ Row w S 1 A2 c2 (Dat.markR (m + 1 + 1) (x2.map (fun x => [Dat.str x]))) ∧ Row w S 6 A8 c8 (Dat.markR (m + 1 + 1 + (Dat.cntR (x2.map (fun x => [Dat.str x])) : Nat) + 1 + 1 + 1 + 1 + 1) (x8.map TCore.D)) := by
 have e : Dat.markC m (TRoutine.mk x0 x1 x2 x3 x4 x5 x6 x7 x8).D = [.str (markT (m)), .int (m + 1), .row 1 (Dat.markR (m + 1 + 1) (x2.map (fun x => [Dat.str x]))), .int (m + 1 + 1 + (Dat.cntR (x2.map (fun x => [Dat.str x])) : Nat)), .int (m + 1 + 1 + (Dat.cntR (x2.map (fun x => [Dat.str x])) : Nat) + 1), .int (m + 1 + 1 + (Dat.cntR (x2.map (fun x => [Dat.str x])) : Nat) + 1 + 1), .int (m + 1 + 1 + (Dat.cntR (x2.map (fun x => [Dat.str x])) : Nat) + 1 + 1 + 1), .str (markT (m + 1 + 1 + (Dat.cntR (x2.map (fun x => [Dat.str x])) : Nat) + 1 + 1 + 1 + 1)), .row 6 (Dat.markR (m + 1 + 1 + (Dat.cntR (x2.map (fun x => [Dat.str x])) : Nat) + 1 + 1 + 1 + 1 + 1) (x8.map TCore.D))] := by
  simp only [TRoutine.D_mk, Dat.markC, Dat.mark, Dat.cnt]
  first | done | rfl | (simp only [Nat.cast_one]; done) | (simp; done) | (push_cast; simp)
 rw [e] at h
 have hl := h.length
 obtain ⟨u0, u1, u2, u3, u4, u5, u6, u7, u8, rfl⟩ := lst9 (hl.trans rfl)
 clear hl
 simp only [Dat.HoldVals] at h
 obtain ⟨h0, h1, h2, h3, h4, h5, h6, h7, h8, -⟩ := h
 obtain ⟨rfl, -⟩ := Dat.holds_str.1 h0
 obtain ⟨rfl, -⟩ := Dat.holds_int.1 h1
 obtain ⟨A2, c2, rfl, g2⟩ := Dat.holds_row.1 h2
 obtain ⟨rfl, -⟩ := Dat.holds_int.1 h3
 obtain ⟨rfl, -⟩ := Dat.holds_int.1 h4
 obtain ⟨rfl, -⟩ := Dat.holds_int.1 h5
 obtain ⟨rfl, -⟩ := Dat.holds_int.1 h6
 obtain ⟨rfl, -⟩ := Dat.holds_str.1 h7
 obtain ⟨A8, c8, rfl, g8⟩ := Dat.holds_row.1 h8
 exact ⟨A2, c2, A8, c8, by simp only [Dat.markR_length, List.length_map], g2, g8⟩
set_option maxHeartbeats 2000000 in
theorem markRoutineS_any (ks : List TRoutine) (L : List Nat) (w : World) (A : Option Addr) (c : Nat) (k : Int) (hR : OwnRow w L 9 A c (ks.map TRoutine.D)) (hnd : L.Nodup) (h0 : 0 ≤ k) (hb : k + (Dat.cntR (ks.map TRoutine.D) : Nat) ≤ 4611686018427387904) :
    Calls Tryz.prog 30 #[.slice A ks.length c, .int .i64 k] w (Marked w L 9 A c k (ks.map TRoutine.D)) := by
  have HR := hide hR
  have HN := hide hnd
  have hlen := hR.1
  have hcm := hR.2.1
  simp only [List.length_map] at hlen
  unfold maxLen at hcm
  clear hR hnd
  go_enter Tryz.func30, Tryz.ntmps30
  go_wp2_with (fail)
  go_loopw [1, 5] (fun kv iv wr => ∃ i : Nat, i ≤ ks.length ∧ iv = .int .i64 i ∧ kv = .int .i64 (k + (Dat.cntR ((ks.map TRoutine.D).take i) : Nat)) ∧ Hid (OwnRow wr L 9 A c (Dat.markTo k i (ks.map TRoutine.D))) ∧ OffS (fun x => x ∉ L) w wr) (fun _ iv _ => ks.length - (intOf iv).toNat)
  case atStart => exact ⟨0, Nat.zero_le _, rfl, by simp [Dat.cntR], (by rw [Dat.markTo_zero]; exact HR.out), osl⟩
  case round =>
    obtain ⟨i, hi, rfl, rfl, hO, hoff⟩ := hrel
    rcases Nat.lt_or_ge i ks.length with hlt | hge
    · have hd : decide ((i : Int) < (ks.length : Int)) = true := by simp; omega
      have hi0 : 0 ≤ (i : Int) := by omega
      have hi1 : (i : Int) < (ks.length : Int) := by omega
      obtain ⟨x0, x1, x2, x3, x4, x5, x6, x7, x8, hx⟩ : ∃ x0 x1 x2 x3 x4 x5 x6 x7 x8, ks[i] = .mk x0 x1 x2 x3 x4 x5 x6 x7 x8 := by cases ks[i]; exact ⟨_, _, _, _, _, _, _, _, _, rfl⟩
      have HX := hide hx
      have ht := Dat.cntR_take (ks.map TRoutine.D) i (by simpa using hlt)
      have hle := Dat.cntR_le (ks.map TRoutine.D) (i + 1)
      simp only [List.getElem_map, hx, TRoutine.cnt_mk] at ht
      obtain ⟨q2, hq2⟩ : ∃ q, Dat.cntR (x2.map (fun x => [Dat.str x])) = q := ⟨_, rfl⟩
      obtain ⟨q8, hq8⟩ : ∃ q, Dat.cntR (x8.map TCore.D) = q := ⟨_, rfl⟩
      simp only [hq2, hq8] at ht
      obtain ⟨m, hm⟩ : ∃ m : Int, k + (Dat.cntR ((ks.map TRoutine.D).take i) : Nat) = m := ⟨_, rfl⟩
      have hm0 : 0 ≤ m := by omega
      have hm1 : m + 7 + (q2 : Nat) + (q8 : Nat) ≤ 4611686018427387904 := by omega
      have HE := hide (show k + (Dat.cntR ((ks.map TRoutine.D).take (i + 1)) : Nat) = m + 7 + (q2 : Nat) + (q8 : Nat) by omega)
      rw [hm]
      have HM := hide hm
      have HQ2 := hide hq2
      have HQ8 := hide hq8
      obtain ⟨b, o, L1, Le, L2, vs, rfl, hb1, hf1, hLe, hv, hvl, hc, hput⟩ := OwnRow.at hO.out i (by rw [Dat.markTo_length]; simpa using hlt)
      rw [Dat.markTo_get k i _ (by simpa using hlt), List.getElem_map, hx] at hv
      obtain ⟨A2, c2, L_2, A8, c8, L_8, hEL, rfl, g0, g1, g2, g3, g4, g5, g6, g7, g8⟩ := TRoutine.vals_own hv
      have hEL2 := hEL.symm
      clear hEL
      subst hEL2
      have z0 : wr.cell? ⟨b, o + i * 9, none⟩ = some (.string x0) := by simpa using hc 0 (by decide)
      have z1 : wr.cell? ⟨b, o + i * 9 + 1, none⟩ = some (.int .i64 x1) := by simpa using hc 1 (by decide)
      have z2 : wr.cell? ⟨b, o + i * 9 + 2, none⟩ = some (.slice A2 x2.length c2) := by simpa using hc 2 (by decide)
      have z3 : wr.cell? ⟨b, o + i * 9 + 3, none⟩ = some (.int .i64 x3) := by simpa using hc 3 (by decide)
      have z4 : wr.cell? ⟨b, o + i * 9 + 4, none⟩ = some (.int .i64 x4) := by simpa using hc 4 (by decide)
      have z5 : wr.cell? ⟨b, o + i * 9 + 5, none⟩ = some (.int .i64 x5) := by simpa using hc 5 (by decide)
      have z6 : wr.cell? ⟨b, o + i * 9 + 6, none⟩ = some (.int .i64 x6) := by simpa using hc 6 (by decide)
      have z7 : wr.cell? ⟨b, o + i * 9 + 7, none⟩ = some (.string x7) := by simpa using hc 7 (by decide)
      have z8 : wr.cell? ⟨b, o + i * 9 + 8, none⟩ = some (.slice A8 x8.length c8) := by simpa using hc 8 (by decide)
      obtain ⟨hbL, hLeL, hbLe, hnLe, hrest⟩ := own_parts hLe HN.out
      have hNN := hnLe
      have HNL2 := hide (List.nodup_append.1 hnLe).1
      have hdd2 := (List.nodup_append.1 hnLe).2.2
      have hnn2 := (List.nodup_append.1 hnLe).2.1
      have HNL8 := hide hnn2
      have HI2 := hide (show ∀ x, x ∈ L_2 → x ∈ (L_2 ++ L_8) from fun x h => by simp [h])
      have hb_2 : b ∉ L_2 := fun h => hbLe (HI2.out b h)
      have HI8 := hide (show ∀ x, x ∈ L_8 → x ∈ (L_2 ++ L_8) from fun x h => by simp [h])
      have hb_8 : b ∉ L_8 := fun h => hbLe (HI8.out b h)
      have HD2_8 := hide (show ∀ x, x ∈ L_2 → x ∉ L_8 from fun x h h2 => hdd2 x h x (by simp [h2]) rfl)
      have HD8_2 := hide (show ∀ x, x ∈ L_8 → x ∉ L_2 from fun x h h2 => HD2_8.out x h2 h)
      have G2 := hide g2
      have G8 := hide g8
      unfold maxLen at g0
      unfold maxLen at g7
      have HP := hide hput
      have HLe := hide hLe
      have HL2 := hide hLeL
      have HRS := hide hrest
      clear hv hc hx ht hle hm hq2 hq8 hdd2 hnn2 hNN hnLe g2 g8 hput hLe hLeL hrest
      go_wp2_with (fail)
      refine (markText_any _ _ (by omega) (by omega)).mono ?_
      rintro e w1 ⟨rfl, hb101⟩
      have hz1 := hb101.size
      (try simp only [World.size_alloc, World.size_setCell, World.size_drew, World.heap_drewN] at hz1)
      have hk1 := hb101.box b (by first | (simp; done) | (simp; omega) | omega)
      have hf_1 := hb101.boxf b (by first | (simp; done) | (simp; omega) | omega)
      have hl1 : b < w1.heap.size := by omega
      go_wp2_with (fail)
      refine (markStringS_any x2 L_2 _ A2 c2 _ (OwnRow.offS (S := fun x => x ∈ L_2) (w := wr) osl (fun x hx => hx) G2.out) HNL2.out (by omega) (by rw [HQ2.out]; omega)).mono ?_
      rintro e w2 ⟨rfl, hO2, ho2⟩
      rw [HQ2.out]
      have HO2 := hide hO2
      clear hO2
      have hz2 := ho2.size
      (try simp only [World.size_alloc, World.size_setCell, World.size_drew, World.heap_drewN] at hz2)
      have hss2 := ho2.same b hb_2 (by first | (simp; done) | (simp; omega) | omega)
      have hk2 := hss2.1
      have hf_2 := hss2.2
      have hl2 : b < w2.heap.size := by omega
      have hoL2 := OffS.narrow (S' := fun x => x ∉ L) ho2 (fun x hx h => hx (HL2.out x (HI2.out x h)))
      have hoE2 := OffS.narrow (S' := fun x => x ∉ (L_2 ++ L_8) ∧ x ≠ b) ho2 (fun x hx h => hx.1 (HI2.out x h))
      have ho2_8 := OffS.narrow (S' := fun x => x ∈ L_8) ho2 (fun x hx => HD8_2.out x hx)
      clear hss2 ho2
      go_wp2_with (fail)
      refine (markText_any _ _ (by omega) (by omega)).mono ?_
      rintro e w3 ⟨rfl, hb103⟩
      have hz3 := hb103.size
      (try simp only [World.size_alloc, World.size_setCell, World.size_drew, World.heap_drewN] at hz3)
      have hk3 := hb103.box b (by first | (simp; done) | (simp; omega) | omega)
      have hf_3 := hb103.boxf b (by first | (simp; done) | (simp; omega) | omega)
      have hl3 : b < w3.heap.size := by omega
      go_wp2_with (fail)
      refine (markCoreS_any x8 L_8 _ A8 c8 _ (OwnRow.offS (S := fun x => x ∈ L_8) (w := wr) osl (fun x hx => hx) G8.out) HNL8.out (by omega) (by rw [HQ8.out]; omega)).mono ?_
      rintro e w4 ⟨rfl, hO8, ho4⟩
      rw [HQ8.out]
      have HO8 := hide hO8
      clear hO8
      have hz4 := ho4.size
      (try simp only [World.size_alloc, World.size_setCell, World.size_drew, World.heap_drewN] at hz4)
      have hss4 := ho4.same b hb_8 (by first | (simp; done) | (simp; omega) | omega)
      have hk4 := hss4.1
      have hf_4 := hss4.2
      have hl4 : b < w4.heap.size := by omega
      have hoL4 := OffS.narrow (S' := fun x => x ∉ L) ho4 (fun x hx h => hx (HL2.out x (HI8.out x h)))
      have hoE4 := OffS.narrow (S' := fun x => x ∉ (L_2 ++ L_8) ∧ x ≠ b) ho4 (fun x hx h => hx.1 (HI8.out x h))
      have ho4_2 := OffS.narrow (S' := fun x => x ∈ L_2) ho4 (fun x hx => HD2_8.out x hx)
      clear hss4 ho4
      go_wp2_with (fail)
      go_roundw
      case rel =>
       refine ⟨i + 1, by omega, by go_num, by rw [HE.out]; first | done | go_num, ?_, osl⟩
       rw [← Dat.markTo_succ k i _ (by simpa using hlt)]
       refine hide ?_
       rw [List.getElem_map, HX.out, HM.out]
       refine HP.out _ _ [.string (markT (m)), .int .i64 (m + 1), .slice A2 x2.length c2, .int .i64 (m + 1 + 1 + (q2 : Nat)), .int .i64 (m + 1 + 1 + (q2 : Nat) + 1), .int .i64 (m + 1 + 1 + (q2 : Nat) + 1 + 1), .int .i64 (m + 1 + 1 + (q2 : Nat) + 1 + 1 + 1), .string (markT (m + 1 + 1 + (q2 : Nat) + 1 + 1 + 1 + 1)), .slice A8 x8.length c8] (by (try simp only [← HQ2.out, ← HQ8.out]); exact TRoutine.mark_own (m := m) (x0 := x0) (x1 := x1) (x2 := x2) (x3 := x3) (x4 := x4) (x5 := x5) (x6 := x6) (x7 := x7) (x8 := x8) (A2 := A2) (c2 := c2) (L2 := L_2) (A8 := A8) (c8 := c8) (L8 := L_8) hm0 (by (try simp only [HQ2.out, HQ8.out]); omega) (by (try simp only [HQ2.out, HQ8.out]); exact OwnRow.offS (S := fun x => x ∈ L_2) (w := w2) osl (fun x hx => hx) HO2.out) (by (try simp only [HQ2.out, HQ8.out]); exact OwnRow.offS (S := fun x => x ∈ L_8) (w := w4) osl (fun x hx => hx) HO8.out)) rfl (by (try simp only [World.size_alloc, World.size_setCell, World.size_drew, World.heap_drewN]); omega) (fun z hz => ?_) (fun z => by simp [go_sem, hk1, hf_1, hk2, hf_2, hk3, hf_3, hk4, hf_4, hf1]) (fun z hz => ?_) (cells_of9 (by simp [go_sem, hk1, hf_1, hk2, hf_2, hk3, hf_3, hk4, hf_4, z0, z1, z2, z3, z4, z5, z6, z7, z8]) (by simp [go_sem, hk1, hf_1, hk2, hf_2, hk3, hf_3, hk4, hf_4, z0, z1, z2, z3, z4, z5, z6, z7, z8]) (by simp [go_sem, hk1, hf_1, hk2, hf_2, hk3, hf_3, hk4, hf_4, z0, z1, z2, z3, z4, z5, z6, z7, z8]) (by simp [go_sem, hk1, hf_1, hk2, hf_2, hk3, hf_3, hk4, hf_4, z0, z1, z2, z3, z4, z5, z6, z7, z8]) (by simp [go_sem, hk1, hf_1, hk2, hf_2, hk3, hf_3, hk4, hf_4, z0, z1, z2, z3, z4, z5, z6, z7, z8]) (by simp [go_sem, hk1, hf_1, hk2, hf_2, hk3, hf_3, hk4, hf_4, z0, z1, z2, z3, z4, z5, z6, z7, z8]) (by simp [go_sem, hk1, hf_1, hk2, hf_2, hk3, hf_3, hk4, hf_4, z0, z1, z2, z3, z4, z5, z6, z7, z8]) (by simp [go_sem, hk1, hf_1, hk2, hf_2, hk3, hf_3, hk4, hf_4, z0, z1, z2, z3, z4, z5, z6, z7, z8]) (by simp [go_sem, hk1, hf_1, hk2, hf_2, hk3, hf_3, hk4, hf_4, z0, z1, z2, z3, z4, z5, z6, z7, z8]))
       · exact OffS.same (S := fun x => x ∉ (L_2 ++ L_8) ∧ x ≠ b) (w := wr) osl z ⟨(HRS.out z hz).1, (HRS.out z hz).2.1⟩ (hO.out.lt z (HRS.out z hz).2.2)
       · have n0 : z ≠ o + i * 9 := by omega
         have n1 : z ≠ o + i * 9 + 1 := by omega
         have n2 : z ≠ o + i * 9 + 2 := by omega
         have n3 : z ≠ o + i * 9 + 3 := by omega
         have n4 : z ≠ o + i * 9 + 4 := by omega
         have n5 : z ≠ o + i * 9 + 5 := by omega
         have n6 : z ≠ o + i * 9 + 6 := by omega
         have n7 : z ≠ o + i * 9 + 7 := by omega
         have n8 : z ≠ o + i * 9 + 8 := by omega
         simp [go_sem, hk1, hf_1, hk2, hf_2, hk3, hf_3, hk4, hf_4, n0, n1, n2, n3, n4, n5, n6, n7, n8]
      case measure => simp [intOf]; omega
    · have hd : decide ((i : Int) < (ks.length : Int)) = false := by simp; omega
      obtain rfl : i = ks.length := by omega
      have HO2 := hide (show OwnRow wr L 9 A c (Dat.markR k (ks.map TRoutine.D)) from by have := hO.out; rw [Dat.markTo_all _ _ _ (by simp)] at this; exact this)
      go_wp2_with (fail)
      go_returns
      rw [List.take_of_length_le (by simp)]
      exact ⟨rfl, HO2.out, hoff⟩
end Go.Proofs.YtgofbnmablgedaaGreatDoor
namespace Go.Proofs.YtgofbnmablgedaaGreatDoor
set_option linter.unusedVariables false
set_option linter.unusedSimpArgs false
set_option maxRecDepth 100000
open Go.RowKit
theorem TProgram.vals_own {w : World} {L : List Nat} {x0 : List TRoutine} {x1 : List TRecordType} {x2 : List ByteArray} {x3 : Int} {vs : List Value} (h : Dat.OwnVals w L (TProgram.mk x0 x1 x2 x3).D vs) : ∃ A0 c0 L0 A1 c1 L1 A2 c2 L2, L = L0 ++ (L1 ++ L2) ∧ vs = [.slice A0 x0.length c0, .slice A1 x1.length c1, .slice A2 x2.length c2, .int .i64 x3] ∧ OwnRow w L0 9 A0 c0 (x0.map TRoutine.D) ∧ OwnRow w L1 3 A1 c1 (x1.map TRecordType.D) ∧ OwnRow w L2 1 A2 c2 (x2.map (fun x => [Dat.str x])) ∧ InI x3 := by
 rw [TProgram.D_mk] at h
 have hl := h.length
 match vs, hl, h with
 | [u0, u1, u2, u3], _, h =>
 simp only [Dat.OwnVals] at h
 obtain ⟨M0, N0, e0, h0, M1, N1, e1, h1, M2, N2, e2, h2, M3, N3, e3, h3, en⟩ := h
 subst en
 subst e3
 subst e2
 subst e1
 subst e0
 obtain ⟨A0, c0, rfl, g0⟩ := Dat.own_row.1 h0
 obtain ⟨A1, c1, rfl, g1⟩ := Dat.own_row.1 h1
 obtain ⟨A2, c2, rfl, g2⟩ := Dat.own_row.1 h2
 obtain ⟨rfl, rfl, g3⟩ := Dat.own_int.1 h3
 exact ⟨A0, c0, M0, A1, c1, M1, A2, c2, M2, by simp only [List.nil_append, List.append_nil], by simp only [List.length_map], g0, g1, g2, g3⟩
theorem TProgram.own_mk {w : World} {x0 : List TRoutine} {x1 : List TRecordType} {x2 : List ByteArray} {x3 : Int} {A0 : Option Addr} {c0 : Nat} {L0 : List Nat} {A1 : Option Addr} {c1 : Nat} {L1 : List Nat} {A2 : Option Addr} {c2 : Nat} {L2 : List Nat} (h0 : OwnRow w L0 9 A0 c0 (x0.map TRoutine.D)) (h1 : OwnRow w L1 3 A1 c1 (x1.map TRecordType.D)) (h2 : OwnRow w L2 1 A2 c2 (x2.map (fun x => [Dat.str x]))) (h3 : InI x3) : Dat.OwnVals w (L0 ++ (L1 ++ L2)) (TProgram.mk x0 x1 x2 x3).D [.slice A0 x0.length c0, .slice A1 x1.length c1, .slice A2 x2.length c2, .int .i64 x3] := by
 rw [TProgram.D_mk]
 exact ⟨L0, _, rfl, Dat.own_row.2 ⟨_, _, by simp only [List.length_map], h0⟩, ⟨L1, _, rfl, Dat.own_row.2 ⟨_, _, by simp only [List.length_map], h1⟩, ⟨L2, _, (List.append_nil _).symm, Dat.own_row.2 ⟨_, _, by simp only [List.length_map], h2⟩, ⟨[], _, (List.nil_append _).symm, Dat.own_int.2 ⟨rfl, rfl, h3⟩, rfl⟩⟩⟩⟩
def ToProgramL (t : TProgram) : Prop := ∀ (S : Nat → Prop) (w : World) (vs : List Value), Dat.HoldVals w S t.D vs → Dat.wtL t.D ≤ 1048576 →
 Calls Tryz.prog 6 #[.agg vs.toArray] w (MadeVL w t.D)
set_option maxHeartbeats 2000000 in
theorem toProgramL_any : ∀ t : TProgram, ToProgramL t := by
 rintro ⟨x0, x1, x2, x3⟩
 intro S w vs hv hwt
 obtain ⟨A0, c0, A1, c1, A2, c2, rfl, hR0, hR1, hR2, g3⟩ := TProgram.vals hv
 have R0 := hide hR0
 have R1 := hide hR1
 have R2 := hide hR2
 rw [TProgram.D_mk] at hwt
 simp only [Dat.wtL, Dat.wt, List.length_map] at hwt
 have hw0 : x0.length + Dat.wtR (x0.map TRoutine.D) ≤ 1048576 := by omega
 have hw1 : x1.length + Dat.wtR (x1.map TRecordType.D) ≤ 1048576 := by omega
 have hw2 : x2.length + Dat.wtR (x2.map (fun x => [Dat.str x])) ≤ 1048576 := by omega
 clear hv hwt hR0 hR1 hR2
 go_enter Tryz.func6, Tryz.ntmps6
 go_wp2_with (fail)
 refine (toRoutineSL_any x0 S _ _ _ (Row.bel bl R0.out) hw0).mono ?_
 rintro e w1 ⟨B0, d0, L0, rfl, hQ0, hN0, hL0, hb1⟩
 (have hz1 := hb1.sz; obtain ⟨hk1_0, hf1_0, hl1_0, hn1_0⟩ := hb1.lay (w.heap.size); obtain ⟨hk1_1, hf1_1, hl1_1, hn1_1⟩ := hb1.lay (w.heap.size + 1); obtain ⟨hk1_2, hf1_2, hl1_2, hn1_2⟩ := hb1.lay (w.heap.size + 1 + 1))
 have N0 := hide hN0
 have V0 := hide (show ∀ b, b ∈ L0 → w.heap.size + 2 < b from fun b hb => by have := hL0 b hb; (try simp only [World.size_alloc, World.size_setCell, World.size_drew, World.heap_drewN] at this); omega)
 have U0 := hide hL0
 have T0 := hide (hQ0.lt)
 have Q0 := hide hQ0
 clear hQ0 hN0 hL0
 go_wp2_with (fail)
 refine (toRecordTypeSL_any x1 S _ _ _ (Row.bel bl R1.out) hw1).mono ?_
 rintro e w2 ⟨B1, d1, L1, rfl, hQ1, hN1, hL1, hb2⟩
 (have hz2 := hb2.sz; obtain ⟨hk2_0, hf2_0, hl2_0, hn2_0⟩ := hb2.lay (w.heap.size); obtain ⟨hk2_1, hf2_1, hl2_1, hn2_1⟩ := hb2.lay (w.heap.size + 1); obtain ⟨hk2_2, hf2_2, hl2_2, hn2_2⟩ := hb2.lay (w.heap.size + 1 + 1))
 have N1 := hide hN1
 have V1 := hide (show ∀ b, b ∈ L1 → w.heap.size + 2 < b from fun b hb => by have := hL1 b hb; (try simp only [World.size_alloc, World.size_setCell, World.size_drew, World.heap_drewN] at this); omega)
 have U1 := hide (show ∀ b, b ∈ L1 → w1.heap.size ≤ b from fun b hb => by have := hL1 b hb; (try simp only [World.size_alloc, World.size_setCell, World.size_drew, World.heap_drewN] at this); omega)
 have T1 := hide (hQ1.lt)
 have Q1 := hide hQ1
 clear hQ1 hN1 hL1
 go_wp2_with (fail)
 refine (toStringSL_any x2 S _ _ _ (Row.bel bl R2.out) hw2).mono ?_
 rintro e w3 ⟨B2, d2, L2, rfl, hQ2, hN2, hL2, hb3⟩
 (have hz3 := hb3.sz; obtain ⟨hk3_0, hf3_0, hl3_0, hn3_0⟩ := hb3.lay (w.heap.size); obtain ⟨hk3_1, hf3_1, hl3_1, hn3_1⟩ := hb3.lay (w.heap.size + 1); obtain ⟨hk3_2, hf3_2, hl3_2, hn3_2⟩ := hb3.lay (w.heap.size + 1 + 1))
 have N2 := hide hN2
 have V2 := hide (show ∀ b, b ∈ L2 → w.heap.size + 2 < b from fun b hb => by have := hL2 b hb; (try simp only [World.size_alloc, World.size_setCell, World.size_drew, World.heap_drewN] at this); omega)
 have U2 := hide (show ∀ b, b ∈ L2 → w2.heap.size ≤ b from fun b hb => by have := hL2 b hb; (try simp only [World.size_alloc, World.size_setCell, World.size_drew, World.heap_drewN] at this); omega)
 have T2 := hide (hQ2.lt)
 have Q2 := hide hQ2
 clear hQ2 hN2 hL2
 go_wp2_with (fail)
 exact bodyPost_ret (v := .agg #[.slice B0 x0.length d0, .slice B1 x1.length d1, .slice B2 x2.length d2, .int .i64 x3]) (by simp [results, Tryz.results6, go_sem, hk1_1, hf1_1, hk1_2, hf1_2, hk2_1, hf2_1, hk2_2, hf2_2, hk3_1, hf3_1, hk3_2, hf3_2]) rfl
  ⟨[.slice B0 x0.length d0, .slice B1 x1.length d1, .slice B2 x2.length d2, .int .i64 x3], L0 ++ (L1 ++ L2), rfl, TProgram.own_mk (OwnRow.offS (S := fun b => w.heap.size + 2 < b) osl (fun b hb => V0.out b hb) Q0.out) (OwnRow.offS (S := fun b => w.heap.size + 2 < b) osl (fun b hb => V1.out b hb) Q1.out) (OwnRow.offS (S := fun b => w.heap.size + 2 < b) osl (fun b hb => V2.out b hb) Q2.out) g3, nodup_app_lt (n := w1.heap.size) N0.out (nodup_app_lt (n := w2.heap.size) N1.out (N2.out) (fun b hb => T1.out b hb) (fun b hb => by have := U2.out b hb; omega)) (fun b hb => T0.out b hb) (fun b hb => (List.mem_append.1 hb).elim (fun hb => by have := U1.out b hb; omega) (fun hb => by have := U2.out b hb; omega)), fun b hb => (List.mem_append.1 hb).elim (fun hb => by have := V0.out b hb; omega) (fun hb => (List.mem_append.1 hb).elim (fun hb => by have := V1.out b hb; omega) (fun hb => by have := V2.out b hb; omega)), bl⟩
theorem TProgram.cnt_mk {x0 : List TRoutine} {x1 : List TRecordType} {x2 : List ByteArray} {x3 : Int} : Dat.cntC (TProgram.mk x0 x1 x2 x3).D = 1 + Dat.cntR (x0.map TRoutine.D) + Dat.cntR (x1.map TRecordType.D) + Dat.cntR (x2.map (fun x => [Dat.str x])) := by
 simp only [TProgram.D_mk, Dat.cntC, Dat.cnt]; (try omega)
theorem TProgram.mark_own {w : World} {m : Int} {x0 : List TRoutine} {x1 : List TRecordType} {x2 : List ByteArray} {x3 : Int} {A0 : Option Addr} {c0 : Nat} {L0 : List Nat} {A1 : Option Addr} {c1 : Nat} {L1 : List Nat} {A2 : Option Addr} {c2 : Nat} {L2 : List Nat} (h0 : 0 ≤ m) (hm : m + (1 + Dat.cntR (x0.map TRoutine.D) + Dat.cntR (x1.map TRecordType.D) + Dat.cntR (x2.map (fun x => [Dat.str x])) : Nat) ≤ 4611686018427387904) (h0 : OwnRow w L0 9 A0 c0 (Dat.markR (m) (x0.map TRoutine.D))) (h1 : OwnRow w L1 3 A1 c1 (Dat.markR (m + (Dat.cntR (x0.map TRoutine.D) : Nat)) (x1.map TRecordType.D))) (h2 : OwnRow w L2 1 A2 c2 (Dat.markR (m + (Dat.cntR (x0.map TRoutine.D) : Nat) + (Dat.cntR (x1.map TRecordType.D) : Nat)) (x2.map (fun x => [Dat.str x])))) : Dat.OwnVals w (L0 ++ (L1 ++ L2)) (Dat.markC m (TProgram.mk x0 x1 x2 x3).D) [.slice A0 x0.length c0, .slice A1 x1.length c1, .slice A2 x2.length c2, .int .i64 (m + (Dat.cntR (x0.map TRoutine.D) : Nat) + (Dat.cntR (x1.map TRecordType.D) : Nat) + (Dat.cntR (x2.map (fun x => [Dat.str x])) : Nat))] := by
 have e : Dat.markC m (TProgram.mk x0 x1 x2 x3).D = [.row 9 (Dat.markR (m) (x0.map TRoutine.D)), .row 3 (Dat.markR (m + (Dat.cntR (x0.map TRoutine.D) : Nat)) (x1.map TRecordType.D)), .row 1 (Dat.markR (m + (Dat.cntR (x0.map TRoutine.D) : Nat) + (Dat.cntR (x1.map TRecordType.D) : Nat)) (x2.map (fun x => [Dat.str x]))), .int (m + (Dat.cntR (x0.map TRoutine.D) : Nat) + (Dat.cntR (x1.map TRecordType.D) : Nat) + (Dat.cntR (x2.map (fun x => [Dat.str x])) : Nat))] := by
  simp only [TProgram.D_mk, Dat.markC, Dat.mark, Dat.cnt]
  first | done | rfl | (simp only [Nat.cast_one]; done) | (simp; done) | (push_cast; simp)
 rw [e]
 exact ⟨L0, _, rfl, Dat.own_row.2 ⟨_, _, by simp only [Dat.markR_length, List.length_map], h0⟩, ⟨L1, _, rfl, Dat.own_row.2 ⟨_, _, by simp only [Dat.markR_length, List.length_map], h1⟩, ⟨L2, _, (List.append_nil _).symm, Dat.own_row.2 ⟨_, _, by simp only [Dat.markR_length, List.length_map], h2⟩, ⟨[], _, (List.nil_append _).symm, Dat.own_int.2 ⟨rfl, rfl, InI.of_le (by omega) (by omega)⟩, rfl⟩⟩⟩⟩
theorem TProgram.mcnt_le : ∀ t : TProgram, Dat.cntC t.D ≤ 16 + 16 * Dat.wtL t.D := by
 rintro ⟨x0, x1, x2, x3⟩
 have r0 := cntR_le_of TRoutine.D x0 (fun i hi => TRoutine.mcnt_le x0[i])
 have r1 := cntR_le_of TRecordType.D x1 (fun i hi => TRecordType.mcnt_le x1[i])
 have r2 := cntR_le_of (fun x => [Dat.str x]) x2 (fun i hi => by simp [Dat.cntC, Dat.cnt]; omega)
 rw [TProgram.cnt_mk, TProgram.D_mk]
 simp only [Dat.wtL, Dat.wt, List.length_map]
 omega
theorem TProgram.mark_vals {w : World} {S : Nat → Prop} {m : Int} {x0 : List TRoutine} {x1 : List TRecordType} {x2 : List ByteArray} {x3 : Int} {vs : List Value} (h : Dat.HoldVals w S (Dat.markC m (TProgram.mk x0 x1 x2 x3).D) vs) : ∃ A0 c0 A1 c1 A2 c2, vs = [.slice A0 x0.length c0, .slice A1 x1.length c1, .slice A2 x2.length c2, .int .i64 (m + (Dat.cntR (x0.map TRoutine.D) : Nat) + (Dat.cntR (x1.map TRecordType.D) : Nat) + (Dat.cntR (x2.map (fun x => [Dat.str x])) : Nat))] ∧ Row w S 9 A0 c0 (Dat.markR (m) (x0.map TRoutine.D)) ∧ Row w S 3 A1 c1 (Dat.markR (m + (Dat.cntR (x0.map TRoutine.D) : Nat)) (x1.map TRecordType.D)) ∧ Row w S 1 A2 c2 (Dat.markR (m + (Dat.cntR (x0.map TRoutine.D) : Nat) + (Dat.cntR (x1.map TRecordType.D) : Nat)) (x2.map (fun x => [Dat.str x]))) := by
 have e : Dat.markC m (TProgram.mk x0 x1 x2 x3).D = [.row 9 (Dat.markR (m) (x0.map TRoutine.D)), .row 3 (Dat.markR (m + (Dat.cntR (x0.map TRoutine.D) : Nat)) (x1.map TRecordType.D)), .row 1 (Dat.markR (m + (Dat.cntR (x0.map TRoutine.D) : Nat) + (Dat.cntR (x1.map TRecordType.D) : Nat)) (x2.map (fun x => [Dat.str x]))), .int (m + (Dat.cntR (x0.map TRoutine.D) : Nat) + (Dat.cntR (x1.map TRecordType.D) : Nat) + (Dat.cntR (x2.map (fun x => [Dat.str x])) : Nat))] := by
  simp only [TProgram.D_mk, Dat.markC, Dat.mark, Dat.cnt]
  first | done | rfl | (simp only [Nat.cast_one]; done) | (simp; done) | (push_cast; simp)
 rw [e] at h
 match vs, h with
 | [u0, u1, u2, u3], h =>
 simp only [Dat.HoldVals] at h
 obtain ⟨h0, h1, h2, h3, -⟩ := h
 obtain ⟨A0, c0, rfl, g0⟩ := Dat.holds_row.1 h0
 obtain ⟨A1, c1, rfl, g1⟩ := Dat.holds_row.1 h1
 obtain ⟨A2, c2, rfl, g2⟩ := Dat.holds_row.1 h2
 obtain ⟨rfl, -⟩ := Dat.holds_int.1 h3
 exact ⟨A0, c0, A1, c1, A2, c2, by simp only [Dat.markR_length, List.length_map], g0, g1, g2⟩
set_option maxHeartbeats 2000000 in
theorem markProgram_any (t : TProgram) (L : List Nat) (w : World) (vs : List Value) (k : Int) (hv : Dat.OwnVals w L t.D vs) (hnd : L.Nodup) (h0 : 0 ≤ k) (hb : k + (Dat.cntC t.D : Nat) ≤ 4611686018427387904) :
  Calls Tryz.prog 10 #[.agg vs.toArray, .int .i64 k] w fun e w' => (∃ k' : Int, 0 ≤ k' ∧ e = .returned (.int .i64 k')) ∧ OffS (fun x => x ∉ L) w w' := by
 obtain ⟨x0, x1, x2, x3⟩ := t
 rw [TProgram.cnt_mk] at hb
 obtain ⟨A0, c0, L_0, A1, c1, L_1, A2, c2, L_2, hLL, rfl, g0, g1, g2, -⟩ := TProgram.vals_own hv
 clear hv
 have hLL2 := hLL.symm
 clear hLL
 subst hLL2
 obtain ⟨q0, hq0⟩ : ∃ q, Dat.cntR (x0.map TRoutine.D) = q := ⟨_, rfl⟩
 obtain ⟨q1, hq1⟩ : ∃ q, Dat.cntR (x1.map TRecordType.D) = q := ⟨_, rfl⟩
 obtain ⟨q2, hq2⟩ : ∃ q, Dat.cntR (x2.map (fun x => [Dat.str x])) = q := ⟨_, rfl⟩
 simp only [hq0, hq1, hq2] at hb
 have HNL0 := hide (List.nodup_append.1 hnd).1
 have hdd0 := (List.nodup_append.1 hnd).2.2
 have hnn0 := (List.nodup_append.1 hnd).2.1
 clear hnd
 have HNL1 := hide (List.nodup_append.1 hnn0).1
 have hdd1 := (List.nodup_append.1 hnn0).2.2
 have hnn1 := (List.nodup_append.1 hnn0).2.1
 clear hnn0
 have HNL2 := hide hnn1
 clear hnn1
 have HI0 := hide (show ∀ x, x ∈ L_0 → x ∈ (L_0 ++ (L_1 ++ L_2)) from fun x h => by simp [h])
 have hb_0 : w.heap.size ∉ L_0 := fun h => Nat.lt_irrefl _ (g0.lt _ h)
 have G0 := hide g0
 have HQ0 := hide hq0
 have HI1 := hide (show ∀ x, x ∈ L_1 → x ∈ (L_0 ++ (L_1 ++ L_2)) from fun x h => by simp [h])
 have hb_1 : w.heap.size ∉ L_1 := fun h => Nat.lt_irrefl _ (g1.lt _ h)
 have G1 := hide g1
 have HQ1 := hide hq1
 have HI2 := hide (show ∀ x, x ∈ L_2 → x ∈ (L_0 ++ (L_1 ++ L_2)) from fun x h => by simp [h])
 have hb_2 : w.heap.size ∉ L_2 := fun h => Nat.lt_irrefl _ (g2.lt _ h)
 have G2 := hide g2
 have HQ2 := hide hq2
 have HD0_1 := hide (show ∀ x, x ∈ L_0 → x ∉ L_1 from fun x h h2 => hdd0 x h x (by simp [h2]) rfl)
 have HD1_0 := hide (show ∀ x, x ∈ L_1 → x ∉ L_0 from fun x h h2 => HD0_1.out x h2 h)
 have HD0_2 := hide (show ∀ x, x ∈ L_0 → x ∉ L_2 from fun x h h2 => hdd0 x h x (by simp [h2]) rfl)
 have HD2_0 := hide (show ∀ x, x ∈ L_2 → x ∉ L_0 from fun x h h2 => HD0_2.out x h2 h)
 have HD1_2 := hide (show ∀ x, x ∈ L_1 → x ∉ L_2 from fun x h h2 => hdd1 x h x (by simp [h2]) rfl)
 have HD2_1 := hide (show ∀ x, x ∈ L_2 → x ∉ L_1 from fun x h h2 => HD1_2.out x h2 h)
 clear hdd0 hdd1 g0 g1 g2 hq0 hq1 hq2
 go_enter Tryz.func10, Tryz.ntmps10
 go_wp2_with (fail)
 refine (markRoutineS_any x0 L_0 _ A0 c0 _ (OwnRow.offS (S := fun x => x ∈ L_0) (w := w) osl (fun x hx => hx) G0.out) HNL0.out (by omega) (by rw [HQ0.out]; omega)).mono ?_
 rintro e w1 ⟨rfl, -, ho1⟩
 rw [HQ0.out]
 have hz1 := ho1.size
 (try simp only [World.size_alloc, World.size_setCell, World.size_drew, World.heap_drewN] at hz1)
 have hss1 := ho1.same w.heap.size hb_0 (by first | (simp; done) | (simp; omega) | omega)
 have hk1 := hss1.1
 have hf_1 := hss1.2
 have hl1 : w.heap.size < w1.heap.size := by omega
 have hoL1 := OffS.narrow (S' := fun x => x ∉ (L_0 ++ (L_1 ++ L_2))) ho1 (fun x hx h => hx (HI0.out x h))
 have ho1_1 := OffS.narrow (S' := fun x => x ∈ L_1) ho1 (fun x hx => HD1_0.out x hx)
 have ho1_2 := OffS.narrow (S' := fun x => x ∈ L_2) ho1 (fun x hx => HD2_0.out x hx)
 clear hss1 ho1
 go_wp2_with (fail)
 refine (markRecordTypeS_any x1 L_1 _ A1 c1 _ (OwnRow.offS (S := fun x => x ∈ L_1) (w := w) osl (fun x hx => hx) G1.out) HNL1.out (by omega) (by rw [HQ1.out]; omega)).mono ?_
 rintro e w2 ⟨rfl, -, ho2⟩
 rw [HQ1.out]
 have hz2 := ho2.size
 (try simp only [World.size_alloc, World.size_setCell, World.size_drew, World.heap_drewN] at hz2)
 have hss2 := ho2.same w.heap.size hb_1 (by first | (simp; done) | (simp; omega) | omega)
 have hk2 := hss2.1
 have hf_2 := hss2.2
 have hl2 : w.heap.size < w2.heap.size := by omega
 have hoL2 := OffS.narrow (S' := fun x => x ∉ (L_0 ++ (L_1 ++ L_2))) ho2 (fun x hx h => hx (HI1.out x h))
 have ho2_0 := OffS.narrow (S' := fun x => x ∈ L_0) ho2 (fun x hx => HD0_1.out x hx)
 have ho2_2 := OffS.narrow (S' := fun x => x ∈ L_2) ho2 (fun x hx => HD2_1.out x hx)
 clear hss2 ho2
 go_wp2_with (fail)
 refine (markStringS_any x2 L_2 _ A2 c2 _ (OwnRow.offS (S := fun x => x ∈ L_2) (w := w) osl (fun x hx => hx) G2.out) HNL2.out (by omega) (by rw [HQ2.out]; omega)).mono ?_
 rintro e w3 ⟨rfl, -, ho3⟩
 rw [HQ2.out]
 have hz3 := ho3.size
 (try simp only [World.size_alloc, World.size_setCell, World.size_drew, World.heap_drewN] at hz3)
 have hss3 := ho3.same w.heap.size hb_2 (by first | (simp; done) | (simp; omega) | omega)
 have hk3 := hss3.1
 have hf_3 := hss3.2
 have hl3 : w.heap.size < w3.heap.size := by omega
 have hoL3 := OffS.narrow (S' := fun x => x ∉ (L_0 ++ (L_1 ++ L_2))) ho3 (fun x hx h => hx (HI2.out x h))
 have ho3_0 := OffS.narrow (S' := fun x => x ∈ L_0) ho3 (fun x hx => HD0_2.out x hx)
 have ho3_1 := OffS.narrow (S' := fun x => x ∈ L_1) ho3 (fun x hx => HD1_2.out x hx)
 clear hss3 ho3
 go_wp2_with (fail)
 go_returns
 exact ⟨⟨_, by omega, rfl⟩, osl⟩
end Go.Proofs.YtgofbnmablgedaaGreatDoor
