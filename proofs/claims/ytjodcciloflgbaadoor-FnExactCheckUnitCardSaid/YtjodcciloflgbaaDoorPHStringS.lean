/- Slices of texts: what is left behind them, copies, comparison. -/
import Derived.Test.YtjodcciloflgbaaDoorPD
namespace Go.Proofs.YtjodcciloflgbaaDoor
set_option linter.unusedVariables false
set_option linter.unusedSimpArgs false
set_option maxRecDepth 100000
open Go.RowKit
theorem strAt {w : World} {S : Nat → Prop} {A : Option Addr} {c : Nat} {l : List ByteArray} (h : Row w S 1 A c (l.map fun x => [Dat.str x])) (i : Nat) (hi : i < l.length) :
  ∃ b o, A = some ⟨b, o, none⟩ ∧ S b ∧ b < w.heap.size ∧ l[i].size ≤ maxLen ∧ w.cell? ⟨b, o + i, none⟩ = some (.string l[i]) := by
 obtain ⟨b, o, vs, hA, hS, hb, hv, hl, hc⟩ := Row.at h i (by simpa using hi)
 rw [List.getElem_map] at hv
 match vs, hv with
 | [v], hv =>
  obtain ⟨rfl, hs⟩ := Dat.holds_str.1 hv.1
  exact ⟨b, o, hA, hS, hb, hs, by simpa using hc 0 (by decide)⟩
set_option maxHeartbeats 400000 in
theorem szStringS_any (ks : List ByteArray) (S : Nat → Prop) (w : World) (A : Option Addr) (c : Nat) (left : Int) (hR : Row w S 1 A c (ks.map fun x => [Dat.str x])) (h0 : 0 ≤ left) (h1 : left ≤ 1048576) :
  Calls Tryd.prog 20 #[.slice A ks.length c, .int .i64 left] w fun e w' => e = .returned (.int .i64 (szL (ks.length + Dat.wtR (ks.map fun x => [Dat.str x])) left)) ∧ Bel w w' := by
 have HR := hide hR
 have hlen := hR.1
 have hcm := hR.2.1
 simp only [List.length_map] at hlen
 unfold maxLen at hcm
 clear hR
 rcases Int.lt_or_le left ks.length with hn | hn
 ·
  go_enter Tryd.func20, Tryd.ntmps20
  go_wp2_with (fail)
  all_goals
   go_returns
   exact ⟨ret_i64 (by rw [szL_no (by omega)]), bl⟩
 go_enter Tryd.func20, Tryd.ntmps20
 go_wp2_with (fail)
 go_loopw [1, 5] (fun lv iv wr => ∃ k : Nat, k ≤ ks.length ∧ iv = .int .i64 k ∧ lv = .int .i64 (left - ks.length - (Dat.wtR ((ks.map fun x => [Dat.str x]).take k) : Nat)) ∧ 0 ≤ left - ks.length - (Dat.wtR ((ks.map fun x => [Dat.str x]).take k) : Nat) ∧ Bel w wr) (fun _ iv _ => ks.length - (intOf iv).toNat)
 case atStart => exact ⟨0, Nat.zero_le _, rfl, by simp [Dat.wtR], by simp [Dat.wtR]; omega, Bel.refl _⟩
 case round =>
  obtain ⟨k, hk, rfl, rfl, hl0, hbw⟩ := hrel
  rcases Nat.lt_or_ge k ks.length with hlt | hge
  ·
   have hd : decide ((k : Int) < (ks.length : Int)) = true := by simp; omega
   obtain ⟨b1, o1, hA1, hS1, hl1, hz1, c1⟩ := strAt HR.out k hlt
   subst hA1
   replace c1 := (hbw.box b1 hl1 _).trans c1
   unfold maxLen at hz1
   have e1 := hide (Dat.wtR_take (ks.map fun x => [Dat.str x]) k (by simpa using hlt))
   have e2 := hide (Dat.wtR_le (ks.map fun x => [Dat.str x]) (k + 1))
   have e3 : Hid (Dat.wtR ((ks.map fun x => [Dat.str x]).take (k + 1)) = Dat.wtR ((ks.map fun x => [Dat.str x]).take k) + ks[k].size) := by
    show _ = _
    have := e1.out
    rw [List.getElem_map] at this
    simpa [Dat.wtL, Dat.wt] using this
   rcases Int.lt_or_le (left - ks.length - (Dat.wtR ((ks.map fun x => [Dat.str x]).take k) : Nat)) (ks[k].size : Int) with hq | hq
   ·
    go_wp2_with (fail)
    all_goals
     go_returns
     have e2 := e2.out
     have e3 := e3.out
     exact ⟨ret_i64 (by rw [szL_no (by omega)]), bl⟩
   ·
    go_wp2_with (fail)
    all_goals
     go_roundw
     case rel => exact ⟨k + 1, by omega, by go_num, by rw [e3.out]; go_num, by rw [e3.out]; omega, bl⟩
     case measure => simp [intOf]; omega
  ·
   have hd : decide ((k : Int) < (ks.length : Int)) = false := by simp; omega
   go_wp2_with (fail)
   go_returns
   rw [List.take_of_length_le (by simp; omega)] at hl0 ⊢
   exact ⟨ret_i64 (by rw [szL_yes (by omega)]; omega), hbw⟩
set_option maxHeartbeats 400000 in
theorem toStringS_any (ks : List ByteArray) (S : Nat → Prop) (w : World) (A : Option Addr) (c : Nat) (hR : Row w S 1 A c (ks.map fun x => [Dat.str x])) (hwt : ks.length + Dat.wtR (ks.map fun x => [Dat.str x]) ≤ 1048576) :
  Calls Tryd.prog 26 #[.slice A ks.length c] w (MadeR w 1 (ks.map fun x => [Dat.str x])) := by
 have HR := hide hR
 have hlen := hR.1
 have hcm := hR.2.1
 simp only [List.length_map] at hlen
 unfold maxLen at hcm
 clear hR
 obtain ⟨cur, hcur, hmk⟩ := make_rows (P := Tryd.prog) (t := 23) (e := 9) (k := 1) ks.length (by omega) Tryd.underlying23 (by kernel_rfl)
 have HC := hide hcur
 clear hcur
 go_enter Tryd.func26, Tryd.ntmps26
 go_wp2_with (fail)
 have HF := hide (Fill.start w 9 1 ks.length (fun b => w.heap.size < b) HC.out)
 clear hmk
 go_loopw [4] (fun iv wr => ∃ k : Nat, k ≤ ks.length ∧ iv = .int .i64 k ∧ Fill wr w.heap.size 9 1 ks.length (fun b => w.heap.size < b) ((ks.map fun x => [Dat.str x]).take k) ∧ Bel w wr) (fun iv _ => ks.length - (intOf iv).toNat)
 case atStart => exact ⟨0, Nat.zero_le _, rfl, HF.out, bl⟩
 case round =>
  obtain ⟨k, hk, rfl, hF, hbw⟩ := hrel
  have HF1 := hide hF
  have hgl := hF.lt
  clear hF HF
  rcases Nat.lt_or_ge k ks.length with hlt | hge
  ·
   have hd : decide ((k : Int) < (ks.length : Int)) = true := by simp; omega
   have hi0 : 0 ≤ (k : Int) := by omega
   have hi1 : (k : Int) < (ks.length : Int) := by omega
   obtain ⟨b1, o1, hA1, hS1, hl1, hz1, c1⟩ := strAt HR.out k hlt
   subst hA1
   replace c1 := (hbw.box b1 hl1 _).trans c1
   have HZ := hide hz1
   clear hz1
   obtain ⟨y0, e0⟩ := HF1.out.cell (i := k) (by omega)
   have f0 := HF1.out.free k
   go_wp2_with (fail)
   go_roundw
   case rel => exact ⟨k + 1, by omega, by go_num, Fill.snoc1 (S1 := fun _ => False) HF1.out hlt rfl (fun b hb => by omega) ⟨Dat.holds_str.2 ⟨rfl, HZ.out⟩, trivial⟩ (fun b hb => hb.elim), bl⟩
   case measure => simp [intOf]; omega
  ·
   have hd : decide ((k : Int) < (ks.length : Int)) = false := by simp; omega
   go_wp2_with (fail)
   go_returns
   exact ⟨some ⟨w.heap.size, 0, none⟩, ks.length, by rw [List.length_map]; rfl, Fill.done HF1.out hge rfl (by unfold maxLen; omega) (fun b hb => by omega) (by omega), hbw⟩
set_option maxHeartbeats 400000 in
theorem eqStringS_any (ks : List ByteArray) (S S' : Nat → Prop) (w : World) (A A' : Option Addr) (c c' : Nat) (hR : Row w S 1 A c (ks.map fun x => [Dat.str x])) (hR' : Row w S' 1 A' c' (ks.map fun x => [Dat.str x])) :
  Calls Tryd.prog 15 #[.slice A ks.length c, .slice A' ks.length c'] w fun e w' => e = .returned (.bool true) ∧ Bel w w' := by
 have HR := hide hR
 have HR' := hide hR'
 have hlen := hR.1
 have hcm := hR.2.1
 have hlen' := hR'.1
 have hcm' := hR'.2.1
 simp only [List.length_map] at hlen hlen'
 unfold maxLen at hcm hcm'
 clear hR hR'
 go_enter Tryd.func15, Tryd.ntmps15
 go_wp2_with (fail)
 go_loopw [5] (fun iv wr => ∃ k : Nat, k ≤ ks.length ∧ iv = .int .i64 k ∧ Bel w wr) (fun iv _ => ks.length - (intOf iv).toNat)
 case atStart => exact ⟨0, Nat.zero_le _, rfl, Bel.refl _⟩
 case round =>
  obtain ⟨k, hk, rfl, hbw⟩ := hrel
  rcases Nat.lt_or_ge k ks.length with hlt | hge
  ·
   have hd : decide ((k : Int) < (ks.length : Int)) = true := by simp; omega
   have hi0 : 0 ≤ (k : Int) := by omega
   have hi1 : (k : Int) < (ks.length : Int) := by omega
   obtain ⟨b1, o1, hA1, hS1, hl1, hz1, c1⟩ := strAt HR.out k hlt
   obtain ⟨b2, o2, hA2, hS2, hl2, hz2, c2⟩ := strAt HR'.out k hlt
   subst hA1 hA2
   replace c1 := (hbw.box b1 hl1 _).trans c1
   replace c2 := (hbw.box b2 hl2 _).trans c2
   go_wp2_with (fail)
   go_quiet (fail)
   go_wp2_with (fail)
   all_goals
    go_roundw
    case rel => exact ⟨k + 1, by omega, by go_num, bl⟩
    case measure => simp [intOf]; omega
  ·
   have hd : decide ((k : Int) < (ks.length : Int)) = false := by simp; omega
   go_wp2_with (fail)
   go_returns
   exact ⟨rfl, hbw⟩
end Go.Proofs.YtjodcciloflgbaaDoor
