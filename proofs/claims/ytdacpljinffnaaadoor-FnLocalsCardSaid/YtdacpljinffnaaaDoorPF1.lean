/- The cursor over the bytes of a draw: l1New, l1Byte, l1Below. -/
import Derived.Test.YtdacpljinffnaaaDoorPB
import Derived.Laws.BitsAllLaws
import Derived.Deep.Cut
import Derived.Laws.IdiomStrings
import Derived.Lib.BufferRead
import Derived.Deep.Slices
namespace Go.Proofs.YtdacpljinffnaaaDoor
set_option linter.unusedVariables false
set_option linter.unusedSimpArgs false
set_option maxRecDepth 100000
open Go.RowKit
structure Oth (c : Nat) (w w' : World) : Prop where
 os : w'.os = w.os
 tape : w'.tape = w.tape
 output : w'.output = w.output
 size : w.heap.size ≤ w'.heap.size
 block : ∀ k, k < w.heap.size → k ≠ c → w'.heap[k]? = w.heap[k]?
namespace Oth
theorem refl (c : Nat) (w : World) : Oth c w w := ⟨rfl, rfl, rfl, Nat.le_refl _, fun _ _ _ => rfl⟩
theorem of_bel {c : Nat} {w w' : World} (h : Bel w w') : Oth c w w' := ⟨h.os, h.tape, h.output, Bel.size h, fun k hk _ => Below.block h k hk⟩
theorem trans {c : Nat} {a b d : World} (h : Oth c a b) (k : Oth c b d) : Oth c a d :=
 ⟨k.os.trans h.os, k.tape.trans h.tape, k.output.trans h.output, Nat.le_trans h.size k.size, fun i hi hc => (k.block i (Nat.lt_of_lt_of_le hi h.size) hc).trans (h.block i hi hc)⟩
theorem drew {c : Nat} {a b : World} (h : Oth c a b) : Oth c a b.drew := ⟨h.os, h.tape, h.output, h.size, h.block⟩
theorem drewN {c : Nat} {a b : World} (h : Oth c a b) (n : Nat) : Oth c a (b.drewN n) := ⟨h.os, h.tape, h.output, h.size, h.block⟩
theorem bel {c : Nat} {w w0 w' : World} (h : Bel w w0) (k : Oth c w0 w') (hc : w.heap.size ≤ c) : Bel w w' :=
 ⟨k.os.trans h.os, k.tape.trans h.tape, k.output.trans h.output, Nat.le_trans (Bel.size h) k.size, fun i hi => (k.block i (Nat.lt_of_lt_of_le hi (Bel.size h)) (by omega)).trans (Below.block h i hi)⟩
theorem set {c : Nat} {a b : World} (h : Oth c a b) (o : Nat) (v : Value) : Oth c a (b.setCell ⟨c, o, none⟩ v) := by
 have hb : Below c b (b.setCell ⟨c, o, none⟩ v) := Below.setCell (Below.refl c b) (Nat.le_refl c) v
 refine h.trans ⟨hb.os, hb.tape, hb.output, hb.size, fun k hk hc => ?_⟩
 unfold World.setCell
 split
 all_goals
  show (b.heap.modify c _)[k]? = _
  rw [Array.getElem?_modify, if_neg (Ne.symm hc)]
theorem cell {c : Nat} {w w' : World} (h : Oth c w w') {b o : Nat} (hb : b < w.heap.size) (hc : b ≠ c) : w'.cell? ⟨b, o, none⟩ = w.cell? ⟨b, o, none⟩ := by
 unfold World.cell?
 rw [h.block b hb hc]
theorem frozen {c : Nat} {w w' : World} (h : Oth c w w') {b o : Nat} (hb : b < w.heap.size) (hc : b ≠ c) : w'.frozen? ⟨b, o, none⟩ = w.frozen? ⟨b, o, none⟩ := by
 unfold World.frozen?
 rw [h.block b hb hc]
end Oth
def Bts (w : World) (c : Nat) (A : Option Addr) (n : Nat) : Prop :=
 n ≤ 1048576 ∧ (0 < n → ∃ b o, A = some ⟨b, o, none⟩ ∧ b < w.heap.size ∧ b ≠ c ∧ ∀ j, j < n → ∃ x : Nat, x < 256 ∧ w.cell? ⟨b, o + j, none⟩ = some (.int .u8 (x : Int)))
theorem Bts.on {w w' : World} {c : Nat} {A : Option Addr} {n : Nat} (h : Bts w c A n) (k : Oth c w w') : Bts w' c A n := by
 refine ⟨h.1, fun hn => ?_⟩
 obtain ⟨b, o, hA, hb, hc, hj⟩ := h.2 hn
 refine ⟨b, o, hA, Nat.lt_of_lt_of_le hb k.size, hc, fun j hl => ?_⟩
 obtain ⟨x, hx, hcell⟩ := hj j hl
 exact ⟨x, hx, (k.cell hb hc).trans hcell⟩
def Cur (w : World) (c : Nat) (A : Option Addr) (n cap : Nat) : Prop :=
 c < w.heap.size ∧ (∀ o, w.frozen? ⟨c, o, none⟩ = false) ∧ Bts w c A n ∧ ∃ (i : Nat) (h : Int), i ≤ n ∧ w.cell? ⟨c, 0, none⟩ = some (.slice A n cap) ∧ w.cell? ⟨c, 1, none⟩ = some (.int .i64 i) ∧ w.cell? ⟨c, 2, none⟩ = some (.int .i64 h)
theorem Cur.bel {w w' : World} {c : Nat} {A : Option Addr} {n cap : Nat} (h : Cur w c A n cap) (k : Bel w w') : Cur w' c A n cap := by
 obtain ⟨l, f, hB, i, x, hi, c0, c1, c2⟩ := h
 exact ⟨Nat.lt_of_lt_of_le l (Bel.size k), fun o => (k.boxf c l o).trans (f o), hB.on (Oth.of_bel k), i, x, hi, (k.box c l 0).trans c0, (k.box c l 1).trans c1, (k.box c l 2).trans c2⟩
theorem and255 (y : Int) : 0 ≤ bits .and .i64 y 255 ∧ bits .and .i64 y 255 ≤ 255 := by
 show 0 ≤ IntKind.i64.wrap ((BitVec.ofInt 64 y &&& BitVec.ofInt 64 255).toNat : Int) ∧ IntKind.i64.wrap ((BitVec.ofInt 64 y &&& BitVec.ofInt 64 255).toNat : Int) ≤ 255
 have h : (BitVec.ofInt 64 y &&& BitVec.ofInt 64 255).toNat ≤ 255 := by
  rw [BitVec.toNat_and]
  exact Nat.le_trans Nat.and_le_right (by decide)
 generalize (BitVec.ofInt 64 y &&& BitVec.ofInt 64 255).toNat = m at h
 rw [IntKind.wrap_i64]
 omega
def Drew (w : World) (c : Nat) (A : Option Addr) (n cap : Nat) (lo hi : Int) (e : Ending) (w' : World) : Prop :=
 ∃ x : Int, lo ≤ x ∧ x ≤ hi ∧ e = .returned (.int .i64 x) ∧ Cur w' c A n cap ∧ Oth c w w'
set_option maxHeartbeats 1000000 in
theorem l1New_any (A : Option Addr) (n cap : Nat) (w : World) (hn : n ≤ 1048576) (hB : ∀ c, w.heap.size ≤ c → Bts w c A n) :
  Calls Tryd.prog 10 #[.slice A n cap] w fun e w' => e = .returned (.pointer (some ⟨w.heap.size, 0, none⟩)) ∧ Cur w' w.heap.size A n cap ∧ Bel w w' := by
 have HB := hide hB
 clear hB
 go_enter Tryd.func10, Tryd.ntmps10
 go_wp2_with (fail)
 go_loop [3, 4] (fun hv iv => ∃ (k : Nat) (h : Int), iv = .int .i64 k ∧ k ≤ n ∧ k ≤ 4000 ∧ hv = .int .i64 h) (fun _ iv => n - (intOf iv).toNat)
 case atStart => exact ⟨0, _, rfl, by omega, by omega, rfl⟩
 case round =>
  obtain ⟨k, h, rfl, k1, k2, rfl⟩ := hrel
  by_cases q : k < n
  ·
   have d1 : decide ((k : Int) < (n : Int)) = true := by simp; omega
   by_cases q2 : k < 4000
   ·
    have d2 : decide ((k : Int) < 4000) = true := by simp; omega
    obtain ⟨-, hb⟩ := HB.out w.heap.size (Nat.le_refl _)
    obtain ⟨b, o, rfl, hb1, hb2, hj⟩ := hb (by omega)
    obtain ⟨x, hx, hcell⟩ := hj k q
    clear hj hb
    go_wp2_with (fail)
    go_round
    case rel => exact ⟨k + 1, _, rfl, by omega, by omega, rfl⟩
    case measure => simp [intOf]; omega
   ·
    have d2 : decide ((k : Int) < 4000) = false := by simp; omega
    go_wp2_with (fail)
    all_goals
     go_returns
     refine ⟨rfl, ⟨by simp, fun o => by simp, (HB.out _ (Nat.le_refl _)).on (Oth.of_bel bl), 0, h, by omega, by simp, by simp, by simp⟩, bl⟩
  ·
   have d1 : decide ((k : Int) < (n : Int)) = false := by simp; omega
   go_wp2_with (fail)
   all_goals
    go_returns
    refine ⟨rfl, ⟨by simp, fun o => by simp, (HB.out _ (Nat.le_refl _)).on (Oth.of_bel bl), 0, h, by omega, by simp, by simp, by simp⟩, bl⟩
theorem Cur.put {w w' : World} {c : Nat} {A : Option Addr} {n cap : Nat} (h : Cur w c A n cap) (k : Oth c w w') (hf : ∀ o, w'.frozen? ⟨c, o, none⟩ = false) (i : Nat) (x : Int) (hi : i ≤ n) (c0 : w'.cell? ⟨c, 0, none⟩ = some (.slice A n cap)) (c1 : w'.cell? ⟨c, 1, none⟩ = some (.int .i64 i)) (c2 : w'.cell? ⟨c, 2, none⟩ = some (.int .i64 x)) : Cur w' c A n cap :=
 ⟨Nat.lt_of_lt_of_le h.1 k.size, hf, h.2.2.1.on k, i, x, hi, c0, c1, c2⟩
set_option maxHeartbeats 2000000 in
theorem l1Byte_any (c : Nat) (A : Option Addr) (n cap : Nat) (w : World) (hc : Cur w c A n cap) :
  Calls Tryd.prog 27 #[.pointer (some ⟨c, 0, none⟩)] w (Drew w c A n cap 0 255) := by
 have HC := hide hc
 obtain ⟨l, f, hB, i, h, hi, c0, c1, c2⟩ := hc
 have HB := hide hB
 clear hB
 by_cases q : i < n
 ·
  obtain ⟨hn, hb⟩ := HB.out
  obtain ⟨b, o, hA, hb1, hb2, hj⟩ := hb (by omega)
  subst hA
  obtain ⟨x, hx, hcell⟩ := hj i q
  clear hj hb
  have d1 : decide ((i : Int) < (n : Int)) = true := by simp; omega
  have i0 : 0 ≤ (i : Int) := by omega
  have i1 : (i : Int) < (n : Int) := by omega
  have hcb : c ≠ b := Ne.symm hb2
  go_enter Tryd.func27, Tryd.ntmps27
  go_wp2_with (fail)
  go_quiet (fail)
  go_wp2_with (fail)
  go_quiet (fail)
  go_wp2_with (fail)
  go_quiet (fail)
  go_wp2_with (fail)
  all_goals
   go_returns
   exact ⟨_, (and255 _).1, (and255 _).2, rfl, HC.out.put (by repeat' (first | exact Oth.refl _ _ | refine Oth.drewN ?_ _ | refine Oth.drew ?_ | refine Oth.set ?_ _ _)) (fun o => by simp [f]) (i + 1) (wrap64 (wrap64 (h * 6364136223846793005) + 1442695040888963407)) (by omega) (by simp [c0, go_sem]) (by simp [c1, go_sem]) (by simp [c2, go_sem]), (by repeat' (first | exact Oth.refl _ _ | refine Oth.drewN ?_ _ | refine Oth.drew ?_ | refine Oth.set ?_ _ _))⟩
 ·
  have d1 : decide ((i : Int) < (n : Int)) = false := by simp; omega
  go_enter Tryd.func27, Tryd.ntmps27
  go_wp2_with (fail)
  go_quiet (fail)
  go_wp2_with (fail)
  go_quiet (fail)
  go_wp2_with (fail)
  all_goals
   go_returns
   exact ⟨_, (and255 _).1, (and255 _).2, rfl, HC.out.put (by repeat' (first | exact Oth.refl _ _ | refine Oth.drewN ?_ _ | refine Oth.drew ?_ | refine Oth.set ?_ _ _)) (fun o => by simp [f]) i (wrap64 (wrap64 (h * 6364136223846793005) + 1442695040888963407)) (by omega) (by simp [c0, go_sem]) (by simp [c1, go_sem]) (by simp [c2, go_sem]), (by repeat' (first | exact Oth.refl _ _ | refine Oth.drewN ?_ _ | refine Oth.drew ?_ | refine Oth.set ?_ _ _))⟩
theorem Drew.mono {w : World} {c : Nat} {A : Option Addr} {n cap : Nat} {lo hi lo' hi' : Int} {e : Ending} {w' : World} (h : Drew w c A n cap lo hi e w') (h1 : lo' ≤ lo) (h2 : hi ≤ hi') : Drew w c A n cap lo' hi' e w' := by
 obtain ⟨x, a, b, r⟩ := h
 exact ⟨x, by omega, by omega, r⟩
def belowHi (m : Int) : Int := if m ≤ 0 then 0 else m - 1
theorem tmod_belowHi {x m : Int} (hx : 0 ≤ x) (hm : 0 < m) : 0 ≤ x.tmod m ∧ x.tmod m ≤ belowHi m := by
 rw [Int.tmod_eq_emod_of_nonneg hx]
 have h1 := Int.emod_nonneg x (show m ≠ 0 by omega)
 have h2 := Int.emod_lt_of_pos x hm
 unfold belowHi
 rw [if_neg (by omega)]
 omega
set_option maxHeartbeats 2000000 in
theorem l1Below_any (m : Int) (c : Nat) (A : Option Addr) (n cap : Nat) (w : World) (hc : Cur w c A n cap) (hm : InI m) :
  Calls Tryd.prog 12 #[.pointer (some ⟨c, 0, none⟩), .int .i64 m] w (Drew w c A n cap 0 (belowHi m)) := by
 unfold InI at hm
 have HC := hide hc
 clear hc
 by_cases h0 : m ≤ 0
 ·
  have hF := hide (show belowHi m = 0 by unfold belowHi; rw [if_pos h0])
  go_enter Tryd.func12, Tryd.ntmps12
  go_wp2_with (fail)
  all_goals
   go_returns
   exact ⟨0, by omega, by rw [hF.out]; omega, rfl, HC.out, Oth.refl _ _⟩
 have e0 : ¬ m = 0 := by omega
 have e00 : (m == 0) = false := by simp [e0]
 by_cases h1 : m ≤ 256
 ·
  go_enter Tryd.func12, Tryd.ntmps12
  go_wp2_with (go_at_call 27; refine (l1Byte_any c A n cap _ HC.out).mono ?_; rintro e w1 ⟨x, x1, x2, rfl, hC1, hO1⟩; have HC1 := hide hC1; have HO1 := hide hO1; clear hC1 hO1; have hR := hide (tmod_belowHi x1 (show 0 < m by omega)))
  all_goals
   go_returns
   have hR := hR.out
   rw [Int.tmod_eq_emod_of_nonneg (by omega)] at hR
   exact ⟨_, hR.1, hR.2, rfl, HC1.out, HO1.out⟩
 ·
  go_enter Tryd.func12, Tryd.ntmps12
  go_upto_region 6 with (go_at_call 27; refine (l1Byte_any c A n cap _ HC.out).mono ?_; rintro e w1 ⟨x, x1, x2, rfl, hC1, hO1⟩; have HC1 := hide hC1; have HO1 := hide hO1; clear hC1 hO1)
  go_upto_region 7 with (go_at_call 27; refine (l1Byte_any c A n cap _ HC1.out).mono ?_; rintro e w2 ⟨y, y1, y2, rfl, hC2, hO2⟩; have HC2 := hide hC2; have HO2 := hide hO2; clear hC2 hO2)
  go_upto_region 8 with (go_at_call 27; refine (l1Byte_any c A n cap _ HC2.out).mono ?_; rintro e w3 ⟨z, z1, z2, rfl, hC3, hO3⟩; have HC3 := hide hC3; have HO3 := hide hO3; clear hC3 hO3)
  go_upto_region 9 with (go_at_call 27; refine (l1Byte_any c A n cap _ HC3.out).mono ?_; rintro e w4 ⟨u, v1, v2, rfl, hC4, hO4⟩; have HC4 := hide hC4; have HO4 := hide hO4; clear hC4 hO4)
  have hR := hide (tmod_belowHi (x := x * 16777216 + y * 65536 + z * 256 + u) (m := m) (by omega) (by omega))
  go_wp2_with (fail)
  all_goals
   go_returns
   have hR := hR.out
   rw [Int.tmod_eq_emod_of_nonneg (by omega)] at hR
   exact ⟨_, hR.1, hR.2, rfl, HC4.out, ((HO1.out.trans HO2.out).trans HO3.out).trans HO4.out⟩
end Go.Proofs.YtdacpljinffnaaaDoor
namespace Go.Proofs.YtdacpljinffnaaaDoor
set_option linter.unusedVariables false
set_option linter.unusedSimpArgs false
set_option maxRecDepth 100000
open Go.RowKit
def DrewI (w : World) (c : Nat) (A : Option Addr) (n cap : Nat) (e : Ending) (w' : World) : Prop :=
 ∃ x : Int, InI x ∧ e = .returned (.int .i64 x) ∧ Cur w' c A n cap ∧ Oth c w w'
def DrewB (w : World) (c : Nat) (A : Option Addr) (n cap : Nat) (e : Ending) (w' : World) : Prop :=
 ∃ x : Bool, e = .returned (.bool x) ∧ Cur w' c A n cap ∧ Oth c w w'
def DrewT (w : World) (c : Nat) (A : Option Addr) (n cap m : Nat) (e : Ending) (w' : World) : Prop :=
 ∃ x : ByteArray, x.size ≤ m ∧ e = .returned (.string x) ∧ Cur w' c A n cap ∧ Oth c w w'
set_option maxHeartbeats 400000 in
theorem l1Once_any (m : Int) (c : Nat) (A : Option Addr) (n cap : Nat) (w : World) (hc : Cur w c A n cap) (hm : InI m) :
  Calls Tryd.prog 25 #[.pointer (some ⟨c, 0, none⟩), .int .i64 m] w (DrewB w c A n cap) := by
 have HC := hide hc
 clear hc
 go_enter Tryd.func25, Tryd.ntmps25
 go_wp2_with (go_at_call 12; refine (l1Below_any m c A n cap _ HC.out hm).mono ?_; rintro e w1 ⟨x, x1, x2, rfl, hC1, hO1⟩; have HC1 := hide hC1; have HO1 := hide hO1; clear hC1 hO1)
 all_goals
  go_returns
  exact ⟨_, rfl, HC1.out, HO1.out⟩
def RowI (w : World) (g : Nat) (m : Nat) : Prop := g < w.heap.size ∧ ∀ j, j < m → ∃ x : Int, InI x ∧ w.cell? ⟨g, j, none⟩ = some (.int .i64 x)
theorem RowI.on {w w' : World} {c g m : Nat} (h : RowI w g m) (k : Oth c w w') (hg : g ≠ c) : RowI w' g m :=
 ⟨Nat.lt_of_lt_of_le h.1 k.size, fun j hj => by obtain ⟨x, hx, hc⟩ := h.2 j hj; exact ⟨x, hx, (k.cell h.1 hg).trans hc⟩⟩
theorem rowI_new {w : World} {t : TypeId} (xs : List Int) (h : xs.all (fun x => decide (-9223372036854775808 ≤ x) && decide (x ≤ 9223372036854775807)) = true) : RowI (w.alloc (.cells (xs.map (Value.int .i64)).toArray t)) w.heap.size xs.length := by
 refine ⟨by simp, fun j hj => ⟨xs[j], ?_, ?_⟩⟩
 ·
  have := List.all_eq_true.1 h xs[j] (List.getElem_mem hj)
  simpa [InI] using this
 ·
  unfold World.cell?
  show (match (w.alloc _).heap[w.heap.size]? with | some (.cells c _ _) => _ | _ => _) = _
  rw [heap_alloc_new]
  simp [hj]
set_option maxHeartbeats 400000 in
theorem l1PickInt_any (g m cap' : Nat) (c : Nat) (A : Option Addr) (n cap : Nat) (w : World) (hc : Cur w c A n cap) (hr : RowI w g m) (hg : g ≠ c) (h0 : 0 < m) (h1 : m ≤ 1000) :
  Calls Tryd.prog 38 #[.pointer (some ⟨c, 0, none⟩), .slice (some ⟨g, 0, none⟩) m cap'] w (DrewI w c A n cap) := by
 have HC := hide hc
 have HR := hide hr
 clear hc hr
 have hb := hide (show belowHi (m : Int) = m - 1 by unfold belowHi; rw [if_neg (by omega)])
 go_enter Tryd.func38, Tryd.ntmps38
 go_wp2_with (go_at_call 12; refine (l1Below_any m c A n cap _ HC.out (by unfold InI; omega)).mono ?_; rintro e w1 ⟨x, x1, x2, rfl, hC1, hO1⟩; have HC1 := hide hC1; have HO1 := hide hO1; clear hC1 hO1; rw [hb.out] at x2; obtain ⟨j, rfl⟩ := Int.eq_ofNat_of_zero_le x1; obtain ⟨y, hy, hcell⟩ := (HR.out.on HO1.out hg).2 j (by omega); have i1 : (j : Int) < (m : Int) := (by omega); have i2 : j < m := (by omega); have hy' := hide hy; clear hy)
 all_goals
  go_returns
  exact ⟨y, hy'.out, rfl, HC1.out, HO1.out⟩
set_option maxHeartbeats 1000000 in
theorem l1Whole_any (c : Nat) (A : Option Addr) (n cap : Nat) (w : World) (hc : Cur w c A n cap) :
  Calls Tryd.prog 70 #[.pointer (some ⟨c, 0, none⟩)] w (DrewI w c A n cap) := by
 have HC := hide hc
 have hlt := hc.1
 clear hc
 go_enter Tryd.func70, Tryd.ntmps70
 go_upto_region 2 with (go_at_call 12; refine (l1Below_any 3 c A n cap _ HC.out (by unfold InI; omega)).mono ?_; rintro e w1 ⟨x, x1, x2, rfl, hC1, hO1⟩; have HC1 := hide hC1; have HO1 := hide hO1; clear hC1 hO1)
 have hsz := HO1.out.size
 rcases (show x = 0 ∨ x = 1 ∨ x = 2 by have : belowHi 3 = 2 := rfl; omega) with rfl | rfl | rfl
 ·
  go_wp2_with (go_at_call 38; refine (l1PickInt_any w1.heap.size 12 12 c A n cap _ (HC1.out.bel bl) (rowI_new [0, 1, -1, 9, 10, 999999, 1000000, 999999999999, 1000000000000, -999999999999, 9223372036854775807, -9223372036854775808] (by decide)) (by have := HC1.out.1; omega) (by omega) (by omega)).mono ?_; rintro e w2 ⟨y, hy, rfl, hC2, hO2⟩; have HC2 := hide hC2; have HO2 := hide hO2; have hy' := hide hy; clear hC2 hO2 hy)
  all_goals
   go_returns
   exact ⟨_, hy'.out, rfl, HC2.out, HO1.out.trans (Oth.trans (Oth.of_bel bl) HO2.out)⟩
 ·
  go_wp2_with (go_at_call 12; refine (l1Below_any 1000000 c A n cap _ HC1.out (by unfold InI; omega)).mono ?_; rintro e w2 ⟨y, y1, y2, rfl, hC2, hO2⟩; have HC2 := hide hC2; have HO2 := hide hO2; clear hC2 hO2; have y3 : y ≤ 999999 := y2; clear y2)
  all_goals
   go_returns
   exact ⟨_, by unfold InI; omega, rfl, HC2.out, HO1.out.trans HO2.out⟩
 ·
  go_wp2_with (go_at_call 12; refine (l1Below_any 20 c A n cap _ HC1.out (by unfold InI; omega)).mono ?_; rintro e w2 ⟨y, y1, y2, rfl, hC2, hO2⟩; have HC2 := hide hC2; have HO2 := hide hO2; clear hC2 hO2; have y3 : y ≤ 19 := y2; clear y2)
  all_goals
   go_returns
   exact ⟨_, by unfold InI; omega, rfl, HC2.out, HO1.out.trans HO2.out⟩
end Go.Proofs.YtdacpljinffnaaaDoor
namespace Go.Proofs.YtdacpljinffnaaaDoor
set_option linter.unusedVariables false
set_option linter.unusedSimpArgs false
set_option maxRecDepth 100000
open Go.RowKit
def RowT (w : World) (g : Nat) (m K : Nat) : Prop := g < w.heap.size ∧ ∀ j, j < m → ∃ x : ByteArray, x.size ≤ K ∧ w.cell? ⟨g, j, none⟩ = some (.string x)
theorem RowT.on {w w' : World} {c g m K : Nat} (h : RowT w g m K) (k : Oth c w w') (hg : g ≠ c) : RowT w' g m K :=
 ⟨Nat.lt_of_lt_of_le h.1 k.size, fun j hj => by obtain ⟨x, hx, hc⟩ := h.2 j hj; exact ⟨x, hx, (k.cell h.1 hg).trans hc⟩⟩
theorem rowT_new {w : World} {t : TypeId} (K : Nat) (xs : List ByteArray) (h : xs.all (fun x => decide (x.size ≤ K)) = true) : RowT (w.alloc (.cells (xs.map Value.string).toArray t)) w.heap.size xs.length K := by
 refine ⟨by simp, fun j hj => ⟨xs[j], ?_, ?_⟩⟩
 ·
  have := List.all_eq_true.1 h xs[j] (List.getElem_mem hj)
  simpa using this
 ·
  unfold World.cell?
  show (match (w.alloc _).heap[w.heap.size]? with | some (.cells c _ _) => _ | _ => _) = _
  rw [heap_alloc_new]
  simp [hj]
set_option maxHeartbeats 400000 in
theorem l1Pick_any (g m K cap' : Nat) (c : Nat) (A : Option Addr) (n cap : Nat) (w : World) (hc : Cur w c A n cap) (hr : RowT w g m K) (hg : g ≠ c) (h0 : 0 < m) (h1 : m ≤ 1000) :
  Calls Tryd.prog 37 #[.pointer (some ⟨c, 0, none⟩), .slice (some ⟨g, 0, none⟩) m cap'] w (DrewT w c A n cap K) := by
 have HC := hide hc
 have HR := hide hr
 clear hc hr
 have hb := hide (show belowHi (m : Int) = m - 1 by unfold belowHi; rw [if_neg (by omega)])
 go_enter Tryd.func37, Tryd.ntmps37
 go_wp2_with (go_at_call 12; refine (l1Below_any m c A n cap _ HC.out (by unfold InI; omega)).mono ?_; rintro e w1 ⟨x, x1, x2, rfl, hC1, hO1⟩; have HC1 := hide hC1; have HO1 := hide hO1; clear hC1 hO1; rw [hb.out] at x2; obtain ⟨j, rfl⟩ := Int.eq_ofNat_of_zero_le x1; obtain ⟨y, hy, hcell⟩ := (HR.out.on HO1.out hg).2 j (by omega); have i1 : (j : Int) < (m : Int) := (by omega); have i2 : j < m := (by omega); have hy' := hide hy; clear hy)
 all_goals
  go_returns
  exact ⟨y, hy'.out, rfl, HC1.out, HO1.out⟩
end Go.Proofs.YtdacpljinffnaaaDoor
namespace Go.Proofs.YtdacpljinffnaaaDoor
set_option linter.unusedVariables false
set_option linter.unusedSimpArgs false
set_option maxRecDepth 100000
open Go.ChangeShapes Go.WideShapes Go.ChangeAt Go.RowKit Go.Deep
theorem cell_in {w : World} {a : Addr} {v : Value} (h : w.cell? a = some v) : a.spot = none ∧ a.block < w.heap.size := by
 unfold World.cell? at h
 split at h
 ·
  rename_i c _ _ hb
  refine ⟨?_, ?_⟩
  ·
   split at h
   ·
    cases h
   ·
    rename_i hs; cases hsp : a.spot with
    | none => rfl
    | some x => rw [hsp] at hs; simp at hs
  ·
   rcases Nat.lt_or_ge a.block w.heap.size with h' | h'
   ·
    exact h'
   ·
    rw [Array.getElem?_eq_none h'] at hb; cases hb
 ·
  cases h
theorem bounds_u8' {n : Int} (h : (Lit.int .u8 n).wf = true) : 0 ≤ n ∧ n < 256 := by
 have e1 : IntKind.u8.min = 0 := by decide
 have e2 : IntKind.u8.max = 255 := by decide
 simp [Lit.wf, e1, e2] at h
 omega
theorem open_bytes {H : Type} {enc : TypeId × Value → H} {W : World} {spare : Nat → Bool} {held : Bool} {A : Option Addr} {n cap : Nat} {d : DataW H} {p : List MemPlace}
  (h : DataW.Trod enc Tryd.prog W 0 spare held 22 (.slice A n cap) d p) : ∀ c, W.heap.size ≤ c → n ≤ 1048576 → Bts W c A n := by
 intro c hc hn
 refine ⟨hn, fun h0 => ?_⟩
 obtain ⟨fuel, hf⟩ := h
 rcases open_slice1 Tryd.underlying22 (by kernel_rfl) hf with ⟨e, _⟩ | ⟨a, len, cap', m, k, V, D, Pl, e, _, hl, _, hm, _, hi⟩
 ·
  simp only [Value.cells] at e
  injection e with e _
  injection e with e1 e2 e3
  omega
 ·
  simp only [Value.cells] at e
  injection e with e _
  injection e with e1 e2 e3
  subst e1 e2 e3
  have hlm : n ≤ m := by rw [hm]; split <;> omega
  have hz := hi 0 (by omega)
  have hz1 := cell_in hz.1
  obtain ⟨b, o, sp⟩ := a
  simp only [Addr.add] at hz1
  obtain ⟨rfl, hb⟩ := hz1
  refine ⟨b, o, rfl, hb, by show b ≠ c; have : b < W.heap.size := hb; omega, fun j hj => ?_⟩
  obtain ⟨h1, h2⟩ := hi j (by omega)
  obtain ⟨x, ex, _, wx⟩ := DataW.trod_int (cs := [V j]) Tryd.underlying5 h2
  simp only [List.cons.injEq, and_true] at ex
  have hx := bounds_u8' wx
  refine ⟨x.toNat, by omega, ?_⟩
  rw [show ((x.toNat : Nat) : Int) = x by omega, ← ex]
  rcases Nat.eq_zero_or_pos j with h0 | h0
  ·
   subst h0; simpa [Addr.add] using h1
  ·
   have h9 : ¬ j = 0 := by omega
   simpa [Addr.add, h9] using h1
end Go.Proofs.YtdacpljinffnaaaDoor
