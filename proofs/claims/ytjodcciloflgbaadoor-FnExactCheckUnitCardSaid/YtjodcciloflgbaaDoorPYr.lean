/- What a name means in a procedure: plain. -/
import Derived.Test.YtjodcciloflgbaaDoorPr
import Derived.Test.YtjodcciloflgbaaDoorPYf
import Derived.Test.YtjodcciloflgbaaDoorPY6
namespace Go.Proofs.YtjodcciloflgbaaDoor
set_option linter.unusedVariables false
set_option linter.unusedSimpArgs false
set_option maxRecDepth 100000
open Go.RowKit
theorem index_row (xs : List ByteArray) (x : ByteArray) (S : Nat → Prop) (w : World) (A : Option Addr) (c : Nat) (hR : Row w S 1 A c (strsD xs)) :
  Calls Tryd.prog 29 #[.slice A xs.length c, .string x] w fun e w' => e = .returned (.int .i64 (Lib.idxOfS xs x)) ∧ w = w' := by
 rcases Nat.eq_zero_or_pos xs.length with h0 | h0
 ·
  obtain rfl : xs = [] := List.eq_nil_of_length_eq_zero h0
  exact (Tryd.slices_Index_string_empty A c x w).mono fun e w' ⟨h1, h2⟩ => ⟨h1, h2.symm⟩
 ·
  obtain ⟨b, oo, rfl, -, hb⟩ := Row.addr hR (by simpa using h0)
  have hlen := hR.1
  have hcm := hR.2.1
  simp only [strsD, List.length_map] at hlen
  unfold maxLen at hcm
  have h := Tryd.slices_Index_string b oo xs.length c xs x w (Nat.le_refl _) (by omega) (fun j hj => Row.strs hR j hj)
  rw [List.take_length] at h
  exact h.mono fun e w' ⟨h1, h2⟩ => ⟨h1, h2.symm⟩
def resV (R : List TRecordType) (G : List ByteArray) (P : List TProcedure) (q : TProcedure) (x : ByteArray) : Int × Int := if 0 ≤ Lib.idxOfS (locL R G P q) x then (1, Lib.idxOfS (locL R G P q) x) else outP R G P x
def resF (R : List TRecordType) (G : List ByteArray) (P : List TProcedure) (i : Int) (x : ByteArray) : Int × Int := if unitB (.mk R G P) = true ∧ 0 ≤ i then (match P[i.toNat]? with | some q => resV R G P q x | none => (0, 0)) else (0, 0)
theorem res_in {R : List TRecordType} {G : List ByteArray} {P : List TProcedure} {m : Nat} {x : ByteArray} (h : unitB (.mk R G P) = true) (hm : m < P.length) : resF R G P (m : Int) x = resV R G P P[m] x := by
 unfold resF
 rw [if_pos ⟨h, by omega⟩, Int.toNat_natCast, List.getElem?_eq_getElem hm]
theorem res_out {R : List TRecordType} {G : List ByteArray} {P : List TProcedure} {i : Int} {x : ByteArray} (h : unitB (.mk R G P) = false ∨ i < 0 ∨ (P.length : Int) ≤ i) : resF R G P i x = (0, 0) := by
 unfold resF
 rcases h with h | h | h
 ·
  rw [if_neg (by rw [h]; simp)]
 ·
  rw [if_neg (by omega)]
 ·
  split
  ·
   rw [List.getElem?_eq_none (by omega)]
  ·
   rfl
abbrev ResC (f : FuncId) : Prop := ∀ (R : List TRecordType) (G : List ByteArray) (P : List TProcedure) (i : Int) (x : ByteArray) (S : Nat → Prop) (w : World) (us : List Value), Sp w → Dat.HoldVals w S (TUnit.mk R G P).D us → Dat.wtL (TUnit.mk R G P).D ≤ 1048576 →
 Calls Tryd.prog f #[.agg us.toArray, .int .i64 i, .string x] w fun e w' => e = .returned (.tuple #[.int .i64 (resF R G P i x).1, .int .i64 (resF R G P i x).2]) ∧ Bel w w'
end Go.Proofs.YtjodcciloflgbaaDoor
namespace Go.Proofs.YtjodcciloflgbaaDoor
open Go.RowKit
end Go.Proofs.YtjodcciloflgbaaDoor
namespace Go.Proofs.YtjodcciloflgbaaDoor
open Go.RowKit
set_option maxRecDepth 8000 in
set_option maxHeartbeats 8000000 in
theorem implRes_of (hUnit : ∀ t, UnitC 28 t) : ResC 9 := by
 have HUN := hide hUnit
 clear hUnit
 intro R G P i x S w us hsp hu hwt
 have HT := hide hsp
 have HU := hide hu
 have HW := hide hwt
 obtain ⟨A0, c0, A1, c1, A2, c2, rfl, -, -, g2⟩ := TUnit.vals hu
 have hlp := g2.1
 have hcp := g2.2.1
 simp only [List.length_map] at hlp
 unfold maxLen at hcp
 clear hsp hu hwt g2
 cases hval : unitB (TUnit.mk R G P)
 case false => as_aux_lemma =>
  have HVAL := hide hval
  have HZ := hide (show resF R G P i x = (0, 0) from res_out (Or.inl hval))
  exact rk6
 case true =>
 have HVAL := hide hval
 by_cases hi0 : 0 ≤ i
 case neg => as_aux_lemma =>
  have d0 : decide (i < 0) = true := by simp; omega
  have HZ := hide (show resF R G P i x = (0, 0) from res_out (Or.inr (Or.inl (by omega))))
  exact rk6
 case pos =>
 have d0 : decide (i < 0) = false := by simp; omega
 by_cases hi1 : i < (P.length : Int)
 case neg => as_aux_lemma =>
  have d1 : decide ((P.length : Int) ≤ i) = true := by simp; omega
  have HZ := hide (show resF R G P i x = (0, 0) from res_out (Or.inr (Or.inr (by omega))))
  exact rk6
 case pos =>
 obtain ⟨m, rfl⟩ := Int.eq_ofNat_of_zero_le hi0
 have hm : m < P.length := by omega
 have d1 : decide ((P.length : Int) ≤ (m : Int)) = false := by simp; omega
 have d1n : decide (P.length ≤ m) = false := by simp; omega
 clear hi0 hi1
 obtain ⟨ix, hix⟩ : ∃ ix, Lib.idxOfS (locL R G P P[m]) x = ix := ⟨_, rfl⟩
 have HIX := hide hix
 have HRV := hide (show resF R G P (m : Int) x = if 0 ≤ ix then (1, ix) else outP R G P x by rw [res_in hval hm]; unfold resV; rw [hix])
 clear hix hval
 by_cases hx : 0 ≤ ix
 case pos => as_aux_lemma =>
  have dx : decide (0 ≤ ix) = true := by simpa using hx
  have HZ := hide (HRV.out.trans (if_pos hx))
  clear hx
  go_enter Tryd.func9, Tryd.ntmps9
  go_wp2_with (first | (go_at_call 28; refine (HUN.out (TUnit.mk R G P) S _ _ (HT.out.on bl) (Dat.HoldVals.bel bl HU.out) HW.out).mono ?_; rintro e w1 ⟨rfl, hb1⟩; rw [HVAL.out]; (have hz1 := hb1.sz; obtain ⟨hk1_0, hf1_0, hl1_0, hn1_0⟩ := hb1.lay (w.heap.size))) | (go_at_call 30; refine (implLoc_any R G P m hm S _ _ (HT.out.on bl) (Dat.HoldVals.bel bl HU.out) HW.out HVAL.out).mono ?_; rintro e w2 ⟨v2, rfl, ho2, hb2⟩; obtain ⟨LA, lc, rfl, hrow⟩ := OwnS.row ho2; have HRW := hide hrow; clear ho2 hrow; (have hz2 := hb2.sz; obtain ⟨hk2_0, hf2_0, hl2_0, hn2_0⟩ := hb2.lay (w.heap.size))) | (go_at_call 29; refine (index_row (locL R G P P[m]) x (fun _ => True) _ _ _ (Row.bel bl HRW.out)).mono ?_; rintro e w3 ⟨rfl, rfl⟩; rw [HIX.out]))
  all_goals
   go_returns
   exact ⟨by rw [HZ.out]; first | done | rfl, bl⟩
 case neg => as_aux_lemma =>
  have dx : decide (0 ≤ ix) = false := by simpa using hx
  have HZ := hide (HRV.out.trans (if_neg hx))
  clear hx
  go_enter Tryd.func9, Tryd.ntmps9
  go_wp2_with (first | (go_at_call 28; refine (HUN.out (TUnit.mk R G P) S _ _ (HT.out.on bl) (Dat.HoldVals.bel bl HU.out) HW.out).mono ?_; rintro e w1 ⟨rfl, hb1⟩; rw [HVAL.out]; (have hz1 := hb1.sz; obtain ⟨hk1_0, hf1_0, hl1_0, hn1_0⟩ := hb1.lay (w.heap.size))) | (go_at_call 30; refine (implLoc_any R G P m hm S _ _ (HT.out.on bl) (Dat.HoldVals.bel bl HU.out) HW.out HVAL.out).mono ?_; rintro e w2 ⟨v2, rfl, ho2, hb2⟩; obtain ⟨LA, lc, rfl, hrow⟩ := OwnS.row ho2; have HRW := hide hrow; clear ho2 hrow; (have hz2 := hb2.sz; obtain ⟨hk2_0, hf2_0, hl2_0, hn2_0⟩ := hb2.lay (w.heap.size))) | (go_at_call 29; refine (index_row (locL R G P P[m]) x (fun _ => True) _ _ _ (Row.bel bl HRW.out)).mono ?_; rintro e w3 ⟨rfl, rfl⟩; rw [HIX.out]) | (go_at_call 31; refine (outside_any R G P x S _ _ (HT.out.on bl) (Dat.HoldVals.bel bl HU.out)).mono ?_; rintro e w4 ⟨rfl, hb4⟩))
  all_goals
   go_returns
   exact ⟨by rw [HZ.out]; first | done | rfl, bl⟩
end Go.Proofs.YtjodcciloflgbaaDoor
namespace Go.Proofs.YtjodcciloflgbaaDoor
open Go.RowKit
end Go.Proofs.YtjodcciloflgbaaDoor
