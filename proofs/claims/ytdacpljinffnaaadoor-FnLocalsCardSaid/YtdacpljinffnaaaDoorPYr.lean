/- What a name means in a procedure: plain. -/
import Derived.Test.YtdacpljinffnaaaDoorPYf
import Derived.Test.YtdacpljinffnaaaDoorPY6
import Derived.Test.YtdacpljinffnaaaDoorPOw
import Derived.Deep.Onto
namespace Go.Proofs.YtdacpljinffnaaaDoor
set_option linter.unusedVariables false
set_option linter.unusedSimpArgs false
set_option maxRecDepth 100000
open Go.RowKit
theorem index_row (xs : List ByteArray) (x : ByteArray) (S : Nat → Prop) (w : World) (A : Option Addr) (c : Nat) (hR : Row w S 1 A c (strsD xs)) :
  Calls Tryd.prog 22 #[.slice A xs.length c, .string x] w fun e w' => e = .returned (.int .i64 (Lib.idxOfS xs x)) ∧ w = w' := by
 rcases Nat.eq_zero_or_pos xs.length with h0 | h0
 ·
  obtain rfl : xs = [] := List.eq_nil_of_length_eq_zero h0
  exact (Tryd.slices_Index_string_empty A c x w).mono fun e w' ⟨h1, h2⟩ => ⟨h1, h2.symm⟩
 ·
  obtain ⟨b, oo, rfl, -, hb⟩ := Row.addr hR (by simpa using h0)
  have hlen := hR.1
  have hcm := hR.2.1
  simp only [strsD, List.length_map] at hlen
  unfold maxLen at hcm
  have h := Tryd.slices_Index_string b oo xs.length c xs x w (Nat.le_refl _) (by omega) (fun j hj => Row.strs hR j hj)
  rw [List.take_length] at h
  exact h.mono fun e w' ⟨h1, h2⟩ => ⟨h1, h2.symm⟩
def resV (R : List TRecordType) (G : List ByteArray) (P : List TProcedure) (q : TProcedure) (x : ByteArray) : Int × Int := if 0 ≤ Lib.idxOfS (locL R G P q) x then (1, Lib.idxOfS (locL R G P q) x) else outP R G P x
def resF (R : List TRecordType) (G : List ByteArray) (P : List TProcedure) (i : Int) (x : ByteArray) : Int × Int := if unitB (.mk R G P) = true ∧ 0 ≤ i then (match P[i.toNat]? with | some q => resV R G P q x | none => (0, 0)) else (0, 0)
theorem res_in {R : List TRecordType} {G : List ByteArray} {P : List TProcedure} {m : Nat} {x : ByteArray} (h : unitB (.mk R G P) = true) (hm : m < P.length) : resF R G P (m : Int) x = resV R G P P[m] x := by
 unfold resF
 rw [if_pos ⟨h, by omega⟩, Int.toNat_natCast, List.getElem?_eq_getElem hm]
theorem res_out {R : List TRecordType} {G : List ByteArray} {P : List TProcedure} {i : Int} {x : ByteArray} (h : unitB (.mk R G P) = false ∨ i < 0 ∨ (P.length : Int) ≤ i) : resF R G P i x = (0, 0) := by
 unfold resF
 rcases h with h | h | h
 ·
  rw [if_neg (by rw [h]; simp)]
 ·
  rw [if_neg (by omega)]
 ·
  split
  ·
   rw [List.getElem?_eq_none (by omega)]
  ·
   rfl
abbrev ResC (f : FuncId) : Prop := ∀ (R : List TRecordType) (G : List ByteArray) (P : List TProcedure) (i : Int) (x : ByteArray) (S : Nat → Prop) (w : World) (us : List Value), Sp w → Dat.HoldVals w S (TUnit.mk R G P).D us → Dat.wtL (TUnit.mk R G P).D ≤ 1048576 →
 Calls Tryd.prog f #[.agg us.toArray, .int .i64 i, .string x] w fun e w' => e = .returned (.tuple #[.int .i64 (resF R G P i x).1, .int .i64 (resF R G P i x).2]) ∧ Bel w w'
end Go.Proofs.YtdacpljinffnaaaDoor
namespace Go.Proofs.YtdacpljinffnaaaDoor
open Go.RowKit
end Go.Proofs.YtdacpljinffnaaaDoor
namespace Go.Proofs.YtdacpljinffnaaaDoor
open Go.RowKit
set_option maxRecDepth 8000 in
set_option maxHeartbeats 8000000 in
theorem implRes_of (hUnit : ∀ t, UnitC 13 t) : ResC 9 := by
 have HUN := hide hUnit
 clear hUnit
 intro R G P i x S w us hsp hu hwt
 have HT := hide hsp
 have HU := hide hu
 have HW := hide hwt
 obtain ⟨A0, c0, A1, c1, A2, c2, rfl, -, -, g2⟩ := TUnit.vals hu
 have hlp := g2.1
 have hcp := g2.2.1
 simp only [List.length_map] at hlp
 unfold maxLen at hcp
 clear hsp hu hwt g2
 cases hval : unitB (TUnit.mk R G P)
 case false => as_aux_lemma =>
  have HVAL := hide hval
  have HZ := hide (show resF R G P i x = (0, 0) from res_out (Or.inl hval))
  go_enter Tryd.func9, Tryd.ntmps9
  go_wp2_with (go_at_call 13; refine (HUN.out (TUnit.mk R G P) S _ _ (HT.out.on bl) (Dat.HoldVals.bel bl HU.out) HW.out).mono ?_; rintro e w1 ⟨rfl, hb1⟩; rw [HVAL.out]; (have hz1 := hb1.sz; obtain ⟨hk1_0, hf1_0, hl1_0, hn1_0⟩ := hb1.lay (w.heap.size)))
  all_goals
   go_returns
   exact ⟨by rw [HZ.out]; first | done | rfl, bl⟩
 case true =>
 have HVAL := hide hval
 by_cases hi0 : 0 ≤ i
 case neg => as_aux_lemma =>
  have d0 : decide (i < 0) = true := by simp; omega
  have HZ := hide (show resF R G P i x = (0, 0) from res_out (Or.inr (Or.inl (by omega))))
  go_enter Tryd.func9, Tryd.ntmps9
  go_wp2_with (go_at_call 13; refine (HUN.out (TUnit.mk R G P) S _ _ (HT.out.on bl) (Dat.HoldVals.bel bl HU.out) HW.out).mono ?_; rintro e w1 ⟨rfl, hb1⟩; rw [HVAL.out]; (have hz1 := hb1.sz; obtain ⟨hk1_0, hf1_0, hl1_0, hn1_0⟩ := hb1.lay (w.heap.size)))
  all_goals
   go_returns
   exact ⟨by rw [HZ.out]; first | done | rfl, bl⟩
 case pos =>
 have d0 : decide (i < 0) = false := by simp; omega
 by_cases hi1 : i < (P.length : Int)
 case neg => as_aux_lemma =>
  have d1 : decide ((P.length : Int) ≤ i) = true := by simp; omega
  have HZ := hide (show resF R G P i x = (0, 0) from res_out (Or.inr (Or.inr (by omega))))
  go_enter Tryd.func9, Tryd.ntmps9
  go_wp2_with (go_at_call 13; refine (HUN.out (TUnit.mk R G P) S _ _ (HT.out.on bl) (Dat.HoldVals.bel bl HU.out) HW.out).mono ?_; rintro e w1 ⟨rfl, hb1⟩; rw [HVAL.out]; (have hz1 := hb1.sz; obtain ⟨hk1_0, hf1_0, hl1_0, hn1_0⟩ := hb1.lay (w.heap.size)))
  all_goals
   go_returns
   exact ⟨by rw [HZ.out]; first | done | rfl, bl⟩
 case pos =>
 obtain ⟨m, rfl⟩ := Int.eq_ofNat_of_zero_le hi0
 have hm : m < P.length := by omega
 have d1 : decide ((P.length : Int) ≤ (m : Int)) = false := by simp; omega
 have d1n : decide (P.length ≤ m) = false := by simp; omega
 clear hi0 hi1
 obtain ⟨ix, hix⟩ : ∃ ix, Lib.idxOfS (locL R G P P[m]) x = ix := ⟨_, rfl⟩
 have HIX := hide hix
 have HRV := hide (show resF R G P (m : Int) x = if 0 ≤ ix then (1, ix) else outP R G P x by rw [res_in hval hm]; unfold resV; rw [hix])
 clear hix hval
 by_cases hx : 0 ≤ ix
 case pos => as_aux_lemma =>
  have dx : decide (0 ≤ ix) = true := by simpa using hx
  have HZ := hide (HRV.out.trans (if_pos hx))
  clear hx
  go_enter Tryd.func9, Tryd.ntmps9
  go_wp2_with (first | (go_at_call 13; refine (HUN.out (TUnit.mk R G P) S _ _ (HT.out.on bl) (Dat.HoldVals.bel bl HU.out) HW.out).mono ?_; rintro e w1 ⟨rfl, hb1⟩; rw [HVAL.out]; (have hz1 := hb1.sz; obtain ⟨hk1_0, hf1_0, hl1_0, hn1_0⟩ := hb1.lay (w.heap.size))) | (go_at_call 14; refine (implLoc_any R G P m hm S _ _ (HT.out.on bl) (Dat.HoldVals.bel bl HU.out) HW.out HVAL.out).mono ?_; rintro e w2 ⟨v2, rfl, ho2, hb2⟩; obtain ⟨LA, lc, rfl, hrow⟩ := OwnS.row ho2; have HRW := hide hrow; clear ho2 hrow; (have hz2 := hb2.sz; obtain ⟨hk2_0, hf2_0, hl2_0, hn2_0⟩ := hb2.lay (w.heap.size))) | (go_at_call 22; refine (index_row (locL R G P P[m]) x (fun _ => True) _ _ _ (Row.bel bl HRW.out)).mono ?_; rintro e w3 ⟨rfl, rfl⟩; rw [HIX.out]))
  all_goals
   go_returns
   exact ⟨by rw [HZ.out]; first | done | rfl, bl⟩
 case neg => as_aux_lemma =>
  have dx : decide (0 ≤ ix) = false := by simpa using hx
  have HZ := hide (HRV.out.trans (if_neg hx))
  clear hx
  go_enter Tryd.func9, Tryd.ntmps9
  go_wp2_with (first | (go_at_call 13; refine (HUN.out (TUnit.mk R G P) S _ _ (HT.out.on bl) (Dat.HoldVals.bel bl HU.out) HW.out).mono ?_; rintro e w1 ⟨rfl, hb1⟩; rw [HVAL.out]; (have hz1 := hb1.sz; obtain ⟨hk1_0, hf1_0, hl1_0, hn1_0⟩ := hb1.lay (w.heap.size))) | (go_at_call 14; refine (implLoc_any R G P m hm S _ _ (HT.out.on bl) (Dat.HoldVals.bel bl HU.out) HW.out HVAL.out).mono ?_; rintro e w2 ⟨v2, rfl, ho2, hb2⟩; obtain ⟨LA, lc, rfl, hrow⟩ := OwnS.row ho2; have HRW := hide hrow; clear ho2 hrow; (have hz2 := hb2.sz; obtain ⟨hk2_0, hf2_0, hl2_0, hn2_0⟩ := hb2.lay (w.heap.size))) | (go_at_call 22; refine (index_row (locL R G P P[m]) x (fun _ => True) _ _ _ (Row.bel bl HRW.out)).mono ?_; rintro e w3 ⟨rfl, rfl⟩; rw [HIX.out]) | (go_at_call 23; refine (outside_any R G P x S _ _ (HT.out.on bl) (Dat.HoldVals.bel bl HU.out)).mono ?_; rintro e w4 ⟨rfl, hb4⟩))
  all_goals
   go_returns
   exact ⟨by rw [HZ.out]; first | done | rfl, bl⟩
end Go.Proofs.YtdacpljinffnaaaDoor
namespace Go.Proofs.YtdacpljinffnaaaDoor
open Go.RowKit
def resT : TUnit → Int → ByteArray → Int × Int
 | ⟨R, G, P⟩, i, x => resF R G P i x
end Go.Proofs.YtdacpljinffnaaaDoor
namespace Go.Proofs.YtdacpljinffnaaaDoor
set_option linter.unusedVariables false
set_option linter.unusedSimpArgs false
set_option maxRecDepth 100000
open Go.RowKit
theorem own_strs {w : World} {g : Nat} : ∀ (xs : List ByteArray) (o : Nat), (∀ i (hi : i < xs.length), w.cell? ⟨g, o + i, none⟩ = some (.string xs[i])) → (∀ x ∈ xs, x.size ≤ maxLen) → Dat.OwnRows w 1 g o [] (strsD xs)
 | [], o, _, _ => by simp only [strsD, List.map_nil, Dat.OwnRows]
 | x :: r, o, h, hs => by
  simp only [strsD, List.map_cons, Dat.OwnRows]
  refine ⟨[], [], rfl, ⟨[], [], rfl, ⟨.string x, ?_, Dat.own_str.2 ⟨rfl, rfl, hs x (by simp)⟩⟩, rfl⟩, rfl, ?_⟩
  ·
   have := h 0 (by simp)
   simpa using this
  ·
   refine own_strs r (o + 1) (fun i hi => ?_) (fun y hy => hs y (by simp [hy]))
   have := h (i + 1) (by simpa using hi)
   rw [List.getElem_cons_succ] at this
   rw [Nat.add_assoc, Nat.add_comm 1 i]
   exact this
theorem OwnS.made {w w' : World} {v : Value} {xs : List ByteArray} (h : OwnS w w' v xs) (hb : Bel w w') : MadeRL w 1 (strsD xs) (.returned v) w' := by
 obtain ⟨⟨h1, h2⟩, h3⟩ := h
 rcases h2 with ⟨rfl, h0⟩ | ⟨g, cap, cur, rfl, hg, hh, hn, hm, hs, ht⟩
 ·
  have : xs = [] := List.eq_nil_of_length_eq_zero h0
  subst this
  exact ⟨none, 0, [], rfl, ⟨by simp, by unfold maxLen; omega, Or.inl ⟨rfl, rfl⟩⟩, List.nodup_nil, fun b hb => by simp at hb, hb⟩
 ·
  by_cases hx : xs = []
  ·
   subst hx
   exact ⟨some ⟨g, 0, none⟩, cap, [], rfl, ⟨by simp, hm, Or.inl ⟨rfl, rfl⟩⟩, List.nodup_nil, fun b hb => by simp at hb, hb⟩
  ·
   refine ⟨some ⟨g, 0, none⟩, cap, [g], by simp [strsD], ⟨by simpa [strsD] using hn, hm, Or.inr ⟨by simpa [strsD] using hx, g, 0, [], rfl, heap_lt hh, fun i => by simp [World.frozen?, hh], rfl, own_strs xs 0 (fun i hi => ?_) h3⟩⟩, by simp, fun b hb => by have := List.mem_singleton.1 hb; omega, hb⟩
   rw [Nat.zero_add, cell_of_row w' g i cur 9 (0, 0) hh]
   have : cur.toList[i]? = (cur.toList.take (xs.length * 1))[i]? := by rw [List.getElem?_take_of_lt (by omega)]
   rw [← Array.getElem?_toList, this, ht]
   simp [hi]
theorem MadeRL.up {w wc w' : World} {k : Nat} {xs : List (List Dat)} {e : Ending} (h : MadeRL wc k xs e w') (hb : Bel w wc) : MadeRL w k xs e w' := by
 obtain ⟨A, c, L, he, ho, hn, hl, hb2⟩ := h
 exact ⟨A, c, L, he, ho, hn, fun b hb' => Nat.le_trans hb.size (hl b hb'), Bel.trans hb hb2⟩
def locF (R : List TRecordType) (G : List ByteArray) (P : List TProcedure) (i : Int) : List ByteArray := if unitB (.mk R G P) = true ∧ 0 ≤ i then (match P[i.toNat]? with | some q => locL R G P q | none => []) else []
def locT : TUnit → Int → List ByteArray
 | ⟨R, G, P⟩, i => locF R G P i
theorem loc_in {R : List TRecordType} {G : List ByteArray} {P : List TProcedure} {m : Nat} (h : unitB (.mk R G P) = true) (hm : m < P.length) : locF R G P (m : Int) = locL R G P P[m] := by
 unfold locF
 rw [if_pos ⟨h, by omega⟩, Int.toNat_natCast, List.getElem?_eq_getElem hm]
theorem loc_out {R : List TRecordType} {G : List ByteArray} {P : List TProcedure} {i : Int} (h : unitB (.mk R G P) = false ∨ i < 0 ∨ (P.length : Int) ≤ i) : locF R G P i = [] := by
 unfold locF
 by_cases c : unitB (.mk R G P) = true ∧ 0 ≤ i
 ·
  rw [if_pos c]
  have : P.length ≤ i.toNat := by
   rcases h with h | h | h
   ·
    rw [h] at c; exact absurd c.1 (by simp)
   ·
    omega
   ·
    omega
  rw [List.getElem?_eq_none this]
 ·
  rw [if_neg c]
theorem locF_len (R : List TRecordType) (G : List ByteArray) (P : List TProcedure) (i : Int) : (locF R G P i).length ≤ 700 := by
 unfold locF
 split
 ·
  next c =>
  split
  ·
   next q hq =>
   obtain ⟨hm, rfl⟩ := List.getElem?_eq_some_iff.1 hq
   have h := proc_parts (proc_ok c.1 hm)
   have := TExpr.col_len (outO R G P) P[i.toNat].body (P[i.toNat].pars ++ P[i.toNat].locs)
   unfold locL
   rw [List.length_append] at this
   omega
  ·
   simp
 ·
  simp
theorem locT_len (t : TUnit) (i : Int) : (locT t i).length ≤ 700 := by
 obtain ⟨R, G, P⟩ := t
 exact locF_len R G P i
abbrev LocTC (f : FuncId) : Prop := ∀ (t : TUnit) (n : Int) (w : World) (_htab : Sp w) (S : Nat → Prop) (vs : List Value) (_h : Dat.HoldVals w S t.D vs) (_hw : Dat.wtL t.D ≤ 1048576),
 Calls Tryd.prog f #[.agg vs.toArray, .int .i64 n] w (MadeRL w 1 (strsD (locT t n)))
theorem made_nil {w w' : World} (hb : Bel w w') (A : Option Addr) : MadeRL w 1 (strsD []) (.returned (.slice A 0 0)) w' := ⟨A, 0, [], rfl, ⟨by simp [strsD], by unfold maxLen; omega, Or.inl ⟨rfl, rfl⟩⟩, List.nodup_nil, fun b hb => by simp at hb, hb⟩
set_option maxHeartbeats 4000000 in
theorem specLocT_of (hUnit : ∀ t, UnitC 15 t) : LocTC 7 := by
 have HUN := hide hUnit
 clear hUnit
 rintro ⟨R, G, P⟩ i w hsp S us hu hwt
 have HT := hide hsp
 have HU := hide hu
 have HW := hide hwt
 obtain ⟨A0, c0, A1, c1, A2, c2, rfl, -, -, g2⟩ := TUnit.vals hu
 have hlp := g2.1
 have hcp := g2.2.1
 simp only [List.length_map] at hlp
 unfold maxLen at hcp
 clear hsp hu hwt g2
 cases hval : unitB (TUnit.mk R G P)
 case false =>
  have HVAL := hide hval
  clear hval
  have HZ := hide (show locF R G P i = [] from loc_out (Or.inl HVAL.out))
  go_enter Tryd.func7, Tryd.ntmps7
  go_wp2_with (go_at_call 15; refine (HUN.out (TUnit.mk R G P) S _ _ (HT.out.on bl) (Dat.HoldVals.bel bl HU.out) HW.out).mono ?_; rintro e w1 ⟨rfl, hb1⟩; rw [HVAL.out]; (have hz1 := hb1.sz; obtain ⟨hk1_0, hf1_0, hl1_0, hn1_0⟩ := hb1.lay (w.heap.size)))
  all_goals
   go_returns
   show MadeRL w 1 (strsD (locF R G P i)) _ _
   rw [HZ.out]
   exact made_nil bl _
 case true =>
 have HVAL := hide hval
 by_cases hi0 : 0 ≤ i
 case neg =>
  have d0 : decide (i < 0) = true := by simp; omega
  have HZ := hide (show locF R G P i = [] from loc_out (Or.inr (Or.inl (by omega))))
  go_enter Tryd.func7, Tryd.ntmps7
  go_wp2_with (go_at_call 15; refine (HUN.out (TUnit.mk R G P) S _ _ (HT.out.on bl) (Dat.HoldVals.bel bl HU.out) HW.out).mono ?_; rintro e w1 ⟨rfl, hb1⟩; rw [HVAL.out]; (have hz1 := hb1.sz; obtain ⟨hk1_0, hf1_0, hl1_0, hn1_0⟩ := hb1.lay (w.heap.size)))
  all_goals
   go_returns
   show MadeRL w 1 (strsD (locF R G P i)) _ _
   rw [HZ.out]
   exact made_nil bl _
 case pos =>
 have d0 : decide (i < 0) = false := by simp; omega
 by_cases hi1 : i < (P.length : Int)
 case neg =>
  have d1 : decide ((P.length : Int) ≤ i) = true := by simp; omega
  have HZ := hide (show locF R G P i = [] from loc_out (Or.inr (Or.inr (by omega))))
  go_enter Tryd.func7, Tryd.ntmps7
  go_wp2_with (go_at_call 15; refine (HUN.out (TUnit.mk R G P) S _ _ (HT.out.on bl) (Dat.HoldVals.bel bl HU.out) HW.out).mono ?_; rintro e w1 ⟨rfl, hb1⟩; rw [HVAL.out]; (have hz1 := hb1.sz; obtain ⟨hk1_0, hf1_0, hl1_0, hn1_0⟩ := hb1.lay (w.heap.size)))
  all_goals
   go_returns
   show MadeRL w 1 (strsD (locF R G P i)) _ _
   rw [HZ.out]
   exact made_nil bl _
 case pos =>
 obtain ⟨m, rfl⟩ := Int.eq_ofNat_of_zero_le hi0
 have hm : m < P.length := by omega
 have HLF := hide (loc_in hval hm)
 refine (specLoc_of (fun t => HUN.out t) R G P m hm S w _ HT.out HU.out HW.out hval).mono ?_
 rintro e w' ⟨v', rfl, ho, hb⟩
 show MadeRL w 1 (strsD (locF R G P (m : Int))) _ _
 rw [HLF.out]
 exact OwnS.made ho hb
set_option maxHeartbeats 4000000 in
theorem implLocT_of (hUnit : ∀ t, UnitC 13 t) : LocTC 6 := by
 have HUN := hide hUnit
 clear hUnit
 rintro ⟨R, G, P⟩ i w hsp S us hu hwt
 have HT := hide hsp
 have HU := hide hu
 have HW := hide hwt
 obtain ⟨A0, c0, A1, c1, A2, c2, rfl, -, -, g2⟩ := TUnit.vals hu
 have hlp := g2.1
 have hcp := g2.2.1
 simp only [List.length_map] at hlp
 unfold maxLen at hcp
 clear hsp hu hwt g2
 cases hval : unitB (TUnit.mk R G P)
 case false =>
  have HVAL := hide hval
  clear hval
  have HZ := hide (show locF R G P i = [] from loc_out (Or.inl HVAL.out))
  go_enter Tryd.func6, Tryd.ntmps6
  go_wp2_with (go_at_call 13; refine (HUN.out (TUnit.mk R G P) S _ _ (HT.out.on bl) (Dat.HoldVals.bel bl HU.out) HW.out).mono ?_; rintro e w1 ⟨rfl, hb1⟩; rw [HVAL.out]; (have hz1 := hb1.sz; obtain ⟨hk1_0, hf1_0, hl1_0, hn1_0⟩ := hb1.lay (w.heap.size)))
  all_goals
   go_returns
   show MadeRL w 1 (strsD (locF R G P i)) _ _
   rw [HZ.out]
   exact made_nil bl _
 case true =>
 have HVAL := hide hval
 by_cases hi0 : 0 ≤ i
 case neg =>
  have d0 : decide (i < 0) = true := by simp; omega
  have HZ := hide (show locF R G P i = [] from loc_out (Or.inr (Or.inl (by omega))))
  go_enter Tryd.func6, Tryd.ntmps6
  go_wp2_with (go_at_call 13; refine (HUN.out (TUnit.mk R G P) S _ _ (HT.out.on bl) (Dat.HoldVals.bel bl HU.out) HW.out).mono ?_; rintro e w1 ⟨rfl, hb1⟩; rw [HVAL.out]; (have hz1 := hb1.sz; obtain ⟨hk1_0, hf1_0, hl1_0, hn1_0⟩ := hb1.lay (w.heap.size)))
  all_goals
   go_returns
   show MadeRL w 1 (strsD (locF R G P i)) _ _
   rw [HZ.out]
   exact made_nil bl _
 case pos =>
 have d0 : decide (i < 0) = false := by simp; omega
 by_cases hi1 : i < (P.length : Int)
 case neg =>
  have d1 : decide ((P.length : Int) ≤ i) = true := by simp; omega
  have HZ := hide (show locF R G P i = [] from loc_out (Or.inr (Or.inr (by omega))))
  go_enter Tryd.func6, Tryd.ntmps6
  go_wp2_with (go_at_call 13; refine (HUN.out (TUnit.mk R G P) S _ _ (HT.out.on bl) (Dat.HoldVals.bel bl HU.out) HW.out).mono ?_; rintro e w1 ⟨rfl, hb1⟩; rw [HVAL.out]; (have hz1 := hb1.sz; obtain ⟨hk1_0, hf1_0, hl1_0, hn1_0⟩ := hb1.lay (w.heap.size)))
  all_goals
   go_returns
   show MadeRL w 1 (strsD (locF R G P i)) _ _
   rw [HZ.out]
   exact made_nil bl _
 case pos =>
 obtain ⟨m, rfl⟩ := Int.eq_ofNat_of_zero_le hi0
 have hm : m < P.length := by omega
 have HLF := hide (loc_in hval hm)
 have d1 : decide ((P.length : Int) ≤ (m : Int)) = false := by simp; omega
 have d1n : decide (P.length ≤ m) = false := by simp; omega
 clear hi0 hi1 hval
 go_enter Tryd.func6, Tryd.ntmps6
 go_wp2_with (first | (go_at_call 13; refine (HUN.out (TUnit.mk R G P) S _ _ (HT.out.on bl) (Dat.HoldVals.bel bl HU.out) HW.out).mono ?_; rintro e w1 ⟨rfl, hb1⟩; rw [HVAL.out]; (have hz1 := hb1.sz; obtain ⟨hk1_0, hf1_0, hl1_0, hn1_0⟩ := hb1.lay (w.heap.size))) | (go_at_call 14; refine Calls.named fun wc hwc => ?_; have HBC := hide (show Bel w wc by rw [← hwc]; exact bl); have HTC := hide (show Sp wc from HT.out.on HBC.out); clear hwc; refine (implLoc_any R G P m hm S _ _ HTC.out (Dat.HoldVals.bel HBC.out HU.out) HW.out HVAL.out).mono ?_; rintro e w2 ⟨v2, rfl, ho2, hb2⟩; have HO2 := hide ho2; have HB2 := hide hb2; clear ho2 hb2))
 all_goals
  go_returns
  show MadeRL w 1 (strsD (locF R G P (m : Int))) _ _
  rw [HLF.out]
  exact (OwnS.made HO2.out HB2.out).up HBC.out
end Go.Proofs.YtdacpljinffnaaaDoor
