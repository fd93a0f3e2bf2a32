/- A text whose bytes ascend, and the set of its bytes. -/
import Derived.Test.YtdacpljinffnaaaDoorPBits
import Derived.Test.YtdacpljinffnaaaDoorPY1
import Derived.Test.YtdacpljinffnaaaDoorPTV
import Derived.Test.YtdacpljinffnaaaDoorPP1
import Derived.Deep.QuietTactic
import Derived.BigQuiet
namespace Go.Proofs.YtdacpljinffnaaaDoor
set_option linter.unusedVariables false
set_option linter.unusedSimpArgs false
set_option maxRecDepth 100000
open Go.RowKit
theorem bit_orB (x : Int) (b j : Nat) (hb : b < 64) (hj : j < 64) : bitI (orB x b) j = (bitI x j || decide (j = b)) := by
 unfold bitI orB
 have e : BitVec.ofInt 64 (IntKind.i64.wrap ((BitVec.ofInt 64 x ||| BitVec.twoPow 64 b).toNat : Int)) = BitVec.ofInt 64 x ||| BitVec.twoPow 64 b := by
  apply BitVec.eq_of_toNat_eq
  have := (BitVec.ofInt 64 x ||| BitVec.twoPow 64 b).isLt
  generalize (BitVec.ofInt 64 x ||| BitVec.twoPow 64 b).toNat = m at *
  rw [BitVec.toNat_ofInt, IntKind.wrap_i64]
  omega
 rw [e, BitVec.getLsbD_or, BitVec.getLsbD_twoPow]
 by_cases h : j = b
 ·
  subst h; simp [hj]
 ·
  have : ¬ b = j := fun q => h q.symm
  simp [h, this]
theorem hasBit_add (lo hi : Int) (b j : Nat) (hb : b ≤ 127) : hasBit (addLo lo b) (addHi hi b) j = (hasBit lo hi j || decide (j = b)) := by
 unfold hasBit addLo addHi
 by_cases h1 : b < 64
 ·
  rw [if_pos h1, if_pos h1]
  by_cases h2 : j < 64
  ·
   rw [if_pos h2, if_pos h2, bit_orB lo b j h1 h2]
  ·
   rw [if_neg h2, if_neg h2, decide_eq_false (by omega), Bool.or_false]
 ·
  rw [if_neg h1, if_neg h1]
  by_cases h2 : j < 64
  ·
   rw [if_pos h2, if_pos h2, decide_eq_false (by omega), Bool.or_false]
  ·
   rw [if_neg h2, if_neg h2]
   by_cases h3 : j < 128
   ·
    rw [if_pos h3, if_pos h3, bit_orB hi (b - 64) (j - 64) (by omega) (by omega)]
    congr 1
    rw [decide_eq_decide]
    omega
   ·
    rw [if_neg h3, if_neg h3, decide_eq_false (by omega)]; rfl
theorem nsF_none (s : ByteArray) : ∀ (f i : Nat) (lo hi : Int), (∃ k, i ≤ k ∧ k < i + f ∧ ¬ byteAt s k ≤ 127) → nsF s f i lo hi = none
 | 0, i, lo, hi, ⟨k, h1, h2, _⟩ => by omega
 | f + 1, i, lo, hi, ⟨k, h1, h2, h3⟩ => by
  unfold nsF
  by_cases h : byteAt s i ≤ 127
  ·
   rw [if_pos h]
   have : k ≠ i := fun e => h3 (e ▸ h)
   exact nsF_none s f (i + 1) _ _ ⟨k, by omega, by omega, h3⟩
  ·
   rw [if_neg h]
theorem nsF_some (s : ByteArray) : ∀ (f i : Nat) (lo hi : Int), (∀ k, i ≤ k → k < i + f → byteAt s k ≤ 127) →
  ∃ lo' hi', nsF s f i lo hi = some (lo', hi') ∧ ∀ j, hasBit lo' hi' j = true ↔ (hasBit lo hi j = true ∨ ∃ k, i ≤ k ∧ k < i + f ∧ byteAt s k = j)
 | 0, i, lo, hi, _ => ⟨lo, hi, rfl, fun j => ⟨Or.inl, fun h => h.elim id (fun ⟨k, h1, h2, _⟩ => by omega)⟩⟩
 | f + 1, i, lo, hi, h => by
  unfold nsF
  rw [if_pos (h i (Nat.le_refl _) (by omega))]
  obtain ⟨lo', hi', e, hb⟩ := nsF_some s f (i + 1) (addLo lo (byteAt s i)) (addHi hi (byteAt s i)) (fun k h1 h2 => h k (by omega) (by omega))
  refine ⟨lo', hi', e, fun j => ?_⟩
  rw [hb j, hasBit_add _ _ _ _ (h i (Nat.le_refl _) (by omega)), Bool.or_eq_true, decide_eq_true_eq]
  constructor
  ·
   rintro ((h1 | h1) | ⟨k, h1, h2, h3⟩)
   ·
    exact Or.inl h1
   ·
    exact Or.inr ⟨i, Nat.le_refl _, by omega, h1.symm⟩
   ·
    exact Or.inr ⟨k, by omega, by omega, h3⟩
  ·
   rintro (h1 | ⟨k, h1, h2, h3⟩)
   ·
    exact Or.inl (Or.inl h1)
   ·
    by_cases e : k = i
    ·
     subst e; exact Or.inl (Or.inr h3.symm)
    ·
     exact Or.inr ⟨k, by omega, by omega, h3⟩
theorem hasBit_lt {lo hi : Int} {j : Nat} (h : hasBit lo hi j = true) : j < 128 := by
 unfold hasBit at h
 by_cases h1 : j < 64
 ·
  omega
 ·
  rw [if_neg h1] at h
  by_cases h2 : j < 128
  ·
   exact h2
  ·
   rw [if_neg h2] at h; cases h
theorem hasBit_zero (j : Nat) : hasBit 0 0 j = false := by
 unfold hasBit bitI
 have : BitVec.ofInt 64 0 = 0#64 := by rfl
 rw [this]
 simp
theorem sorted_eq : ∀ (a b : List Nat), a.Pairwise (· < ·) → b.Pairwise (· < ·) → (∀ x, x ∈ a ↔ x ∈ b) → a = b
 | [], [], _, _, _ => rfl
 | [], y :: b, _, _, h => by have := (h y).2 (by simp); simp at this
 | x :: a, [], _, _, h => by have := (h x).1 (by simp); simp at this
 | x :: a, y :: b, ha, hb, h => by
  rw [List.pairwise_cons] at ha hb
  have hxy : x = y := by
   have h1 := (h x).1 (by simp)
   have h2 := (h y).2 (by simp)
   rw [List.mem_cons] at h1 h2
   rcases h1 with h1 | h1
   ·
    exact h1
   rcases h2 with h2 | h2
   ·
    exact h2.symm
   have := hb.1 _ h1
   have := ha.1 _ h2
   omega
  subst hxy
  congr 1
  refine sorted_eq a b ha.2 hb.2 fun z => ⟨fun hz => ?_, fun hz => ?_⟩
  ·
   have h1 := (h z).1 (List.mem_cons_of_mem _ hz)
   have := ha.1 _ hz
   rw [List.mem_cons] at h1
   exact h1.resolve_left (by omega)
  ·
   have h1 := (h z).2 (List.mem_cons_of_mem _ hz)
   have := hb.1 _ hz
   rw [List.mem_cons] at h1
   exact h1.resolve_left (by omega)
def ascAt (s : ByteArray) (i : Nat) : Bool := decide (byteAt s i ≤ 127) && (decide (i = 0) || decide (byteAt s (i - 1) < byteAt s i))
def ascB (s : ByteArray) : Bool := (List.range s.size).all (ascAt s)
theorem ascB_iff {s : ByteArray} : ascB s = true ↔ ∀ i, i < s.size → byteAt s i ≤ 127 ∧ (0 < i → byteAt s (i - 1) < byteAt s i) := by
 unfold ascB
 rw [List.all_eq_true]
 constructor
 ·
  intro h i hi
  have := h i (List.mem_range.2 hi)
  unfold ascAt at this
  simp only [Bool.and_eq_true, Bool.or_eq_true, decide_eq_true_eq] at this
  exact ⟨this.1, fun h0 => this.2.resolve_left (by omega)⟩
 ·
  intro h i hi
  have := h i (List.mem_range.1 hi)
  unfold ascAt
  simp only [Bool.and_eq_true, Bool.or_eq_true, decide_eq_true_eq]
  refine ⟨this.1, ?_⟩
  rcases Nat.eq_zero_or_pos i with h0 | h0
  ·
   exact Or.inl h0
  ·
   exact Or.inr (this.2 h0)
theorem ascB_no {s : ByteArray} {i : Nat} (hi : i < s.size) (h : ascAt s i = false) : ascB s = false :=
 List.all_eq_false.2 ⟨i, List.mem_range.2 hi, by rw [h]; simp⟩
theorem asc_lt {s : ByteArray} (h : ∀ i, i < s.size → byteAt s i ≤ 127 ∧ (0 < i → byteAt s (i - 1) < byteAt s i)) : ∀ (d i : Nat), i + d + 1 < s.size → byteAt s i < byteAt s (i + d + 1)
 | 0, i, hi => by have := (h (i + 0 + 1) hi).2 (by omega); simpa using this
 | d + 1, i, hi => by
  have h1 := asc_lt h d i (by omega)
  have h2 := (h (i + (d + 1) + 1) hi).2 (by omega)
  rw [show i + (d + 1) + 1 - 1 = i + d + 1 by omega] at h2
  omega
def bytesL (s : ByteArray) : List Nat := (List.range s.size).map (byteAt s)
theorem csB_asc (lo hi : Int) (k : Nat) : (csB lo hi k).Pairwise (· < ·) := List.Pairwise.sublist List.filter_sublist List.pairwise_lt_range
theorem csText_list (lo hi : Int) : (csText lo hi).data.toList = (csB lo hi 128).map UInt8.ofNat := by unfold csText; simp
theorem txt_list (s : ByteArray) : s.data.toList = (bytesL s).map UInt8.ofNat := by
 apply List.ext_getElem
 ·
  simp [bytesL]
 ·
  intro i h1 h2
  have hi : i < s.size := by simpa using h1
  have := byteAt_eq s i hi
  simp only [bytesL, List.getElem_map, List.getElem_range]
  rw [← this]
  simp
  rfl
theorem ba_of {s t : ByteArray} (h : s.data.toList = t.data.toList) : s = t := by
 cases s; cases t
 simp at h
 congr
theorem asc_cset (s : ByteArray) : (nsOk s && decide (csText (nsLo s) (nsHi s) = s)) = ascB s := by
 by_cases hA : ∀ k, 0 ≤ k → k < 0 + s.size → byteAt s k ≤ 127
 ·
  obtain ⟨lo, hi, e, hb⟩ := nsF_some s s.size 0 0 0 hA
  have e' : ns s 0 0 0 = some (lo, hi) := by unfold ns; rw [Nat.sub_zero]; exact e
  have h1 : nsOk s = true := by unfold nsOk; rw [e']; rfl
  have h2 : nsLo s = lo := by unfold nsLo; rw [e']; rfl
  have h3 : nsHi s = hi := by unfold nsHi; rw [e']; rfl
  rw [h1, h2, h3, Bool.true_and]
  rw [Bool.eq_iff_iff, decide_eq_true_eq, ascB_iff]
  constructor
  ·
   intro hs i hi'
   refine ⟨hA i (by omega) (by omega), fun h0 => ?_⟩
   have hl := csText_list lo hi
   rw [hs] at hl
   have hp := csB_asc lo hi 128
   have hlen : (csB lo hi 128).length = s.size := by have := congrArg List.length hl; simpa using this.symm
   have hg : ∀ j (hj : j < s.size), byteAt s j = (csB lo hi 128)[j]'(by omega) := by
    intro j hj
    unfold byteAt
    rw [hl]
    have hlt := csB_lt lo hi 128 _ (List.getElem_mem (show j < (csB lo hi 128).length by omega))
    rw [List.getD_eq_getElem?_getD, List.getElem?_eq_getElem (by simp; omega)]
    simp
    omega
   rw [hg i hi', hg (i - 1) (by omega)]
   exact List.pairwise_iff_getElem.1 hp _ _ _ _ (by omega)
  ·
   intro h
   apply ba_of
   rw [csText_list, txt_list s]
   congr 1
   refine sorted_eq _ _ (csB_asc lo hi 128) ?_ fun x => ?_
   ·
    unfold bytesL
    rw [List.pairwise_iff_getElem]
    intro i j h1 h2 hij
    simp only [List.getElem_map, List.getElem_range]
    have := asc_lt h (j - i - 1) i (by simp at h2; omega)
    rw [show i + (j - i - 1) + 1 = j by omega] at this
    exact this
   ·
    unfold csB bytesL
    rw [List.mem_filter, List.mem_range, List.mem_map]
    constructor
    ·
     rintro ⟨h1, h2⟩
     rcases (hb x).1 h2 with h3 | ⟨k, -, h3, h4⟩
     ·
      rw [hasBit_zero] at h3; cases h3
     ·
      exact ⟨k, List.mem_range.2 (by omega), h4⟩
    ·
     rintro ⟨k, h1, h2⟩
     have h3 := (hb x).2 (Or.inr ⟨k, by omega, by have := List.mem_range.1 h1; omega, h2⟩)
     exact ⟨hasBit_lt h3, h3⟩
 ·
  have hB : ∃ k, 0 ≤ k ∧ k < 0 + s.size ∧ ¬ byteAt s k ≤ 127 := by
   by_cases hh : ∃ k, 0 ≤ k ∧ k < 0 + s.size ∧ ¬ byteAt s k ≤ 127
   ·
    exact hh
   ·
    exact absurd (fun k h1 h2 => by
     by_cases q : byteAt s k ≤ 127
     ·
      exact q
     ·
      exact absurd ⟨k, h1, h2, q⟩ hh) hA
  have e := nsF_none s s.size 0 0 0 hB
  have h1 : nsOk s = false := by unfold nsOk ns; rw [Nat.sub_zero, e]; rfl
  rw [h1, Bool.false_and]
  obtain ⟨k, -, h2, h3⟩ := hB
  exact (ascB_no (i := k) (by omega) (by unfold ascAt; rw [decide_eq_false h3]; rfl)).symm
end Go.Proofs.YtdacpljinffnaaaDoor
namespace Go.Proofs.YtdacpljinffnaaaDoor
set_option linter.unusedVariables false
set_option linter.unusedSimpArgs false
set_option maxRecDepth 100000
open Go.RowKit
def lohiE (k : Int) : Int × Int := if k = 6 then (0, 8) else if k = 7 ∨ k = 13 ∨ k = 19 ∨ k = 26 ∨ k = 27 then (1, 1) else if k = 8 ∨ k = 11 then (2, 2) else if k = 9 ∨ k = 15 then (2, 3) else if k = 10 then (1, 9) else if k = 12 then (3, 3) else if k = 14 then (0, 24) else if k = 16 ∨ k = 17 ∨ k = 18 then (1, 2) else if k = 20 then (1, 14) else if k = 21 ∨ k = 24 then (0, 1) else if k = 22 then (0, 2) else if k = 29 then (2, 8) else (0, 0)
def txtE (k : Int) (t : ByteArray) : Bool := if k = 2 then decide (t.size ≤ 120) else if k = 3 then ascB t else if k = 4 ∨ k = 13 ∨ k = 28 then nameB t else if k = 5 then Lib.containsS keyL t else if k = 7 then Lib.containsS unL t else if k = 8 then binB t else decide (t.size = 0)
def numE (k n : Int) (m : Nat) : Bool := if k = 1 then decide (0 ≤ n) && decide (n ≤ 999999999999) else if k = 20 then (decide (n = 0) || decide (n = 1)) && decide (1 + n ≤ (m : Int)) && decide (((m : Int) - 1 - n) % 2 = 0) else decide (n = 0)
def hdE (k li : Int) (m : Nat) : Bool := decide (1 ≤ k) && decide (k ≤ 29) && decide (0 ≤ li) && decide ((lohiE k).1 ≤ (m : Int)) && decide ((m : Int) ≤ (lohiE k).2)
mutual
/-- Is every node valid? -/
def TExpr.vld : TExpr → Bool
 | .mk k t n li ks => hdE k li ks.length && txtE k t && numE k n ks.length && TExpr.vlds ks
def TExpr.vlds : List TExpr → Bool
 | [] => true
 | x :: r => TExpr.vld x && TExpr.vlds r
end
mutual
def TExpr.cnt : TExpr → Nat
 | .mk _ _ _ _ ks => 1 + TExpr.cnts ks
def TExpr.cnts : List TExpr → Nat
 | [] => 0
 | x :: r => TExpr.cnt x + TExpr.cnts r
end
mutual
def TExpr.dep : TExpr → Nat
 | .mk _ _ _ _ ks => TExpr.deps ks + 1
def TExpr.deps : List TExpr → Nat
 | [] => 0
 | x :: r => max (TExpr.dep x) (TExpr.deps r)
end
def TExpr.kind : TExpr → Int | .mk k _ _ _ _ => k
def TExpr.text : TExpr → ByteArray | .mk _ t _ _ _ => t
theorem TExpr.vlds_at : ∀ {l : List TExpr} {m : Nat} (h : m < l.length), l[m].vld = false → TExpr.vlds l = false
 | x :: r, 0, _, h => by simp only [TExpr.vlds]; simp at h; rw [h]; rfl
 | x :: r, m + 1, hm, h => by simp only [TExpr.vlds]; rw [TExpr.vlds_at (l := r) (m := m) (by simpa using hm) (by simpa using h), Bool.and_false]
theorem TExpr.vlds_all : ∀ {l : List TExpr}, (∀ m (h : m < l.length), l[m].vld = true) → TExpr.vlds l = true
 | [], _ => rfl
 | x :: r, h => by
  simp only [TExpr.vlds]
  have h0 := h 0 (by simp)
  simp only [List.getElem_cons_zero] at h0
  rw [h0, TExpr.vlds_all (l := r) fun m hm => by
   have := h (m + 1) (by simp; omega)
   simpa using this]
  rfl
theorem TExpr.cnts_take : ∀ (l : List TExpr) (k : Nat) (h : k < l.length), TExpr.cnts (l.take (k + 1)) = TExpr.cnts (l.take k) + l[k].cnt
 | x :: r, 0, _ => by simp [TExpr.cnts]
 | x :: r, k + 1, h => by
  have := TExpr.cnts_take r k (by simpa using h)
  simp only [List.take_succ_cons, TExpr.cnts, List.getElem_cons_succ, this]
  omega
theorem TExpr.cnts_le : ∀ (l : List TExpr) (k : Nat), TExpr.cnts (l.take k) ≤ TExpr.cnts l
 | [], k => by simp
 | x :: r, 0 => by simp [TExpr.cnts]
 | x :: r, k + 1 => by
  have := TExpr.cnts_le r k
  simp only [List.take_succ_cons, TExpr.cnts]
  omega
theorem TExpr.deps_take : ∀ (l : List TExpr) (k : Nat) (h : k < l.length), TExpr.deps (l.take (k + 1)) = max (TExpr.deps (l.take k)) l[k].dep
 | x :: r, 0, _ => by simp [TExpr.deps]
 | x :: r, k + 1, h => by
  have := TExpr.deps_take r k (by simpa using h)
  simp only [List.take_succ_cons, TExpr.deps, List.getElem_cons_succ, this]
  omega
theorem TExpr.deps_le : ∀ (l : List TExpr) (k : Nat), TExpr.deps (l.take k) ≤ TExpr.deps l
 | [], k => by simp
 | x :: r, 0 => by simp [TExpr.deps]
 | x :: r, k + 1 => by
  have := TExpr.deps_le r k
  simp only [List.take_succ_cons, TExpr.deps]
  omega
theorem TExpr.dep_le {l : List TExpr} {k : Nat} (h : k < l.length) : l[k].dep ≤ TExpr.deps l := by
 have h1 := TExpr.deps_take l k h
 have h2 := TExpr.deps_le l (k + 1)
 omega
theorem TExpr.deps_iff (d : Nat) : ∀ (l : List TExpr), TExpr.deps l ≤ d ↔ ∀ x ∈ l, TExpr.dep x ≤ d
 | [] => by simp [TExpr.deps]
 | x :: r => by
  have := TExpr.deps_iff d r
  simp only [TExpr.deps, List.mem_cons, forall_eq_or_imp, ← this]
  omega
mutual
theorem TExpr.dep_cnt : ∀ t : TExpr, t.dep ≤ t.cnt
 | .mk _ _ _ _ ks => by
  have := TExpr.deps_cnt ks
  simp only [TExpr.dep, TExpr.cnt]
  omega
theorem TExpr.deps_cnt : ∀ l : List TExpr, TExpr.deps l ≤ TExpr.cnts l
 | [] => by simp [TExpr.deps]
 | x :: r => by
  have h1 := TExpr.dep_cnt x
  have h2 := TExpr.deps_cnt r
  simp only [TExpr.deps, TExpr.cnts]
  omega
end
mutual
theorem TExpr.cnt_le : ∀ t : TExpr, t.cnt ≤ Dat.wtL t.D + 1
 | .mk a b c d ks => by
  have := TExpr.cnts_le_wt ks
  rw [TExpr.D_mk]
  simp only [TExpr.cnt, Dat.wtL, Dat.wt, List.length_map]
  omega
theorem TExpr.cnts_le_wt : ∀ l : List TExpr, TExpr.cnts l ≤ l.length + Dat.wtR (l.map TExpr.D)
 | [] => by simp [TExpr.cnts]
 | x :: r => by
  have h1 := TExpr.cnt_le x
  have h2 := TExpr.cnts_le_wt r
  simp only [TExpr.cnts, List.map_cons, Dat.wtR, List.length_cons]
  omega
end
theorem vldE_mk {k n li : Int} {t : ByteArray} {ks : List TExpr} : (TExpr.mk k t n li ks).vld = (hdE k li ks.length && txtE k t && numE k n ks.length && TExpr.vlds ks) := by simp only [TExpr.vld]
def exprB (t : TExpr) : Bool := decide (t.cnt ≤ 600) && decide (t.dep ≤ 40) && t.vld
def leftI (left : Int) (c : Nat) : Int := if (c : Int) ≤ left then left - c else -1
set_option maxHeartbeats 400000 in
theorem implCountNodes_any : ∀ t : TExpr, ∀ (S : Nat → Prop) (w : World) (vs : List Value), Dat.HoldVals w S t.D vs → t.cnt ≤ 2000000 →
  Calls Tryd.prog 45 #[.agg vs.toArray] w fun e w' => e = .returned (.int .i64 t.cnt) ∧ Bel w w' := by
 refine TExpr.ind fun k t n li ks IH => ?_
 intro S w vs hv hcnt
 obtain ⟨A, c, rfl, -, -, -, -, hR⟩ := TExpr.vals hv
 have IH' := hide IH
 have HR := hide hR
 have hlen := hR.1
 have hcm := hR.2.1
 simp only [List.length_map] at hlen
 unfold maxLen at hcm
 have hC := hide hcnt
 clear IH hR hv hcnt
 go_enter Tryd.func45, Tryd.ntmps45
 go_wp2_with (fail)
 go_loopw [3, 9] (fun nv iv wr => ∃ m : Nat, m ≤ ks.length ∧ iv = .int .i64 m ∧ nv = .int .i64 ((1 + TExpr.cnts (ks.take m) : Nat)) ∧ Bel (w.alloc (.cells #[.int .i64 k, .string t, .int .i64 n, .int .i64 li, .slice A ks.length c] 42)) wr) (fun _ iv _ => ks.length - (intOf iv).toNat)
 case atStart => exact ⟨0, Nat.zero_le _, rfl, by simp [TExpr.cnts], Bel.refl _⟩
 case round =>
  obtain ⟨m, hm, rfl, rfl, hbx⟩ := hrel
  have p4 : wr.cell? ⟨w.heap.size, 4, none⟩ = some (.slice A ks.length c) := (hbx.box _ (by simp) 4).trans (by simp)
  have hbw : Bel w wr := Bel.trans bl hbx
  have hle := hide (TExpr.cnts_le ks m)
  have hbd : 1 + TExpr.cnts (ks.take m) ≤ 2000000 := by have := hle.out; have := hC.out; simp only [TExpr.cnt] at this; omega
  rcases Nat.lt_or_ge m ks.length with hlt | hge
  ·
   have hd : decide ((m : Int) < (ks.length : Int)) = true := by simp; omega
   (obtain ⟨b1, o1, x1_0, x1_1, x1_2, x1_3, x1_4, A1_4, C1_4, hA1, hS1, hl1, hx1, hv1, g1_0, g1_1, g1_2, g1_3, g1_4, c1_0, c1_1, c1_2, c1_3, c1_4⟩ := TExpr.at HR.out m hlt; subst hA1; have HV1 := hide (Dat.HoldVals.bel hbw hv1); have hh1 := hbw.box b1 hl1; have hw1 := Nat.lt_of_lt_of_le hl1 (Bel.size hbw); replace c1_0 := (hh1 _).trans c1_0; replace c1_1 := (hh1 _).trans c1_1; replace c1_2 := (hh1 _).trans c1_2; replace c1_3 := (hh1 _).trans c1_3; replace c1_4 := (hh1 _).trans c1_4; have HX1 := hide hx1; have GR1_4 := hide g1_4; clear hh1 hv1 hx1 hS1 g1_4)
   have hc1 : ks[m].cnt ≤ 2000000 := by have h1 := TExpr.cnts_take ks m hlt; have h2 := TExpr.cnts_le ks (m + 1); have := hC.out; simp only [TExpr.cnt] at this; omega
   go_wp2_with (go_at_call 45; (with_reducible refine (IH'.out m hlt S _ _ (Dat.HoldVals.bel bl HV1.out) hc1).mono ?_); rintro e w1 ⟨rfl, hb1⟩)
   go_roundw
   case rel => exact ⟨m + 1, by omega, by go_num, by rw [TExpr.cnts_take ks m hlt]; first | (go_num; done) | (simp; omega) | (congr 1; omega), bl⟩
   case measure => simp [intOf]; omega
  ·
   have hd : decide ((m : Int) < (ks.length : Int)) = false := by simp; omega
   go_wp2_with (fail)
   go_returns
   exact ⟨ret_i64 (by rw [List.take_of_length_le (by omega)]; simp only [TExpr.cnt]; try omega), hbw⟩
set_option maxHeartbeats 400000 in
theorem implDepthOf_any : ∀ t : TExpr, ∀ (S : Nat → Prop) (w : World) (vs : List Value), Dat.HoldVals w S t.D vs → t.dep ≤ 2000000 →
  Calls Tryd.prog 46 #[.agg vs.toArray] w fun e w' => e = .returned (.int .i64 t.dep) ∧ Bel w w' := by
 refine TExpr.ind fun k t n li ks IH => ?_
 intro S w vs hv hcnt
 obtain ⟨A, c, rfl, -, -, -, -, hR⟩ := TExpr.vals hv
 have IH' := hide IH
 have HR := hide hR
 have hlen := hR.1
 have hcm := hR.2.1
 simp only [List.length_map] at hlen
 unfold maxLen at hcm
 have hC := hide hcnt
 clear IH hR hv hcnt
 go_enter Tryd.func46, Tryd.ntmps46
 go_wp2_with (fail)
 go_loopw [3, 9] (fun nv iv wr => ∃ m : Nat, m ≤ ks.length ∧ iv = .int .i64 m ∧ nv = .int .i64 ((TExpr.deps (ks.take m) : Nat)) ∧ Bel (w.alloc (.cells #[.int .i64 k, .string t, .int .i64 n, .int .i64 li, .slice A ks.length c] 42)) wr) (fun _ iv _ => ks.length - (intOf iv).toNat)
 case atStart => exact ⟨0, Nat.zero_le _, rfl, by simp [TExpr.deps], Bel.refl _⟩
 case round =>
  obtain ⟨m, hm, rfl, rfl, hbx⟩ := hrel
  have p4 : wr.cell? ⟨w.heap.size, 4, none⟩ = some (.slice A ks.length c) := (hbx.box _ (by simp) 4).trans (by simp)
  have hbw : Bel w wr := Bel.trans bl hbx
  have hle := hide (TExpr.deps_le ks m)
  have hbd : TExpr.deps (ks.take m) + 1 ≤ 2000000 := by have := hle.out; have := hC.out; simp only [TExpr.dep] at this; omega
  rcases Nat.lt_or_ge m ks.length with hlt | hge
  ·
   have hd : decide ((m : Int) < (ks.length : Int)) = true := by simp; omega
   (obtain ⟨b1, o1, x1_0, x1_1, x1_2, x1_3, x1_4, A1_4, C1_4, hA1, hS1, hl1, hx1, hv1, g1_0, g1_1, g1_2, g1_3, g1_4, c1_0, c1_1, c1_2, c1_3, c1_4⟩ := TExpr.at HR.out m hlt; subst hA1; have HV1 := hide (Dat.HoldVals.bel hbw hv1); have hh1 := hbw.box b1 hl1; have hw1 := Nat.lt_of_lt_of_le hl1 (Bel.size hbw); replace c1_0 := (hh1 _).trans c1_0; replace c1_1 := (hh1 _).trans c1_1; replace c1_2 := (hh1 _).trans c1_2; replace c1_3 := (hh1 _).trans c1_3; replace c1_4 := (hh1 _).trans c1_4; have HX1 := hide hx1; have GR1_4 := hide g1_4; clear hh1 hv1 hx1 hS1 g1_4)
   have hc1 : ks[m].dep ≤ 2000000 := by have h1 := TExpr.dep_le hlt; have := hC.out; simp only [TExpr.dep] at this; omega
   go_wp2_with (go_at_call 46; (with_reducible refine (IH'.out m hlt S _ _ (Dat.HoldVals.bel bl HV1.out) hc1).mono ?_); rintro e w1 ⟨rfl, hb1⟩)
   go_roundw
   case rel => exact ⟨m + 1, by omega, by go_num, by rw [TExpr.deps_take ks m hlt]; first | (go_num; done) | (simp; omega) | (congr 1; omega), bl⟩
   case measure => simp [intOf]; omega
  ·
   have hd : decide ((m : Int) < (ks.length : Int)) = false := by simp; omega
   go_wp2_with (fail)
   go_returns
   exact ⟨ret_i64 (by rw [List.take_of_length_le (by omega)]; simp only [TExpr.dep]; try omega), hbw⟩
theorem left_neg {left lv : Int} {a b : Nat} (h : leftI left a = lv) (hl : ¬ 0 ≤ lv) (hab : a ≤ b) : lv = leftI left b := by
 unfold leftI at h ⊢
 by_cases q : (a : Int) ≤ left
 ·
  rw [if_pos q] at h; omega
 ·
  rw [if_neg q] at h
  rw [if_neg (show ¬ (b : Int) ≤ left by omega)]
  exact h.symm
theorem leftI_step {left : Int} {a b : Nat} (h0 : 0 ≤ left) (h : (a : Int) ≤ left) : leftI (left - a) b = leftI left (a + b) := by
 unfold leftI
 by_cases q : (b : Int) ≤ left - a
 ·
  rw [if_pos q, if_pos (by omega)]; omega
 ·
  rw [if_neg q, if_neg (by omega)]
set_option maxHeartbeats 400000 in
theorem l6Left_any : ∀ t : TExpr, ∀ (S : Nat → Prop) (w : World) (vs : List Value) (left : Int), Dat.HoldVals w S t.D vs → 0 ≤ left → left ≤ 600 →
  Calls Tryd.prog 52 #[.agg vs.toArray, .int .i64 left] w fun e w' => e = .returned (.int .i64 (leftI left t.cnt)) ∧ Bel w w' := by
 refine TExpr.ind fun k t n li ks IH => ?_
 intro S w vs left hv h0 h600
 obtain ⟨A, c, rfl, -, -, -, -, hR⟩ := TExpr.vals hv
 have IH' := hide IH
 have HR := hide hR
 have hlen := hR.1
 have hcm := hR.2.1
 simp only [List.length_map] at hlen
 unfold maxLen at hcm
 clear IH hR hv
 have hw0 : IntKind.i64.wrap (left - 1) = left - 1 := by rw [IntKind.wrap_i64]; omega
 go_enter Tryd.func52, Tryd.ntmps52
 go_wp2_with (fail)
 go_loopw [1, 5] (fun lvv ivv wr => ∃ m : Nat, m ≤ ks.length ∧ ivv = .int .i64 m ∧ lvv = .int .i64 (leftI left (1 + TExpr.cnts (ks.take m))) ∧ Bel (w.alloc (.cells #[.int .i64 k, .string t, .int .i64 n, .int .i64 li, .slice A ks.length c] 42)) wr) (fun lvv ivv _ => ks.length - (intOf ivv).toNat)
 case atStart => exact ⟨0, Nat.zero_le _, rfl, by simp [TExpr.cnts, leftI]; (try omega), Bel.refl _⟩
 case round =>
  obtain ⟨m, hm, rfl, rfl, hbx⟩ := hrel
  have p4 : wr.cell? ⟨w.heap.size, 4, none⟩ = some (.slice A ks.length c) := (hbx.box _ (by simp) 4).trans (by simp)
  have hbw : Bel w wr := Bel.trans bl hbx
  have hle := hide (TExpr.cnts_le ks m)
  have HLI := hide (rfl : leftI left (1 + TExpr.cnts (ks.take m)) = leftI left (1 + TExpr.cnts (ks.take m)))
  obtain ⟨lv, hlv⟩ : ∃ lv, leftI left (1 + TExpr.cnts (ks.take m)) = lv := ⟨_, rfl⟩
  rw [hlv]
  have HLV := hide hlv
  clear hlv
  rcases Nat.lt_or_ge m ks.length with hlt | hge
  ·
   have hd : decide ((m : Int) < (ks.length : Int)) = true := by simp; omega
   by_cases hl : 0 ≤ lv
   ·
    have hdl : decide (0 ≤ lv) = true := by simp; omega
    have hup : lv ≤ 600 := by have := HLV.out; unfold leftI at this; split at this <;> omega
    have hin : (1 + TExpr.cnts (ks.take m) : Nat) ≤ left ∧ lv = left - (1 + TExpr.cnts (ks.take m) : Nat) := by have := HLV.out; unfold leftI at this; split at this <;> omega
    have HNX := hide (show leftI lv ks[m].cnt = leftI left (1 + TExpr.cnts (ks.take (m + 1))) by rw [hin.2, leftI_step h0 hin.1, TExpr.cnts_take ks m hlt]; congr 1; omega)
    clear hin
    (obtain ⟨b1, o1, x1_0, x1_1, x1_2, x1_3, x1_4, A1_4, C1_4, hA1, hS1, hl1, hx1, hv1, g1_0, g1_1, g1_2, g1_3, g1_4, c1_0, c1_1, c1_2, c1_3, c1_4⟩ := TExpr.at HR.out m hlt; subst hA1; have HV1 := hide (Dat.HoldVals.bel hbw hv1); have hh1 := hbw.box b1 hl1; have hw1 := Nat.lt_of_lt_of_le hl1 (Bel.size hbw); replace c1_0 := (hh1 _).trans c1_0; replace c1_1 := (hh1 _).trans c1_1; replace c1_2 := (hh1 _).trans c1_2; replace c1_3 := (hh1 _).trans c1_3; replace c1_4 := (hh1 _).trans c1_4; have HX1 := hide hx1; have GR1_4 := hide g1_4; clear hh1 hv1 hx1 hS1 g1_4)
    go_wp2_with (go_at_call 52; (with_reducible refine (IH'.out m hlt S _ _ _ (Dat.HoldVals.bel bl HV1.out) hl hup).mono ?_); rintro e w1 ⟨rfl, hb1⟩)
    go_roundw
    case rel => exact ⟨m + 1, by omega, by go_num, by rw [HNX.out], bl⟩
    case measure => simp [intOf]; omega
   ·
    have hdl : decide (0 ≤ lv) = false := by simp; omega
    have HEN := hide (left_neg HLV.out hl (show 1 + TExpr.cnts (ks.take m) ≤ (TExpr.mk k t n li ks).cnt by have := hle.out; simp only [TExpr.cnt]; omega))
    go_wp2_with (fail)
    go_returns
    exact ⟨ret_i64 HEN.out, hbw⟩
  ·
   have hd : decide ((m : Int) < (ks.length : Int)) = false := by simp; omega
   have HEN := hide (show lv = leftI left (TExpr.mk k t n li ks).cnt by rw [← HLV.out, List.take_of_length_le (by omega)]; rfl)
   go_wp2_with (fail)
   go_returns
   exact ⟨ret_i64 HEN.out, hbw⟩
end Go.Proofs.YtdacpljinffnaaaDoor
