/- FindFrom: the first place where a text stands. -/
import Derived.Test.YtmikipcfepgogaaA1
import Derived.Test.YtmikipcfepgogaaQ
import Derived.Test.YtmikipcfepgogaaShelf
namespace Go.Proofs.Ytmikipcfepgogaa
set_option linter.unusedVariables false
set_option linter.unusedSimpArgs false
set_option maxRecDepth 100000
open Go.RowKit

def findF (p s : ByteArray) : Nat → Nat → Option Nat
  | 0, _ => none
  | f + 1, k => if matchAt p s k then some k else findF p s f (k + 1)
def findR (p s : ByteArray) (n : Int) : Option Nat := findF p s (s.size + 2 - n.toNat) n.toNat
def findOk (p s : ByteArray) (n : Int) : Bool := goodPl s n && (findR p s n).isSome
def findN (p s : ByteArray) (n : Int) : Int := if goodPl s n then ((findR p s n).getD 0 : Nat) else 0
theorem findF_some (p s : ByteArray) : ∀ (f k r : Nat), findF p s f k = some r → k ≤ r ∧ r < k + f ∧ matchAt p s r = true ∧ ∀ j : Nat, k ≤ j → j < r → matchAt p s j = false
  | 0, _, _, h => by simp [findF] at h
  | f + 1, k, r, h => by
    unfold findF at h
    cases hm : matchAt p s k
    · rw [hm] at h
      simp only [Bool.false_eq_true, ↓reduceIte] at h
      obtain ⟨h1, h2, h3, h4⟩ := findF_some p s f (k + 1) r h
      refine ⟨by omega, by omega, h3, fun j hj hr => ?_⟩
      rcases Nat.eq_or_lt_of_le hj with e | e
      · rw [← e]; exact hm
      · exact h4 j (by omega) hr
    · rw [hm] at h
      simp only [↓reduceIte, Option.some.injEq] at h
      subst h
      exact ⟨by omega, by omega, hm, fun j hj hr => by omega⟩
theorem findF_none (p s : ByteArray) : ∀ (f k : Nat), findF p s f k = none → ∀ j : Nat, k ≤ j → j < k + f → matchAt p s j = false
  | 0, _, _, j, h1, h2 => by omega
  | f + 1, k, h, j, h1, h2 => by
    unfold findF at h
    cases hm : matchAt p s k
    · rw [hm] at h
      simp only [Bool.false_eq_true, ↓reduceIte] at h
      rcases Nat.eq_or_lt_of_le h1 with e | e
      · rw [← e]; exact hm
      · exact findF_none p s f (k + 1) h j (by omega) (by omega)
    · rw [hm] at h
      simp at h
theorem extract_list (s : ByteArray) (a b : Nat) : (s.extract a b).data.toList = (s.data.toList.drop a).take (b - a) := by
  simp [ByteArray.data_extract, Array.toList_extract, List.extract]
theorem occ_match (p s : ByteArray) (n : Int) (i : Nat) (hg : goodPl s n = true) (hi : n + i ≤ s.size + 1) :
    Lib.occAt (s.extract (n.toNat - 1) s.size).data.toList p.data.toList i = matchAt p s (n.toNat + i : Nat) := by
  obtain ⟨g1, g2, g3⟩ := (goodPl_iff s n).1 hg
  have hg2 : goodPl s (n.toNat + i : Nat) = true := (goodPl_iff _ _).2 ⟨g1, by omega, by omega⟩
  have hl : s.data.toList.length = s.size := by simp
  have hp : p.data.toList.length = p.size := by simp
  have e1 : (((n.toNat + i : Nat) : Int)).toNat - 1 = n.toNat - 1 + i := by omega
  have e2 : (((n.toNat + i : Nat) : Int) - 1 + p.size).toNat = n.toNat - 1 + i + p.size := by omega
  unfold Lib.occAt matchAt
  rw [hg2, e1, e2, ByteArray.toList_eq, ByteArray.toList_eq, extract_list, extract_list, Bool.eq_iff_iff, List.isPrefixOf_iff_prefix, List.prefix_iff_eq_take]
  rw [List.drop_take, List.drop_drop, List.take_take, hp]
  rw [show n.toNat - 1 + i + p.size - (n.toNat - 1 + i) = p.size from by omega]
  simp only [Bool.true_and, Bool.and_eq_true, decide_eq_true_eq, beq_iff_eq]
  by_cases hc : (p.size : Int) ≤ s.size - (n.toNat + i : Nat) + 1
  · rw [show min p.size (s.size - (n.toNat - 1) - i) = p.size from by omega]
    exact ⟨fun h => ⟨hc, h.symm⟩, fun h => h.2.symm⟩
  · constructor
    · intro h
      have := congrArg List.length h
      simp only [List.length_take, List.length_drop, hl, hp] at this
      omega
    · intro h
      exact absurd h.1 hc
theorem index_find (p s : ByteArray) (n : Int) (hg : goodPl s n = true) :
    (findOk p s n = true ∧ Lib.index (s.extract (n.toNat - 1) s.size).data.toList p.data.toList = findN p s n - n ∧ n ≤ findN p s n ∧ findN p s n ≤ s.size + 1) ∨
    (findOk p s n = false ∧ findN p s n = 0 ∧ Lib.index (s.extract (n.toNat - 1) s.size).data.toList p.data.toList = -1) := by
  obtain ⟨g1, g2, g3⟩ := (goodPl_iff s n).1 hg
  have hl : (s.extract (n.toNat - 1) s.size).data.toList.length = s.size - (n.toNat - 1) := by
    rw [extract_list]; simp
  cases hr : findR p s n with
  | some r =>
    left
    obtain ⟨h1, h2, h3, h4⟩ := findF_some p s _ _ r hr
    have hN : findN p s n = r := by simp [findN, hg, hr]
    refine ⟨by simp [findOk, hg, hr], ?_, by rw [hN]; omega, by rw [hN]; omega⟩
    rw [hN]
    have hi := Lib.index_first (s := (s.extract (n.toNat - 1) s.size).data.toList) (sub := p.data.toList) (i := r - n.toNat) (by omega)
      (by rw [occ_match p s n _ hg (by omega), show n.toNat + (r - n.toNat) = r from by omega]; exact h3)
      (fun j hj => by rw [occ_match p s n _ hg (by omega)]; exact h4 _ (by omega) (by omega))
    rw [hi]
    omega
  | none =>
    right
    refine ⟨by simp [findOk, hr], by simp [findN, hr], ?_⟩
    exact Lib.index_none fun j hj => by
      rw [occ_match p s n _ hg (by omega)]
      exact findF_none p s _ _ hr _ (by omega) (by omega)
theorem findR_out (p s : ByteArray) (n : Int) (h : ¬ n ≤ s.size + 1) : findR p s n = none := by
  have e : s.size + 2 - n.toNat = 0 := by omega
  unfold findR
  rw [e, findF]
theorem findR_yes (p s : ByteArray) (n : Int) (h1 : 1 ≤ n) (h : n ≤ s.size + 1) (hb : matchAt p s n = true) : findR p s n = some n.toNat := by
  have e : s.size + 2 - n.toNat = (s.size + 1 - n.toNat) + 1 := by omega
  have e3 : ((n.toNat : Nat) : Int) = n := by omega
  unfold findR
  rw [e, findF, e3, if_pos hb]
theorem findR_no (p s : ByteArray) (n : Int) (h1 : 1 ≤ n) (h : n ≤ s.size + 1) (hb : matchAt p s n = false) : findR p s (n + 1) = findR p s n := by
  have e : s.size + 2 - n.toNat = (s.size + 2 - (n + 1).toNat) + 1 := by omega
  have e2 : (n + 1).toNat = n.toNat + 1 := by omega
  have e3 : ((n.toNat : Nat) : Int) = n := by omega
  unfold findR
  rw [e, findF, e3, hb, e2]
  simp
theorem find_hit (p s : ByteArray) (n m : Int) (hg : goodPl s n = true) (h1 : 1 ≤ m) (hm : findR p s m = findR p s n) (h : m ≤ s.size + 1) (hb : matchAt p s m = true) : findOk p s n = true ∧ findN p s n = m := by
  rw [findR_yes p s m h1 h hb] at hm
  constructor
  · simp [findOk, hg, ← hm]
  · simp [findN, hg, ← hm]
    omega
theorem find_miss (p s : ByteArray) (n m : Int) (hg : goodPl s n = true) (hm : findR p s m = findR p s n) (h : ¬ m ≤ s.size + 1) : findOk p s n = false ∧ findN p s n = 0 := by
  rw [findR_out p s m h] at hm
  constructor
  · simp [findOk, ← hm]
  · simp [findN, hg, ← hm]

set_option maxHeartbeats 1000000 in
theorem specFindFrom_any (p s : ByteArray) (n : Int) (w : World) (hp : p.size ≤ maxLen) (hs : s.size ≤ maxLen) :
    Calls Try.prog 34 #[.string p, .string s, .int .i64 n] w fun e w' => e = .returned (.tuple #[.int .i64 (findN p s n), .bool (findOk p s n)]) ∧ w = w' := by
  have hs' := hs
  have hp' := hp
  unfold maxLen at hs hp
  have hx := goodPl_iff s n
  cases hg : goodPl s n
  all_goals
    rw [hg] at hx
    simp only [true_iff, false_iff, reduceCtorEq] at hx
  · have HL : Hid (goodPl s n = false) := hg
    have hr1 : findOk p s n = false := by simp [findOk, hg]
    have hr2 : findN p s n = 0 := by simp [findN, hg]
    rw [hr1, hr2]
    clear hg hr1 hr2
    go_enter Try.func34, Try.ntmps34
    go_wp2
    refine wp_loop_rounds 1 ?_
    rw [rounds_succ]
    go_wp2_with ((go_at_call 69; refine (l17At_any _ _ _ hs').mono ?_; rintro e w' ⟨rfl, rfl⟩); rw [HL.out])
    go_returns
    exact ⟨rfl, rfl⟩
  · obtain ⟨g1, g2, g3⟩ := hx
    have HL : Hid (goodPl s n = true) := hg
    clear hg
    go_enter Try.func34, Try.ntmps34
    go_wp2
    go_loop [2] (fun v => ∃ m : Int, v = .int .i64 m ∧ 1 ≤ m ∧ m ≤ s.size + 2 ∧ Hid (findR p s m = findR p s n)) (fun v => s.size + 2 - (intOf v).toNat)
    case atStart => exact ⟨n, rfl, g2, by omega, rfl⟩
    case round =>
      obtain ⟨m, rfl, m1, m2, hm⟩ := hrel
      by_cases h2 : m ≤ s.size + 1
      · have HM : Hid (goodPl s m = true) := (goodPl_iff s m).2 ⟨g1, m1, h2⟩
        cases ha : matchAt p s m
        · have HAm := hide ha
          clear ha
          go_wp2_with (first
            | ((go_at_call 69; refine (l17At_any _ _ _ hs').mono ?_; rintro e w' ⟨rfl, rfl⟩); rw [HM.out])
            | ((go_at_call 70; refine (specMatchAt_any _ _ _ _ hp' hs').mono ?_; rintro e w' ⟨rfl, rfl⟩); rw [HAm.out]))
          exact ⟨⟨m + 1, rfl, by omega, by omega, (findR_no p s m m1 h2 HAm.out).trans hm.out⟩, by simp [intOf]; omega⟩
        · have HAm := hide ha
          clear ha
          go_wp2_with (first
            | ((go_at_call 69; refine (l17At_any _ _ _ hs').mono ?_; rintro e w' ⟨rfl, rfl⟩); rw [HM.out])
            | ((go_at_call 70; refine (specMatchAt_any _ _ _ _ hp' hs').mono ?_; rintro e w' ⟨rfl, rfl⟩); rw [HAm.out]))
          go_returns
          refine ⟨?_, rfl⟩
          simp only [Array.getD_eq_getD_getElem?, List.getElem?_toArray, List.getElem?_cons_succ, List.getElem?_cons_zero, Option.getD_some]
          obtain ⟨q1, q2⟩ := find_hit p s n m HL.out m1 hm.out h2 HAm.out
          rw [q1, q2]
      · have HM : Hid (goodPl s m = false) := by
          have : ¬ goodPl s m = true := fun h => h2 ((goodPl_iff s m).1 h).2.2
          exact hide (by simpa using this)
        go_wp2_with ((go_at_call 69; refine (l17At_any _ _ _ hs').mono ?_; rintro e w' ⟨rfl, rfl⟩); rw [HM.out])
        go_returns
        refine ⟨?_, rfl⟩
        simp only [Array.getD_eq_getD_getElem?, List.getElem?_toArray, List.getElem?_cons_succ, List.getElem?_cons_zero, Option.getD_some]
        obtain ⟨q1, q2⟩ := find_miss p s n m HL.out hm.out (by omega)
        rw [q1, q2]

set_option maxHeartbeats 1000000 in
theorem implFindFrom_any (p s : ByteArray) (n : Int) (w : World) (hs : s.size ≤ maxLen) (mx : Int) (hmx : w.cell? ⟨0, 0, none⟩ = some (.int .i64 mx)) :
    Calls Try.prog 33 #[.string p, .string s, .int .i64 n] w fun e w' => e = .returned (.tuple #[.int .i64 (findN p s n), .bool (findOk p s n)]) ∧ w = w' := by
  have hs' := hs
  unfold maxLen at hs
  have HMX := hide hmx
  clear hmx
  have hx := goodPl_iff s n
  cases hg : goodPl s n
  all_goals
    rw [hg] at hx
    simp only [true_iff, false_iff, reduceCtorEq] at hx
  · have HL : Hid (goodPl s n = false) := hg
    have hr1 : findOk p s n = false := by simp [findOk, hg]
    have hr2 : findN p s n = 0 := by simp [findN, hg]
    rw [hr1, hr2]
    clear hg hr1 hr2
    go_enter Try.func33, Try.ntmps33
    go_wp2_with ((go_at_call 61; refine (goodPlace_any _ _ _ hs').mono ?_; rintro e w' ⟨rfl, rfl⟩); rw [HL.out])
    go_returns
    exact ⟨rfl, rfl⟩
  · obtain ⟨g1, g2, g3⟩ := hx
    have HL : Hid (goodPl s n = true) := hg
    have hI := index_find p s n hg
    have hsub : (s.extract (n.toNat - 1) s.size).size < 4294967281 := by simp; omega
    clear hg
    rcases hI with ⟨q1, q2, q3, q4⟩ | ⟨q1, q2, q3⟩
    · obtain ⟨r, hr⟩ : ∃ r, r = findN p s n := ⟨_, rfl⟩
      rw [← hr] at q2 q3 q4
      rw [q1, ← hr]
      have Q2 := hide q2
      clear q1 q2 hr
      go_enter Try.func33, Try.ntmps33
      go_wp2_with (first
        | ((go_at_call 61; refine (goodPlace_any _ _ _ hs').mono ?_; rintro e w' ⟨rfl, rfl⟩); rw [HL.out])
        | (go_at_call 68; refine (Try.strings_Index _ p mx _ hsub HMX.out).mono ?_; rintro e w' ⟨rfl, rfl⟩; rw [Q2.out]))
      go_returns
      refine ⟨?_, rfl⟩
      simp only [Array.getD_eq_getD_getElem?, List.getElem?_toArray, List.getElem?_cons_succ, List.getElem?_cons_zero, Option.getD_some]
      first | (simp; done) | (simp; omega) | (congr 4; omega)
    · rw [q1, q2]
      have Q2 := hide q3
      clear q1 q2 q3
      go_enter Try.func33, Try.ntmps33
      go_wp2_with (first
        | ((go_at_call 61; refine (goodPlace_any _ _ _ hs').mono ?_; rintro e w' ⟨rfl, rfl⟩); rw [HL.out])
        | (go_at_call 68; refine (Try.strings_Index _ p mx _ hsub HMX.out).mono ?_; rintro e w' ⟨rfl, rfl⟩; rw [Q2.out]))
      go_returns
      exact ⟨rfl, rfl⟩
end Go.Proofs.Ytmikipcfepgogaa
