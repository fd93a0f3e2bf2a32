/- Lists of names; lists of texts without repeats; both sides. -/
import Derived.Test.YtjodcciloflgbaaDoorN1
namespace Go.Proofs.YtjodcciloflgbaaDoor
set_option linter.unusedVariables false
set_option linter.unusedSimpArgs false
set_option maxRecDepth 100000
open Go.RowKit

abbrev strsD (l : List ByteArray) : List (List Dat) := l.map fun x => [Dat.str x]
theorem slice_uptoS {b o len c m : Nat} (h : m ≤ c) (w : World) : (Instr.slice 23 (.slice (some ⟨b, o, none⟩) len c) none (some (.int .i64 (m : Int))) none).run Tryd.prog w = .ok (.slice (some ⟨b, o, none⟩) m c) w := by
  rw [run_slice_h (P := Tryd.prog) (ht := by rw [Tryd.underlying23]; kernel_rfl) (h0 := by omega) (h2 := by omega)]
  simp [sliced, go_sem, Tryd.sizeOf9, Addr.add]
theorem getD_lt2 (l : List ByteArray) (k : Nat) (h : k < l.length) : l.getD k ByteArray.empty = l[k] := by simp [List.getD, h]
theorem idx_le_from (x : ByteArray) : ∀ (l : List ByteArray) (j i : Nat) (h : j < l.length), l[j] = x → Lib.idxFromS l x i ≤ ((i + j : Nat) : Int)
  | z :: r, j, i, h, he => by
    rw [Lib.idxFromS]
    split
    · omega
    · rename_i hz
      cases j with
      | zero => exact absurd (by simpa using he) hz
      | succ j =>
        have := idx_le_from x r j (i + 1) (by simpa using h) (by simpa using he)
        omega
theorem idx_le_of (l : List ByteArray) (x : ByteArray) (j : Nat) (h : j < l.length) (he : l[j] = x) (i : Nat) (hi : j < i) : Lib.idxOfS l x < (i : Int) := by
  have := idx_le_from x l j 0 h he
  rw [Lib.idxOfS]
  omega
/-- Some text stands twice. -/
def twiceB (l : List ByteArray) : Bool := (List.range l.length).any fun i => Lib.containsS (l.take i) (l.getD i ByteArray.empty)
theorem twice_yes {l : List ByteArray} (i : Nat) (hi : i < l.length) (h : Lib.containsS (l.take i) l[i] = true) : twiceB l = true := by
  unfold twiceB
  rw [List.any_eq_true]
  exact ⟨i, List.mem_range.2 hi, by rw [getD_lt2 l i hi]; exact h⟩
theorem twice_no {l : List ByteArray} (h : ∀ i (hi : i < l.length), Lib.containsS (l.take i) l[i] = false) : twiceB l = false := by
  unfold twiceB
  rw [List.any_eq_false]
  intro i hi
  have hi' := List.mem_range.1 hi
  rw [getD_lt2 l i hi', h i hi']
  simp
theorem idx_lt_iff {l : List ByteArray} {i : Nat} (hi : i < l.length) : decide (Lib.idxOfS l l[i] < (i : Int)) = Lib.containsS (l.take i) l[i] := by
  rw [Bool.eq_iff_iff, decide_eq_true_eq, Lib.containsS_iff]
  constructor
  · intro h
    apply Classical.byContradiction
    intro hn
    have hh := Lib.idxFromS_hit l[i] l i 0 hi (by rw [getD_lt2 l i hi]) (fun j hj he => hn (by
      rw [getD_lt2 l j (by omega)] at he
      rw [← he]
      exact List.mem_iff_getElem.2 ⟨j, by simp; omega, by simp⟩))
    rw [Lib.idxOfS, hh] at h
    omega
  · intro h
    obtain ⟨j, hj, he⟩ := List.mem_iff_getElem.1 h
    rw [List.getElem_take] at he
    have hji : j < i := by simp at hj; omega
    exact idx_le_of l l[i] j (by omega) he i hji

/-- The cells of a row of texts. -/
theorem Row.strs {w : World} {S : Nat → Prop} {b o c : Nat} {l : List ByteArray} (h : Row w S 1 (some ⟨b, o, none⟩) c (strsD l)) : ∀ j, j < l.length → w.cell? ⟨b, o + j, none⟩ = some (.string (l.getD j ByteArray.empty)) := by
  intro j hj
  obtain ⟨b', o', hA, -, -, -, hc⟩ := strAt h j hj
  injection Option.some.inj hA with q1 q2 _
  subst q1 q2
  rw [getD_lt2 l j hj]
  exact hc
theorem Row.addr {w : World} {S : Nat → Prop} {k c : Nat} {A : Option Addr} {xs : List (List Dat)} (h : Row w S k A c xs) (hne : 0 < xs.length) : ∃ b o, A = some ⟨b, o, none⟩ ∧ S b ∧ b < w.heap.size := by
  obtain ⟨b, o, h1, h2, h3, -⟩ := h.2.2 (fun e => by rw [e] at hne; simp at hne)
  exact ⟨b, o, h1, h2, h3⟩
/-- slices.Contains over the first n of a row of texts. -/
theorem containsS_row (l : List ByteArray) (n : Nat) (x : ByteArray) (S : Nat → Prop) (w : World) (A : Option Addr) (c c' : Nat) (hR : Row w S 1 A c' (strsD l)) (hn : n ≤ l.length) :
    Calls Tryd.prog 60 #[.slice A n c, .string x] w fun e w' => e = .returned (.bool (Lib.containsS (l.take n) x)) ∧ w = w' := by
  rcases Nat.eq_zero_or_pos n with h0 | h0
  · subst h0
    have := Tryd.slices_Contains_string_empty A c x w
    exact this.mono fun e w' ⟨h1, h2⟩ => ⟨by rw [h1]; rfl, h2.symm⟩
  · obtain ⟨b, o, rfl, -, -⟩ := hR.addr (by simp; omega)
    have hb := hR.2.1
    have hl := hR.1
    simp only [List.length_map] at hl
    unfold maxLen at hb
    exact (Tryd.slices_Contains_string b o n c l x w hn (by omega) hR.strs).mono fun e w' ⟨h1, h2⟩ => ⟨h1, h2.symm⟩
theorem indexS_row (l : List ByteArray) (x : ByteArray) (S : Nat → Prop) (w : World) (A : Option Addr) (c : Nat) (hR : Row w S 1 A c (strsD l)) :
    Calls Tryd.prog 29 #[.slice A l.length c, .string x] w fun e w' => e = .returned (.int .i64 (Lib.idxOfS l x)) ∧ w = w' := by
  cases l with
  | nil => exact (Tryd.slices_Index_string_empty A c x w).mono fun e w' ⟨h1, h2⟩ => ⟨h1, h2.symm⟩
  | cons y r =>
    obtain ⟨b, o, rfl, -, -⟩ := hR.addr (by simp)
    have hb := hR.2.1
    have hl := hR.1
    simp only [List.length_map] at hl
    unfold maxLen at hb
    have := Tryd.slices_Index_string b o (y :: r).length c (y :: r) x w (Nat.le_refl _) (by omega) hR.strs
    rw [List.take_length] at this
    exact this.mono fun e w' ⟨h1, h2⟩ => ⟨h1, h2.symm⟩

set_option maxHeartbeats 400000 in
theorem l9Find_row (l : List ByteArray) (x : ByteArray) (S : Nat → Prop) (w : World) (A : Option Addr) (c : Nat) (hR : Row w S 1 A c (strsD l)) :
    Calls Tryd.prog 23 #[.slice A l.length c, .string x] w fun e w' => e = .returned (.int .i64 (Lib.idxOfS l x)) ∧ w = w' := by
  have HR := hide hR
  have hlen := hR.1
  have hcm := hR.2.1
  simp only [List.length_map] at hlen
  unfold maxLen at hcm
  clear hR
  go_enter Tryd.func23, Tryd.ntmps23
  go_wp2_with (fail)
  go_loopw [5] (fun v wr => ∃ m : Nat, v = .int .i64 m ∧ m ≤ l.length ∧ Hid (∀ j, j < m → l.getD j ByteArray.empty ≠ x) ∧ wr = w) (fun v _ => l.length - (intOf v).toNat)
  case atStart => exact ⟨0, rfl, by omega, fun j hj => by omega, rfl⟩
  case round =>
    obtain ⟨m, rfl, m1, hm, rfl⟩ := hrel
    by_cases h1 : m < l.length
    · have hd : decide ((m : Int) < (l.length : Int)) = true := by simp [h1]
      obtain ⟨b1, o1, hA1, hS1, hl1, hz1, c1⟩ := strAt HR.out m h1
      subst hA1
      have hw : IntKind.i64.wrap ((m : Int) + 1) = (m : Int) + 1 := by rw [IntKind.wrap_i64]; omega
      by_cases hx : l[m] = x
      · have hRr : Lib.idxOfS l x = m := by
          have := Lib.idxFromS_hit x l m 0 h1 (by simp [List.getD, h1, hx]) hm.out
          simpa [Lib.idxOfS] using this
        go_wp2_with (fail)
        all_goals
          go_returns
          exact ⟨by rw [hRr]; first | done | rfl, rfl⟩
      · have hd2 : (l[m].toList == x.toList) = false := by rw [beq_eq_false_iff_ne]; exact fun h => hx ((ba_eq _ _).1 h)
        go_wp2_with (fail)
        exact ⟨⟨m + 1, rfl, h1, fun j hj => by
          by_cases e : j = m
          · subst e; simpa [List.getD, h1] using hx
          · exact hm.out j (by omega), trivial⟩, by simp only [intOf]; omega⟩
    · have hd : decide ((m : Int) < (l.length : Int)) = false := by simp [h1]
      have hRr : Lib.idxOfS l x = -1 := Lib.idxFromS_miss x l 0 fun j hj => hm.out j (by omega)
      go_wp2_with (fail)
      all_goals
        go_returns
        exact ⟨by rw [hRr]; first | done | rfl, rfl⟩

set_option maxHeartbeats 400000 in
theorem namesOk_row (l : List ByteArray) (most : Int) (S : Nat → Prop) (w : World) (A : Option Addr) (c : Nat) (hR : Row w S 1 A c (strsD l)) :
    Calls Tryd.prog 47 #[.slice A l.length c, .int .i64 most] w fun e w' => e = .returned (.bool (l.all nameB && decide ((l.length : Int) ≤ most))) ∧ Bel w w' := by
  have HR := hide hR
  have hlen := hR.1
  have hcm := hR.2.1
  simp only [List.length_map] at hlen
  unfold maxLen at hcm
  clear hR
  go_enter Tryd.func47, Tryd.ntmps47
  go_wp2_with (fail)
  go_loopw [5] (fun v wr => ∃ m : Nat, v = .int .i64 m ∧ m ≤ l.length ∧ Hid (∀ j (hj : j < l.length), j < m → nameB l[j] = true) ∧ Bel w wr) (fun v _ => l.length - (intOf v).toNat)
  case atStart => exact ⟨0, rfl, by omega, fun j _ hj => by omega, Bel.refl _⟩
  case round =>
    obtain ⟨m, rfl, m1, hm, hbw⟩ := hrel
    by_cases h1 : m < l.length
    · have hd : decide ((m : Int) < (l.length : Int)) = true := by simp [h1]
      obtain ⟨b1, o1, hA1, hS1, hl1, hz1, c1⟩ := strAt HR.out m h1
      subst hA1
      replace c1 := (hbw.box b1 hl1 _).trans c1
      cases hn : nameB l[m]
      · have HA := hide (show l.all nameB = false from List.all_eq_false.2 ⟨l[m], List.getElem_mem h1, by rw [hn]; simp⟩)
        go_wp2_with ((go_at_call 48; refine (specIsName_any l[m] _).mono ?_; rintro e w1 ⟨rfl, hb1⟩))
        all_goals
          go_returns
          exact ⟨by rw [HA.out]; simp, bl⟩
      · go_wp2_with ((go_at_call 48; refine (specIsName_any l[m] _).mono ?_; rintro e w1 ⟨rfl, hb1⟩))
        go_roundw
        case rel => exact ⟨m + 1, by go_num, by omega, fun j hj hjm => by
          by_cases e : j = m
          · subst e; exact hn
          · exact hm.out j hj (by omega), bl⟩
        case measure => simp [intOf]; omega
    · have hd : decide ((m : Int) < (l.length : Int)) = false := by simp [h1]
      have HA := hide (show l.all nameB = true from List.all_eq_true.2 fun x hx => by
        obtain ⟨k, hk, rfl⟩ := List.mem_iff_getElem.1 hx
        exact hm.out k hk (by omega))
      go_wp2_with (fail)
      all_goals
        go_returns
        exact ⟨by rw [HA.out]; simp_all, bl⟩

set_option maxHeartbeats 400000 in
theorem allNames_row (l : List ByteArray) (S : Nat → Prop) (w : World) (A : Option Addr) (c : Nat) (hR : Row w S 1 A c (strsD l)) (ht : Sp w) :
    Calls Tryd.prog 52 #[.slice A l.length c] w fun e w' => e = .returned (.bool (l.all nameB)) ∧ Bel w w' := by
  have HR := hide hR
  have hlen := hR.1
  have hcm := hR.2.1
  simp only [List.length_map] at hlen
  unfold maxLen at hcm
  clear hR
  have HT := hide ht
  clear ht
  go_enter Tryd.func52, Tryd.ntmps52
  go_wp2_with (fail)
  go_loopw [7] (fun v wr => ∃ m : Nat, v = .int .i64 m ∧ m ≤ l.length ∧ Hid (∀ j (hj : j < l.length), j < m → nameB l[j] = true) ∧ Bel w wr) (fun v _ => l.length - (intOf v).toNat)
  case atStart => exact ⟨0, rfl, by omega, fun j _ hj => by omega, Bel.refl _⟩
  case round =>
    obtain ⟨m, rfl, m1, hm, hbw⟩ := hrel
    by_cases h1 : m < l.length
    · have hd : decide ((m : Int) < (l.length : Int)) = true := by simp [h1]
      obtain ⟨b1, o1, hA1, hS1, hl1, hz1, c1⟩ := strAt HR.out m h1
      subst hA1
      replace c1 := (hbw.box b1 hl1 _).trans c1
      cases hn : nameB l[m]
      · have HA := hide (show l.all nameB = false from List.all_eq_false.2 ⟨l[m], List.getElem_mem h1, by rw [hn]; simp⟩)
        go_wp2_with ((go_at_call 53; refine (implIsName_any l[m] _ (HT.out.on bl)).mono ?_; rintro e w1 ⟨rfl, hb1⟩))
        all_goals
          go_returns
          exact ⟨by rw [HA.out]; simp, bl⟩
      · go_wp2_with ((go_at_call 53; refine (implIsName_any l[m] _ (HT.out.on bl)).mono ?_; rintro e w1 ⟨rfl, hb1⟩))
        go_roundw
        case rel => exact ⟨m + 1, by go_num, by omega, fun j hj hjm => by
          by_cases e : j = m
          · subst e; exact hn
          · exact hm.out j hj (by omega), bl⟩
        case measure => simp [intOf]; omega
    · have hd : decide ((m : Int) < (l.length : Int)) = false := by simp [h1]
      have HA := hide (show l.all nameB = true from List.all_eq_true.2 fun x hx => by
        obtain ⟨k, hk, rfl⟩ := List.mem_iff_getElem.1 hx
        exact hm.out k hk (by omega))
      go_wp2_with (fail)
      all_goals
        go_returns
        exact ⟨by rw [HA.out]; rfl, bl⟩

set_option maxHeartbeats 400000 in
theorem l9Twice_row (l : List ByteArray) (S : Nat → Prop) (w : World) (A : Option Addr) (c : Nat) (hR : Row w S 1 A c (strsD l)) :
    Calls Tryd.prog 35 #[.slice A l.length c] w fun e w' => e = .returned (.bool (twiceB l)) ∧ Bel w w' := by
  have HR := hide hR
  have hlen := hR.1
  have hcm := hR.2.1
  simp only [List.length_map] at hlen
  unfold maxLen at hcm
  clear hR
  go_enter Tryd.func35, Tryd.ntmps35
  go_wp2_with (fail)
  go_loopw [3] (fun v wr => ∃ m : Nat, v = .int .i64 m ∧ m ≤ l.length ∧ Hid (∀ j (hj : j < l.length), j < m → Lib.containsS (l.take j) l[j] = false) ∧ Bel w wr) (fun v _ => l.length - (intOf v).toNat)
  case atStart => exact ⟨0, rfl, by omega, fun j _ hj => by omega, Bel.refl _⟩
  case round =>
    obtain ⟨m, rfl, m1, hm, hbw⟩ := hrel
    by_cases h1 : m < l.length
    · have hd : decide ((m : Int) < (l.length : Int)) = true := by simp [h1]
      obtain ⟨b1, o1, hA1, hS1, hl1, hz1, c1⟩ := strAt HR.out m h1
      subst hA1
      replace c1 := (hbw.box b1 hl1 _).trans c1
      have HI := hide (idx_lt_iff h1)
      cases hn : Lib.containsS (l.take m) l[m]
      · have hix : decide (Lib.idxOfS l l[m] < (m : Int)) = false := HI.out.trans hn
        go_wp2_with ((go_at_call 23; refine (l9Find_row l l[m] S _ _ _ (Row.bel bl HR.out)).mono ?_; rintro e w' ⟨rfl, rfl⟩))
        go_roundw
        case rel => exact ⟨m + 1, by go_num, by omega, fun j hj hjm => by
          by_cases e : j = m
          · subst e; exact hn
          · exact hm.out j hj (by omega), bl⟩
        case measure => simp [intOf]; omega
      · have hix : decide (Lib.idxOfS l l[m] < (m : Int)) = true := HI.out.trans hn
        have HA := hide (twice_yes m h1 hn)
        go_wp2_with ((go_at_call 23; refine (l9Find_row l l[m] S _ _ _ (Row.bel bl HR.out)).mono ?_; rintro e w' ⟨rfl, rfl⟩))
        all_goals
          go_returns
          exact ⟨by rw [HA.out]; first | done | rfl, bl⟩
    · have hd : decide ((m : Int) < (l.length : Int)) = false := by simp [h1]
      have HA := hide (twice_no (l := l) fun k hk => hm.out k hk (by omega))
      go_wp2_with (fail)
      all_goals
        go_returns
        exact ⟨by rw [HA.out]; first | done | rfl, bl⟩

set_option maxHeartbeats 400000 in
theorem repeated_row (l : List ByteArray) (S : Nat → Prop) (w : World) (A : Option Addr) (c : Nat) (hR : Row w S 1 A c (strsD l)) :
    Calls Tryd.prog 61 #[.slice A l.length c] w fun e w' => e = .returned (.bool (twiceB l)) ∧ Bel w w' := by
  have HR := hide hR
  have hlen := hR.1
  have hcm := hR.2.1
  simp only [List.length_map] at hlen
  unfold maxLen at hcm
  clear hR
  go_enter Tryd.func61, Tryd.ntmps61
  go_wp2_with (fail)
  go_loopw [6] (fun v wr => ∃ m : Nat, v = .int .i64 m ∧ m ≤ l.length ∧ Hid (∀ j (hj : j < l.length), j < m → Lib.containsS (l.take j) l[j] = false) ∧ Bel w wr) (fun v _ => l.length - (intOf v).toNat)
  case atStart => exact ⟨0, rfl, by omega, fun j _ hj => by omega, Bel.refl _⟩
  case round =>
    obtain ⟨m, rfl, m1, hm, hbw⟩ := hrel
    by_cases h1 : m < l.length
    · have hd : decide ((m : Int) < (l.length : Int)) = true := by simp [h1]
      obtain ⟨b1, o1, hA1, hS1, hl1, hz1, c1⟩ := strAt HR.out m h1
      subst hA1
      replace c1 := (hbw.box b1 hl1 _).trans c1
      have HI := hide (idx_lt_iff h1)
      cases hn : Lib.containsS (l.take m) l[m]
      · have hix : decide (Lib.idxOfS l l[m] < (m : Int)) = false := HI.out.trans hn
        go_wp2_with (fail)
        have hsl := fun wx => slice_uptoS (b := b1) (o := o1) (len := l.length) (c := c) (m := m) (by omega) wx
        have HCQ := hide (fun (wx : World) (hx : Bel w wx) => (by have := containsS_row l m l[m] S wx (some ⟨b1, o1, none⟩) c c (Row.bel hx HR.out) (by omega); rw [hn] at this; exact this))
        go_quiet ((go_at_call 60; exact quiet_ws (HCQ.out _ bl)))
        go_wp2_with (fail)
        go_roundw
        case rel => exact ⟨m + 1, by go_num, by omega, fun j hj hjm => by
          by_cases e : j = m
          · subst e; exact hn
          · exact hm.out j hj (by omega), bl⟩
        case measure => simp [intOf]; omega
      · have hix : decide (Lib.idxOfS l l[m] < (m : Int)) = true := HI.out.trans hn
        have HA := hide (twice_yes m h1 hn)
        go_wp2_with (fail)
        have hsl := fun wx => slice_uptoS (b := b1) (o := o1) (len := l.length) (c := c) (m := m) (by omega) wx
        have HCQ := hide (fun (wx : World) (hx : Bel w wx) => (by have := containsS_row l m l[m] S wx (some ⟨b1, o1, none⟩) c c (Row.bel hx HR.out) (by omega); rw [hn] at this; exact this))
        go_quiet ((go_at_call 60; exact quiet_ws (HCQ.out _ bl)))
        go_wp2_with (fail)
        all_goals
          go_returns
          exact ⟨by rw [HA.out]; first | done | rfl, bl⟩
    · have hd : decide ((m : Int) < (l.length : Int)) = false := by simp [h1]
      have HA := hide (twice_no (l := l) fun k hk => hm.out k hk (by omega))
      go_wp2_with (fail)
      all_goals
        go_returns
        exact ⟨by rw [HA.out]; first | done | rfl, bl⟩

end Go.Proofs.YtjodcciloflgbaaDoor
