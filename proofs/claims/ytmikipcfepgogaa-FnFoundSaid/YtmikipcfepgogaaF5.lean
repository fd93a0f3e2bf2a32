/- Draws of texts: one out of a list, a word. -/
import Derived.Test.YtmikipcfepgogaaF2
import Derived.Laws.IdiomStrings
import Derived.Lib.BufferRead
namespace Go.Proofs.Ytmikipcfepgogaa
set_option linter.unusedVariables false
set_option linter.unusedSimpArgs false
set_option maxRecDepth 100000
open Go.RowKit

/-- A row of texts in memory, none longer than K. -/
def RowT (w : World) (g : Nat) (m K : Nat) : Prop := g < w.heap.size ∧ ∀ j, j < m → ∃ x : ByteArray, x.size ≤ K ∧ w.cell? ⟨g, j, none⟩ = some (.string x)
theorem RowT.on {w w' : World} {c g m K : Nat} (h : RowT w g m K) (k : Oth c w w') (hg : g ≠ c) : RowT w' g m K :=
  ⟨Nat.lt_of_lt_of_le h.1 k.size, fun j hj => by obtain ⟨x, hx, hc⟩ := h.2 j hj; exact ⟨x, hx, (k.cell h.1 hg).trans hc⟩⟩
theorem rowT_new {w : World} {t : TypeId} (K : Nat) (xs : List ByteArray) (h : xs.all (fun x => decide (x.size ≤ K)) = true) : RowT (w.alloc (.cells (xs.map Value.string).toArray t)) w.heap.size xs.length K := by
  refine ⟨by simp, fun j hj => ⟨xs[j], ?_, ?_⟩⟩
  · have := List.all_eq_true.1 h xs[j] (List.getElem_mem hj)
    simpa using this
  · unfold World.cell?
    show (match (w.alloc _).heap[w.heap.size]? with | some (.cells c _ _) => _ | _ => _) = _
    rw [heap_alloc_new]
    simp [hj]
set_option maxHeartbeats 400000 in
theorem l1Pick_any (g m K cap' : Nat) (c : Nat) (A : Option Addr) (n cap : Nat) (w : World) (hc : Cur w c A n cap) (hr : RowT w g m K) (hg : g ≠ c) (h0 : 0 < m) (h1 : m ≤ 1000) :
    Calls Try.prog 106 #[.pointer (some ⟨c, 0, none⟩), .slice (some ⟨g, 0, none⟩) m cap'] w (DrewT w c A n cap K) := by
  have HC := hide hc
  have HR := hide hr
  clear hc hr
  have hb := hide (show belowHi (m : Int) = m - 1 by unfold belowHi; rw [if_neg (by omega)])
  go_enter Try.func106, Try.ntmps106
  go_wp2_with (go_at_call 102; refine (l1Below_any m c A n cap _ HC.out (by unfold InI; omega)).mono ?_; rintro e w1 ⟨x, x1, x2, rfl, hC1, hO1⟩; have HC1 := hide hC1; have HO1 := hide hO1; clear hC1 hO1; rw [hb.out] at x2; obtain ⟨j, rfl⟩ := Int.eq_ofNat_of_zero_le x1; obtain ⟨y, hy, hcell⟩ := (HR.out.on HO1.out hg).2 j (by omega); have i1 : (j : Int) < (m : Int) := (by omega); have i2 : j < m := (by omega); have hy' := hide hy; clear hy)
  all_goals
    go_returns
    exact ⟨y, hy'.out, rfl, HC1.out, HO1.out⟩

theorem Try.info8p : (Try.prog.info? 5).map (fun i => (i.zero, i.size, i.bytes)) = some (some (.int .u8 0), 1, 1) := by kernel_rfl
theorem pad_text (m : Nat) (pad : Nat) (hp : pad < 256) (wr : World) (base : Nat) (v : Value) (h : wr.ownsRow base 5 1 v m (List.replicate m (Value.int .u8 (pad : Int)))) :
    (convert 47 9 v).run Try.prog wr = .ok (.string ⟨(List.replicate m (UInt8.ofNat pad)).toArray⟩) wr := by
  have h' := h
  rcases h.2 with ⟨rfl, h0⟩ | ⟨g, cap, cur, rfl, hg⟩
  · have e : m = 0 := by simpa using h0
    subst e
    rw [Lib.run_convert_nil_bytes wr 47 9 5 0 Try.underlying47 Try.underlying5 Try.underlying9]
    rfl
  · have hB := run_convert_bytes_back (P := Try.prog) wr 47 9 5 ⟨g, 0, none⟩ cap (List.replicate m (UInt8.ofNat pad)) Try.underlying47 Try.underlying5 Try.underlying9 (fun j hj => by
      have hj2 : j < m := by simpa using hj
      rw [h'.cells rfl j (.int .u8 (pad : Int)) (by simp [hj2])]
      rw [List.getElem_replicate, UInt8.toNat_ofNat']
      congr 2
      omega)
    rw [List.length_replicate] at hB
    exact hB
set_option maxHeartbeats 2000000 in
theorem l3Pad_any (m : Int) (pad : Nat) (w : World) (h0 : 0 ≤ m) (h1 : m ≤ 200) (hp : pad < 256) :
    Calls Try.prog 118 #[.int .i64 m, .int .u8 pad] w fun e w' => e = .returned (.string ⟨(List.replicate m.toNat (UInt8.ofNat pad)).toArray⟩) ∧ Bel w w' := by
  obtain ⟨M, rfl⟩ := Int.eq_ofNat_of_zero_le h0
  rw [Int.toNat_natCast]
  obtain ⟨i0, hi0, iz0, iz1, iz2⟩ := info_parts Try.info8p
  go_enter Try.func118, Try.ntmps118
  go_wp2_with (fail)
  go_loopw [5, 6] (fun v i wr => ∃ k : Nat, i = .int .i64 k ∧ k ≤ M ∧ wr.ownsRow w.heap.size 5 1 v k (List.replicate k (Value.int .u8 (pad : Int))) ∧ Bel w wr) (fun _ i _ => M - (intOf i).toNat)
  case atStart =>
    have ho := World.ownsRow_made (base := w.heap.size) (e := 5) (size := 1) w #[] 0 (by simp) (by decide) rfl
    exact ⟨0, rfl, by omega, ho, (by repeat' (first | with_reducible exact Bel.refl _ | with_reducible assumption | with_reducible refine Bel.set ?_ ?_ _ | with_reducible refine Bel.alloc ?_ _ | with_reducible refine Bel.drew ?_ | with_reducible refine Bel.drewN ?_ _ | with_reducible refine Bel.trans ?_ (by with_reducible assumption) | (simp; done) | (simp; omega) | refine Bel.alloc ?_ _ | refine Bel.drew ?_ | refine Bel.drewN ?_ _ | refine Bel.set ?_ ?_ _))⟩
  case round =>
    obtain ⟨k, rfl, hk, hown, hbw⟩ := hrel
    by_cases h : k < M
    · have hd : decide ((k : Int) < (M : Int)) = true := by simp; omega
      go_wp2_with (at_builtin; go_loud (refine wpList_append_own _ rfl _ _ 47 rfl w.heap.size 5 i0 (.int .u8 0) 1 1 Try.underlying47 hi0 iz0 iz1 iz2 rfl (by decide) _ _ _ rfl (hown.alloc _) ⟨wr.heap.size, 0, none⟩ 1 1 [.int .u8 pad] rfl rfl ?c1 ?c2 ?c3 ?c4 ?c5 ?_))
      case c1 =>
        intro j u hj
        match j, hj with
        | 0, hj => simp at hj; subst hj; simp [Addr.add]
      case c2 => intro u hu; simp at hu; subst hu; rfl
      case c3 => unfold maxLen; omega
      case c4 => omega
      case c5 => have := hbw.size; simp; omega
      intro v' w2 hown2 hgrow _
      have hbw2 : Bel w w2 := Below.grown (Bel.alloc hbw _) hgrow (by have := hbw.size; simp; omega) (fun q hq => by have := (hown.lt q hq).1; omega)
      have hown3 : w2.ownsRow w.heap.size 5 1 v' (k + 1) (List.replicate (k + 1) (Value.int .u8 (pad : Int))) := by
        rw [List.replicate_succ']; exact hown2
      clear hgrow hown2 hown
      go_wp2_with (fail)
      exact ⟨⟨k + 1, rfl, by omega, hown3, hbw2⟩, by simp only [intOf]; omega⟩
    · obtain rfl : k = M := by omega
      have hd : decide ((k : Int) < (k : Int)) = false := by simp
      have hT := pad_text k pad hp wr _ _ hown
      go_wp2_with (fail)
      all_goals
        go_returns
        exact ⟨rfl, (by repeat' (first | with_reducible exact Bel.refl _ | with_reducible assumption | with_reducible refine Bel.set ?_ ?_ _ | with_reducible refine Bel.alloc ?_ _ | with_reducible refine Bel.drew ?_ | with_reducible refine Bel.drewN ?_ _ | with_reducible refine Bel.trans ?_ (by with_reducible assumption) | (simp; done) | (simp; omega) | refine Bel.alloc ?_ _ | refine Bel.drew ?_ | refine Bel.drewN ?_ _ | refine Bel.set ?_ ?_ _))⟩

end Go.Proofs.Ytmikipcfepgogaa
