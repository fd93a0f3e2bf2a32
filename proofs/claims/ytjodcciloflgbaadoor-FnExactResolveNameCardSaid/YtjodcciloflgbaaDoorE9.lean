/- CsetText of the reference. -/
import Derived.Test.YtjodcciloflgbaaDoorE8
namespace Go.Proofs.YtjodcciloflgbaaDoor
set_option linter.unusedVariables false
set_option linter.unusedSimpArgs false
set_option maxRecDepth 100000
open Go.RowKit

set_option maxHeartbeats 2000000 in
theorem specCsetText_any (lo hi : Int) (w : World) :
    Calls Tryd.prog 92 #[.agg #[.int .i64 lo, .int .i64 hi]] w fun e w' => e = .returned (.string (csText lo hi)) ∧ Bel w w' := by
  obtain ⟨i0, hi0, iz0, iz1, iz2⟩ := info_parts Tryd.info8
  go_enter Tryd.func92, Tryd.ntmps92
  go_wp2_with (fail)
  go_loopw [3, 4] (fun v i wr => ∃ k : Nat, i = .int .i64 k ∧ k ≤ 128 ∧ wr.ownsRow (w.heap.size + 1) 5 1 v (csB lo hi k).length ((csB lo hi k).map fun b : Nat => Value.int .u8 (b : Int)) ∧ wr.cell? ⟨w.heap.size, 0, none⟩ = some (.int .i64 lo) ∧ wr.cell? ⟨w.heap.size, 1, none⟩ = some (.int .i64 hi) ∧ Bel w wr ∧ w.heap.size < wr.heap.size) (fun _ i _ => 128 - (intOf i).toNat)
  case atStart =>
    have ho := World.ownsRow_made (base := w.heap.size + 1) (e := 5) (size := 1) (w.alloc (.cells #[.int .i64 lo, .int .i64 hi] 102)) #[] 0 (by simp) (by decide) rfl
    rw [World.size_alloc] at ho
    exact ⟨0, rfl, by omega, ho, by simp, by simp, bl, by simp; omega⟩
  case round =>
    obtain ⟨k, rfl, hk, hown, hc0, hc1, hbw, hlt⟩ := hrel
    by_cases h : k < 128
    · have hd : decide ((k : Int) < 128) = true := by simp; omega
      have hw8 : IntKind.u8.wrap (k : Int) = k := by rw [IntKind.wrap_u8]; omega
      cases hb : hasBit lo hi k
      · have HB := hide hb
        clear hb
        go_wp2_with ((go_at_call 99; refine (specHasByte_any lo hi k _ (by omega)).mono ?_; rintro e w1 ⟨rfl, hb1⟩; have hz1 := hb1.sz; obtain ⟨hk1_0, hf1_0, hl1_0, hn1_0⟩ := hb1.lay (w.heap.size); (try simp only [VVal.val])); rw [HB.out])
        have hown1 := own_bel hown hb1
        rw [← csB_miss HB.out] at hown1
        exact ⟨⟨k + 1, rfl, by omega, hown1, (by rw [hk1_0]; exact hc0), (by rw [hk1_0]; exact hc1), hbw.trans hb1, hl1_0⟩, by simp only [intOf]; omega⟩
      · have HB := hide hb
        clear hb
        go_wp2_with (first
          | ((go_at_call 99; refine (specHasByte_any lo hi k _ (by omega)).mono ?_; rintro e w1 ⟨rfl, hb1⟩; have hz1 := hb1.sz; obtain ⟨hk1_0, hf1_0, hl1_0, hn1_0⟩ := hb1.lay (w.heap.size); (try simp only [VVal.val])); rw [HB.out]; have hown1 := own_bel hown hb1)
          | (at_builtin; go_loud (refine wpList_append_own _ rfl _ _ 88 rfl (w.heap.size + 1) 5 i0 (.int .u8 0) 1 1 Tryd.underlying88 hi0 iz0 iz1 iz2 rfl (by decide) _ _ _ rfl (hown1.alloc _) ⟨w1.heap.size, 0, none⟩ 1 1 [.int .u8 k] rfl rfl ?c1 ?c2 ?c3 ?c4 ?c5 ?_)))
        case c1 =>
          intro j u hj
          match j, hj with
          | 0, hj => simp at hj; subst hj; simp [Addr.add]
        case c2 => intro u hu; simp at hu; subst hu; rfl
        case c3 => have := csB_len lo hi k; unfold maxLen; omega
        case c4 => have := csB_len lo hi k; omega
        case c5 => simp; omega
        intro v' w2 hown2 hgrow _
        have hbw2 : Bel w w2 := Below.grown (Bel.alloc (hbw.trans hb1) _) hgrow (by simp; omega) (fun q hq => by have := (hown1.lt q hq).1; omega)
        have hsz2 : w1.heap.size < w2.heap.size := by have := hgrow.size; simp at this; omega
        have hne : some w.heap.size ≠ u3.ownBlock := fun hq => by have := (hown1.lt _ hq.symm).1; omega
        have hd0 : w2.cell? ⟨w.heap.size, 0, none⟩ = some (.int .i64 lo) := World.grownBy.cell hgrow (((Bel.alloc (Bel.refl w1) _).box w.heap.size hl1_0 0).trans ((hk1_0 0).trans hc0)) hne
        have hd1 : w2.cell? ⟨w.heap.size, 1, none⟩ = some (.int .i64 hi) := World.grownBy.cell hgrow (((Bel.alloc (Bel.refl w1) _).box w.heap.size hl1_0 1).trans ((hk1_0 1).trans hc1)) hne
        have hown3 : w2.ownsRow (w.heap.size + 1) 5 1 v' (csB lo hi (k + 1)).length ((csB lo hi (k + 1)).map fun b : Nat => Value.int .u8 (b : Int)) := by
          rw [csB_hit HB.out, List.length_append, List.map_append]; exact hown2
        clear hgrow hown2 hown1 hown hne
        go_wp2_with (fail)
        exact ⟨⟨k + 1, rfl, by omega, hown3, hd0, hd1, hbw2, by omega⟩, by simp only [intOf]; omega⟩
    · obtain rfl : k = 128 := by omega
      have hT := own_text lo hi wr _ _ hown
      go_wp2_with (fail)
      all_goals
        go_returns
        exact ⟨rfl, bl⟩

end Go.Proofs.YtjodcciloflgbaaDoor
