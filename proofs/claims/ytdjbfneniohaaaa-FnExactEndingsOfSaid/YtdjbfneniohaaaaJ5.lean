/- What the short steps of an evaluation come to. -/
import Derived.Test.YtdjbfneniohaaaaJ4
import Derived.Deep.RegionHeld3
import Derived.Deep.Cut
import Derived.OwnWalk
namespace Go.Proofs.Ytdjbfneniohaaaa
set_option linter.unusedVariables false
set_option linter.unusedSimpArgs false
set_option maxRecDepth 100000
open Go.RowKit


theorem resE_nat (ds : List TPattern) (s : ByteArray) (d g a : Nat) (q : TPattern) : resE ds s d (g : Int) q (a : Int) = endsE ds s d g q a := by simp [resE]
section
variable {ds : List TPattern} {s : ByteArray} {d g a : Nat} {t : ByteArray} {n lo hi : Int} {p q : TPattern}
theorem ends15_none (h : endsE ds s d g p a = none) : endsE ds s (d + 1) (g + 1) (.mk 15 t n lo hi [p, q]) a = none := by (conv => lhs; unfold endsE); rw [if_neg (by decide), if_neg (by decide), if_neg (by decide), if_pos (by decide)]; simp only [h]
theorem ends15_stop {l : List TEnding} {g1 : Nat} (h : endsE ds s d g p a = some (l, true, g1)) : endsE ds s (d + 1) (g + 1) (.mk 15 t n lo hi [p, q]) a = some (l, true, g1) := by (conv => lhs; unfold endsE); rw [if_neg (by decide), if_neg (by decide), if_neg (by decide), if_pos (by decide)]; simp only [h]
theorem ends15_go {l : List TEnding} {g1 : Nat} (h : endsE ds s d g p a = some (l, false, g1)) : endsE ds s (d + 1) (g + 1) (.mk 15 t n lo hi [p, q]) a = (match endsE ds s d g1 q a with | none => none | some (m, halt, g2) => some (l ++ m, halt, g2)) := by (conv => lhs; unfold endsE); rw [if_neg (by decide), if_neg (by decide), if_neg (by decide), if_pos (by decide)]; simp only [h]; rfl
theorem ends14_none (h : endsE ds s d g p a = none) : endsE ds s (d + 1) (g + 1) (.mk 14 t n lo hi [p, q]) a = none := by (conv => lhs; unfold endsE); rw [if_neg (by decide), if_neg (by decide), if_pos (by decide)]; simp only [h]
theorem ends14_go {l : List TEnding} {st : Bool} {g1 : Nat} (h : endsE ds s d g p a = some (l, st, g1)) : endsE ds s (d + 1) (g + 1) (.mk 14 t n lo hi [p, q]) a = orE st (thenE (fun f' a' => endsE ds s d f' q a') (-1) l g1 []) := by (conv => lhs; unfold endsE); rw [if_neg (by decide), if_neg (by decide), if_pos (by decide)]; simp only [h]
theorem ends13_none (h : endsE ds s d g p a = none) : endsE ds s (d + 1) (g + 1) (.mk 13 t n lo hi [p]) a = none := by (conv => lhs; unfold endsE); rw [if_neg (by decide), if_pos (by decide)]; simp only [h]
theorem ends13_go {l : List TEnding} {st : Bool} {g1 : Nat} (h : endsE ds s d g p a = some (l, st, g1)) : endsE ds s (d + 1) (g + 1) (.mk 13 t n lo hi [p]) a = orE st (thenE (fun f' a' => endsE ds s d f' (.mk 13 t n lo hi [p]) a') a l g1 [.mk a []]) := by (conv => lhs; unfold endsE); rw [if_neg (by decide), if_pos (by decide)]; simp only [h]
theorem ends16_none (h : endsE ds s d g p a = none) : endsE ds s (d + 1) (g + 1) (.mk 16 t n lo hi [p]) a = none := by (conv => lhs; unfold endsE); rw [if_neg (by decide), if_neg (by decide), if_neg (by decide), if_neg (by decide), if_pos (by decide)]; simp only [h]
theorem ends16_go {l : List TEnding} {st : Bool} {g1 : Nat} (h : endsE ds s d g p a = some (l, st, g1)) : endsE ds s (d + 1) (g + 1) (.mk 16 t n lo hi [p]) a = some (l.map (putE n a), st, g1) := by (conv => lhs; unfold endsE); rw [if_neg (by decide), if_neg (by decide), if_neg (by decide), if_neg (by decide), if_pos (by decide)]; simp only [h]
theorem ends17_eq : endsE ds s (d + 1) (g + 1) (.mk 17 t n lo hi [p]) a = endsE ds s d g p a := by (conv => lhs; unfold endsE); rw [if_neg (by decide), if_neg (by decide), if_neg (by decide), if_neg (by decide), if_neg (by decide), if_pos (by decide)]
theorem ends20_eq {ks : List TPattern} (h : ds[n.toNat]? = some q) : endsE ds s (d + 1) (g + 1) (.mk 20 t n lo hi ks) a = endsE ds s d g q a := by (conv => lhs; unfold endsE); rw [if_neg (by decide), if_neg (by decide), if_neg (by decide), if_neg (by decide), if_neg (by decide), if_neg (by decide), if_neg (by decide), if_neg (by decide), if_pos (by decide)]; simp only [h]
theorem OutE.facts {vars : Int} {es : List TEnding} {st : Bool} {f1 : Int} (ho : OutE (g : Int) (endsE ds s d g p a) es st f1) (hok : OkE vars s a g (endsE ds s d g p a)) : f1 < g + 1 ∧ -5000 * ((g : Int) + 1) ≤ f1 ∧ es.length ≤ g + 130 ∧ (0 ≤ f1 → es.length + f1 ≤ g) ∧ (0 ≤ f1 → ∀ x ∈ es, 0 ≤ x.pos ∧ x.pos ≤ s.size ∧ x.cs.length ≤ g) := by
  rcases ho with ⟨l, t, g1, r1, r2, r3, r4⟩ | ⟨r1, r2, r3, r4, r5⟩
  · subst r2 r3
    obtain ⟨h1, h2, h3⟩ := hok _ _ _ r1
    refine ⟨by omega, by omega, by omega, fun _ => by omega, fun _ x hx => ?_⟩
    obtain ⟨k, k1, k2, k3, k4, -⟩ := h3 x hx
    omega
  · rw [if_pos (by omega)] at r4
    exact ⟨by omega, r4, by omega, fun h => by omega, fun h => by omega⟩
theorem hqv_of (hds : ∀ q ∈ ds, q.vld ds.length = true) (hq : q.vld ds.length = true) (hd : d ≤ 2999) : ∀ f' a', f' ≤ d → 0 ≤ a' ∧ a' ≤ (s.size : Int) → ∀ l t g2, endsE ds s d f' q a'.toNat = some (l, t, g2) → g2 < f' ∧ l.length + g2 ≤ f' ∧ ∀ y ∈ l, y.cs.length ≤ 3000 := by
  intro f' a' hf ha l t g2 h
  obtain ⟨h1, h2, h3⟩ := endsE_ok (s := s) hds d f' q a'.toNat hq (by omega) l t g2 h
  refine ⟨h1, h2, fun y hy => ?_⟩
  obtain ⟨k, -, -, -, h4, -⟩ := h3 y hy
  omega
theorem put_out {es : List TEnding} {st : Bool} {f1 : Int} (ho : OutE (g : Int) (endsE ds s d g p a) es st f1) : OutE ((g : Int) + 1) (endsE ds s (d + 1) (g + 1) (.mk 16 t n lo hi [p]) a) (es.map (putE n a)) st f1 := by
  rcases ho with ⟨l, t, g1, r1, r2, r3, r4⟩ | ⟨r1, r2, r3, r4, r5⟩
  · subst r2 r3
    exact Or.inl ⟨_, _, g1, ends16_go r1, rfl, rfl, r4⟩
  · rw [if_pos (by omega)] at r4
    exact Or.inr ⟨ends16_none r1, r2, by rw [List.length_map]; omega, by rw [if_pos (by omega)]; omega, fun h => by omega⟩
theorem putE_D {x : TEnding} {b : Int} {cs : List TCapture} (hx : x = .mk b cs) : (putE n a x).D = [Dat.int b, Dat.row 3 ((cs ++ [TCapture.mk n a b]).map TCapture.D)] := by
  subst hx
  simp only [putE, TEnding.pos, TEnding.cs]
  rw [TEnding.D_mk]
theorem arb_out (ha : a ≤ s.size) (hs : s.size ≤ 120) {ks : List TPattern} : OutE ((g : Int) + 1) (endsE ds s (d + 1) (g + 1) (.mk 11 t n lo hi ks) a) ((List.range (s.size + 1 - a)).map fun i => TEnding.mk ((a + i : Nat) : Int) []) false ((g : Int) - ((s.size + 1 - a : Nat) : Int)) := by
  by_cases h : s.size + 1 - a ≤ g
  · exact Or.inl ⟨_, _, g - (s.size + 1 - a), by (conv => lhs; unfold endsE); rw [if_pos (by decide)]; rw [if_pos h], rfl, rfl, by omega⟩
  · exact Or.inr ⟨by (conv => lhs; unfold endsE); rw [if_pos (by decide)]; rw [if_neg h], by omega, by simp; omega, by rw [if_pos (by omega)]; omega, fun h => by omega⟩
def oneL : Option Nat → List TEnding
  | some e => [TEnding.mk (e : Int) []]
  | none => []
theorem one_out {op : Int} {ks : List TPattern} (h11 : ¬ op = 11) (h13 : ¬ op = 13) (h14 : ¬ op = 14) (h15 : ¬ op = 15) (h16 : ¬ op = 16) (h17 : ¬ op = 17) (h18 : ¬ op = 18) (h19 : ¬ op = 19) (h20 : ¬ op = 20) (h21 : ¬ op = 21) (r : Option Nat) (hr : oneE op n lo hi t s a = r) : OutE ((g : Int) + 1) (endsE ds s (d + 1) (g + 1) (.mk op t n lo hi ks) a) (oneL r) false (g : Int) := by
  refine Or.inl ⟨_, _, g, ?_, rfl, rfl, rfl⟩
  (conv => lhs; unfold endsE)
  rw [if_neg h11, if_neg h13, if_neg h14, if_neg h15, if_neg h16, if_neg h17, if_neg h18, if_neg h19, if_neg h20, if_neg h21, hr]
  cases r <;> rfl
theorem OutE.len2 {vars : Int} {es : List TEnding} {st : Bool} {f1 f2 : Int} (ho : OutE f1 (resE ds s d f1 q (a : Int)) es st f2) (hok : ∀ f', OkE vars s a f' (endsE ds s d f' q a)) (hf : f1 ≤ g) : es.length ≤ g + 130 := by
  rcases ho with ⟨l, t, g1, r1, r2, r3, r4⟩ | ⟨r1, r2, r3, r4, r5⟩
  · unfold resE at r1
    by_cases h0 : 0 ≤ f1
    · rw [if_pos h0, Int.toNat_natCast] at r1
      have := (hok _ _ _ _ r1).2.1
      subst r2
      omega
    · rw [if_neg h0] at r1; cases r1
  · omega
theorem OutE.up {r : ResE} {es : List TEnding} {st : Bool} {f1 : Int} (ho : OutE (g : Int) r es st f1) : OutE ((g : Int) + 1) r es st f1 := by
  rcases ho with ⟨l, t, g1, r1, r2, r3, r4⟩ | ⟨r1, r2, r3, r4, r5⟩
  · exact Or.inl ⟨l, t, g1, r1, r2, r3, r4⟩
  · rw [if_pos (by omega)] at r4
    exact Or.inr ⟨r1, r2, by omega, by rw [if_pos (by omega)]; omega, fun h => by omega⟩
theorem or15_stop {es : List TEnding} {f1 : Int} (ho : OutE (g : Int) (endsE ds s d g p a) es true f1) : OutE ((g : Int) + 1) (endsE ds s (d + 1) (g + 1) (.mk 15 t n lo hi [p, q]) a) es true f1 := by
  rcases ho with ⟨l, t, g1, r1, r2, r3, r4⟩ | ⟨r1, r2, r3, r4, r5⟩
  · subst r2 r3
    exact Or.inl ⟨_, _, g1, ends15_stop r1, rfl, rfl, r4⟩
  · rw [if_pos (by omega)] at r4
    exact Or.inr ⟨ends15_none r1, r2, by omega, by rw [if_pos (by omega)]; omega, fun h => by omega⟩
theorem or15_go {vars : Int} {es es2 : List TEnding} {f1 f2 : Int} {st2 : Bool} (ho : OutE (g : Int) (endsE ds s d g p a) es false f1) (hok : OkE vars s a g (endsE ds s d g p a)) (ho2 : OutE f1 (resE ds s d f1 q (a : Int)) es2 st2 f2) :
    OutE ((g : Int) + 1) (endsE ds s (d + 1) (g + 1) (.mk 15 t n lo hi [p, q]) a) (es ++ es2) st2 f2 := by
  rcases ho with ⟨l, t, g1, r1, r2, r3, r4⟩ | ⟨r1, r2, r3, r4, r5⟩
  · subst r2 r4
    obtain ⟨h1, h2, h3⟩ := hok _ _ _ r1
    rw [resE_nat] at ho2
    rw [← r3] at r1
    rcases ho2 with ⟨l2, t2, g2, q1, q2, q3, q4⟩ | ⟨q1, q2, q3, q4, q5⟩
    · subst q2 q3
      exact Or.inl ⟨_, _, g2, by rw [ends15_go r1, q1], rfl, rfl, q4⟩
    · rw [if_pos (by omega)] at q4
      exact Or.inr ⟨by rw [ends15_go r1, q1], q2, by rw [List.length_append]; omega, by rw [if_pos (by omega)]; omega, fun h => by omega⟩
  · rw [if_pos (by omega)] at r4
    have hr : resE ds s d f1 q (a : Int) = none := by unfold resE; rw [if_neg (by omega)]
    rcases ho2 with ⟨l2, t2, g2, q1, q2, q3, q4⟩ | ⟨q1, q2, q3, q4, q5⟩
    · rw [hr] at q1; cases q1
    · rw [if_neg (by omega)] at q4
      have := q5 (by omega)
      subst this
      exact Or.inr ⟨ends15_none r1, q2, by simp; omega, by rw [if_pos (by omega)]; omega, fun h => by omega⟩
theorem then_out {R : ResE} {ev : Nat → Nat → ResE} {above : Int} {os es es2 : List TEnding} {st st2 : Bool} {f1 f2 : Int} {N0 : Nat} (ho : OutE (g : Int) (endsE ds s d g p a) es st f1) (hf1 : f1 < g + 1) (hlen : es.length ≤ g + 130) (hN0 : (N0 : Int) ≤ g + 2) (hg3 : g ≤ 3000)
    (hR0 : endsE ds s d g p a = none → R = none) (hR1 : ∀ l t g1, endsE ds s d g p a = some (l, t, g1) → R = orE t (thenE ev above l g1 os))
    (ho2 : OutT N0 (-5000 * ((g : Int) + 1) - es.length) (if 0 ≤ f1 then thenE ev above es f1.toNat os else none) es2 st2 f2) : OutE ((g : Int) + 1) R es2 (st || st2) f2 := by
  have dead : R = none → f2 < 0 → es2.length ≤ N0 + 1 → -5000 * ((g : Int) + 1) - es.length ≤ f2 → OutE ((g : Int) + 1) R es2 (st || st2) f2 := fun a1 a2 a3 a4 => Or.inr ⟨a1, a2, by omega, by rw [if_pos (by omega)]; omega, fun h => by omega⟩
  rcases ho with ⟨l, t, g1, r1, r2, r3, r4⟩ | ⟨r1, r2, r3, r4, r5⟩
  · subst r2 r3 r4
    rw [if_pos (by omega), Int.toNat_natCast] at ho2
    rcases ho2 with ⟨l2, t2, g2, q1, q2, q3, q4⟩ | ⟨q1, q2, q3, q4⟩
    · subst q2 q3
      exact Or.inl ⟨_, _, g2, by rw [hR1 _ _ _ r1, q1]; rfl, rfl, rfl, q4⟩
    · exact dead (by rw [hR1 _ _ _ r1, q1]; rfl) q2 q3 q4
  · rw [if_neg (by omega)] at ho2
    rcases ho2 with ⟨l2, t2, g2, q1, q2, q3, q4⟩ | ⟨q1, q2, q3, q4⟩
    · cases q1
    · exact dead (hR0 r1) q2 q3 q4
end

end Go.Proofs.Ytdjbfneniohaaaa
