/- What a pattern matches from an offset on: the endings, whether the match must stop, the steps that are left. -/
import Derived.Test.YtdjbfneniohaaaaPD
import Derived.Test.YtdjbfneniohaaaaPB
import Derived.Test.YtdjbfneniohaaaaPP1
import Derived.Test.YtdjbfneniohaaaaPP10
namespace Go.Proofs.Ytdjbfneniohaaaa
set_option linter.unusedVariables false
set_option linter.unusedSimpArgs false
set_option maxRecDepth 100000
open Go.RowKit
def TEnding.pos : TEnding → Int
 | .mk a _ => a
def TEnding.cs : TEnding → List TCapture
 | .mk _ c => c
def TCapture.var : TCapture → Int
 | .mk v _ _ => v
def TCapture.fr : TCapture → Int
 | .mk _ f _ => f
def TCapture.to : TCapture → Int
 | .mk _ _ t => t
def scanE (lo hi : Int) (s : ByteArray) (q : Bool) : Nat → Nat → Nat
 | 0, i => i
 | n + 1, i => if hasBit lo hi (byteAt s i) = q then scanE lo hi s q n (i + 1) else i
def oneE (op n lo hi : Int) (t s : ByteArray) (a : Nat) : Option Nat :=
 if op = 1 then (if a + t.size ≤ s.size ∧ s.extract a (a + t.size) = t then some (a + t.size) else none)
 else if op = 2 then (if (a : Int) + n ≤ s.size then some (a + n.toNat) else none)
 else if op = 3 then (if n = a then some a else none)
 else if op = 4 then (if n = (s.size : Int) - a then some a else none)
 else if op = 5 then (if (a : Int) ≤ n ∧ n ≤ s.size then some n.toNat else none)
 else if op = 6 then (if n ≤ (s.size : Int) - a then some (s.size - n.toNat) else none)
 else if op = 7 ∨ op = 8 then (if a < s.size ∧ hasBit lo hi (byteAt s a) = decide (op = 7) then some (a + 1) else none)
 else if op = 9 then (if a < scanE lo hi s true (s.size - a) a then some (scanE lo hi s true (s.size - a) a) else none)
 else if op = 10 then (if scanE lo hi s false (s.size - a) a < s.size then some (scanE lo hi s false (s.size - a) a) else none)
 else if op = 12 then some s.size
 else if op = 22 then some a
 else none
def joinE (x y : TEnding) : TEnding := .mk y.pos (x.cs ++ y.cs)
abbrev ResE := Option (List TEnding × Bool × Nat)
def thenE (ev : Nat → Nat → ResE) (above : Int) : List TEnding → Nat → List TEnding → ResE
 | [], f, out => some (out, false, f)
 | x :: r, f, out =>
  if x.pos ≤ above then thenE ev above r f out
  else match ev f x.pos.toNat with
   | none => none
   | some (rest, stop, g) => if rest.length ≤ g then (if stop then some (out ++ rest.map (joinE x), true, g - rest.length) else thenE ev above r (g - rest.length) (out ++ rest.map (joinE x))) else none
def orE (stop : Bool) : ResE → ResE
 | none => none
 | some (out, halt, g) => some (out, stop || halt, g)
def putE (n : Int) (a : Nat) (x : TEnding) : TEnding := .mk x.pos (x.cs ++ [.mk n a x.pos])
def endsE (ds : List TPattern) (s : ByteArray) : Nat → Nat → TPattern → Nat → ResE
 | 0, _, _, _ => none
 | _ + 1, 0, _, _ => none
 | d + 1, f + 1, .mk op t n lo hi ks, a =>
  if op = 11 then (if s.size + 1 - a ≤ f then some ((List.range (s.size + 1 - a)).map fun i => .mk ((a + i : Nat) : Int) [], false, f - (s.size + 1 - a)) else none)
  else if op = 13 then (match ks with
   | [p] => (match endsE ds s d f p a with
    | none => none
    | some (first, stop, g) => orE stop (thenE (fun f' a' => endsE ds s d f' (.mk op t n lo hi ks) a') a first g [.mk a []]))
   | _ => none)
  else if op = 14 then (match ks with
   | [p, q] => (match endsE ds s d f p a with
    | none => none
    | some (first, stop, g) => orE stop (thenE (fun f' a' => endsE ds s d f' q a') (-1) first g []))
   | _ => none)
  else if op = 15 then (match ks with
   | [p, q] => (match endsE ds s d f p a with
    | none => none
    | some (first, true, g) => some (first, true, g)
    | some (first, false, g) => (match endsE ds s d g q a with
     | none => none
     | some (second, halt, g') => some (first ++ second, halt, g')))
   | _ => none)
  else if op = 16 then (match ks with
   | [p] => (match endsE ds s d f p a with
    | none => none
    | some (first, stop, g) => some (first.map (putE n a), stop, g))
   | _ => none)
  else if op = 17 then (match ks with
   | [p] => endsE ds s d f p a
   | _ => none)
  else if op = 18 then some ([.mk a []], false, f)
  else if op = 19 then some ([.mk a []], true, f)
  else if op = 20 then (match ds[n.toNat]? with
   | some q => endsE ds s d f q a
   | none => none)
  else if op = 21 then some ([], true, f)
  else match oneE op n lo hi t s a with
   | some e => some ([.mk e []], false, f)
   | none => some ([], false, f)
theorem scanE_ge (lo hi : Int) (s : ByteArray) (q : Bool) : ∀ n i, i ≤ scanE lo hi s q n i ∧ scanE lo hi s q n i ≤ i + n
 | 0, i => by simp [scanE]
 | n + 1, i => by
  have := scanE_ge lo hi s q n (i + 1)
  unfold scanE
  split <;> omega
theorem ite_some {α : Type} {c : Prop} [Decidable c] {x e : α} (h : (if c then some x else none) = some e) : c ∧ x = e := by
 by_cases hc : c
 ·
  rw [if_pos hc] at h; exact ⟨hc, Option.some.inj h⟩
 ·
  rw [if_neg hc] at h; cases h
theorem oneE_in {op n lo hi : Int} {t s : ByteArray} {a e : Nat} (ha : a ≤ s.size) (hn : 2 ≤ op ∧ op ≤ 6 → 0 ≤ n) (h : oneE op n lo hi t s a = some e) : a ≤ e ∧ e ≤ s.size := by
 have g1 := scanE_ge lo hi s true (s.size - a) a
 have g2 := scanE_ge lo hi s false (s.size - a) a
 unfold oneE at h
 by_cases h0 : op = 1
 ·
  rw [if_pos h0] at h
  obtain ⟨c, rfl⟩ := ite_some h
  clear h
  omega
 rw [if_neg h0] at h
 by_cases h1 : op = 2
 ·
  rw [if_pos h1] at h
  obtain ⟨c, rfl⟩ := ite_some h
  clear h
  omega
 rw [if_neg h1] at h
 by_cases h2 : op = 3
 ·
  rw [if_pos h2] at h
  obtain ⟨c, rfl⟩ := ite_some h
  clear h
  omega
 rw [if_neg h2] at h
 by_cases h3 : op = 4
 ·
  rw [if_pos h3] at h
  obtain ⟨c, rfl⟩ := ite_some h
  clear h
  omega
 rw [if_neg h3] at h
 by_cases h4 : op = 5
 ·
  rw [if_pos h4] at h
  obtain ⟨c, rfl⟩ := ite_some h
  clear h
  omega
 rw [if_neg h4] at h
 by_cases h5 : op = 6
 ·
  rw [if_pos h5] at h
  obtain ⟨c, rfl⟩ := ite_some h
  clear h
  omega
 rw [if_neg h5] at h
 by_cases h6 : op = 7 ∨ op = 8
 ·
  rw [if_pos h6] at h
  obtain ⟨c, rfl⟩ := ite_some h
  clear h
  omega
 rw [if_neg h6] at h
 by_cases h7 : op = 9
 ·
  rw [if_pos h7] at h
  obtain ⟨c, rfl⟩ := ite_some h
  clear h
  omega
 rw [if_neg h7] at h
 by_cases h8 : op = 10
 ·
  rw [if_pos h8] at h
  obtain ⟨c, rfl⟩ := ite_some h
  clear h
  omega
 rw [if_neg h8] at h
 by_cases h9 : op = 12
 ·
  rw [if_pos h9] at h
  obtain rfl := Option.some.inj h
  omega
 rw [if_neg h9] at h
 by_cases h10 : op = 22
 ·
  rw [if_pos h10] at h
  obtain rfl := Option.some.inj h
  omega
 rw [if_neg h10] at h
 cases h
def GoodE (vars : Int) (s : ByteArray) (a n : Nat) (x : TEnding) : Prop :=
 ∃ k : Nat, x.pos = k ∧ a ≤ k ∧ k ≤ s.size ∧ x.cs.length ≤ n ∧ ∀ c ∈ x.cs, 0 ≤ c.var ∧ c.var < vars ∧ (a : Int) ≤ c.fr ∧ c.fr ≤ c.to ∧ c.to ≤ k
theorem GoodE.mono {vars : Int} {s : ByteArray} {a n m : Nat} {x : TEnding} (h : GoodE vars s a n x) (hm : n ≤ m) : GoodE vars s a m x := by
 obtain ⟨k, h1, h2, h3, h4, h5⟩ := h
 exact ⟨k, h1, h2, h3, by omega, h5⟩
theorem GoodE.bare {vars : Int} {s : ByteArray} {a k : Nat} (n : Nat) (h1 : a ≤ k) (h2 : k ≤ s.size) : GoodE vars s a n (.mk k []) := ⟨k, rfl, h1, h2, by simp [TEnding.cs], fun c hc => by simp [TEnding.cs] at hc⟩
theorem GoodE.join {vars : Int} {s : ByteArray} {a n k m : Nat} {x y : TEnding} (h : GoodE vars s a n x) (hk : x.pos = k) (hy : GoodE vars s k m y) : GoodE vars s a (n + m) (joinE x y) := by
 obtain ⟨k', h1, h2, h3, h4, h5⟩ := h
 obtain rfl : k' = k := by rw [hk] at h1; omega
 obtain ⟨j, g1, g2, g3, g4, g5⟩ := hy
 refine ⟨j, g1, by omega, g3, by simp only [joinE, TEnding.cs, List.length_append]; exact Nat.add_le_add h4 g4, fun c hc => ?_⟩
 simp only [joinE, TEnding.cs] at hc
 rcases List.mem_append.1 hc with hc | hc
 ·
  have := h5 c hc; omega
 ·
  have := g5 c hc; omega
theorem GoodE.put {vars n : Int} {s : ByteArray} {a m : Nat} {x : TEnding} (h : GoodE vars s a m x) (hn : 0 ≤ n ∧ n < vars) : GoodE vars s a (m + 1) (putE n a x) := by
 obtain ⟨k, h1, h2, h3, h4, h5⟩ := h
 refine ⟨k, h1, h2, h3, by simp only [putE, TEnding.cs, List.length_append, List.length_cons, List.length_nil]; exact Nat.add_le_add_right h4 1, fun c hc => ?_⟩
 simp only [putE, TEnding.cs] at hc
 rcases List.mem_append.1 hc with hc | hc
 ·
  exact h5 c hc
 ·
  rw [List.mem_singleton.1 hc]
  simp only [TCapture.var, TCapture.fr, TCapture.to]
  omega
def OkE (vars : Int) (s : ByteArray) (a f : Nat) (r : ResE) : Prop := ∀ l st g, r = some (l, st, g) → g < f ∧ l.length + g ≤ f ∧ ∀ x ∈ l, GoodE vars s a (f - g) x
theorem thenE_ok {vars : Int} {s : ByteArray} {ev : Nat → Nat → ResE} {above : Int} {a : Nat} (hev : ∀ f' a', a' ≤ s.size → OkE vars s a' f' (ev f' a')) (n1 F N : Nat) : ∀ (first : List TEnding) (f : Nat) (out : List TEnding),
  f ≤ F → out.length + f ≤ N → (∀ x ∈ first, GoodE vars s a n1 x) → (∀ x ∈ out, GoodE vars s a (n1 + (F - f)) x) → ∀ l st g, thenE ev above first f out = some (l, st, g) → g ≤ f ∧ l.length + g ≤ N ∧ ∀ x ∈ l, GoodE vars s a (n1 + (F - g)) x
 | [], f, out, hf, hl, _, ho, l, st, g, h => by
  unfold thenE at h
  injection h with h
  injection h with h1 h2
  injection h2 with h2 h3
  subst h1 h3
  exact ⟨Nat.le_refl _, hl, ho⟩
 | x :: r, f, out, hf, hl, h1, ho, l, st, g, h => by
  unfold thenE at h
  have hr : ∀ y ∈ r, GoodE vars s a n1 y := fun y hy => h1 y (by simp [hy])
  split at h
  ·
   exact thenE_ok hev n1 F N r f out hf hl hr ho l st g h
  ·
   obtain ⟨k, hk, k1, k2, _⟩ := h1 x (by simp)
   cases he : ev f x.pos.toNat with
   | none => rw [he] at h; simp at h
   | some y =>
    obtain ⟨rest, stop, g'⟩ := y
    rw [he] at h
    simp only at h
    have hkk : x.pos.toNat = k := by omega
    rw [hkk] at he
    obtain ⟨e1, e2, e3⟩ := hev f k k2 rest stop g' he
    split at h
    ·
     rename_i hle
     have hout : ∀ z ∈ out ++ rest.map (joinE x), GoodE vars s a (n1 + (F - (g' - rest.length))) z := by
      intro z hz
      rcases List.mem_append.1 hz with hz | hz
      ·
       exact (ho z hz).mono (by omega)
      ·
       obtain ⟨y, hy, rfl⟩ := List.mem_map.1 hz
       exact (GoodE.join (h1 x (by simp)) hk (e3 y hy)).mono (by omega)
     split at h
     ·
      injection h with h
      injection h with q1 q2
      injection q2 with q2 q3
      subst q1 q3
      exact ⟨by omega, by simp only [List.length_append, List.length_map]; omega, hout⟩
     ·
      have := thenE_ok hev n1 F N r (g' - rest.length) (out ++ rest.map (joinE x)) (by omega) (by simp only [List.length_append, List.length_map]; omega) hr hout l st g h
      exact ⟨by omega, this.2⟩
    ·
     simp at h
theorem nodeN_var {op n vars : Int} (h : nodeN op n vars) (ho : op = 16 ∨ op = 17 ∨ op = 18 ∨ op = 20) : 0 ≤ n ∧ n < vars := by
 unfold nodeN at h
 rw [if_neg (by omega), if_pos ho] at h
 exact h
theorem nodeN_num {op n vars : Int} (h : nodeN op n vars) (ho : 2 ≤ op ∧ op ≤ 6) : 0 ≤ n ∧ n ≤ 120 := by
 unfold nodeN at h
 rw [if_pos ho] at h
 exact h
theorem vld_node {vars op n lo hi : Int} {t : ByteArray} {ks : List TPattern} (h : (TPattern.mk op t n lo hi ks).vld vars = true) : nodeA op lo hi t ks.length ∧ nodeN op n vars := by
 simp only [TPattern.vld, Bool.and_eq_true, decide_eq_true_eq] at h
 exact h.1
theorem orE_some {stop : Bool} {r : ResE} {l : List TEnding} {st : Bool} {g : Nat} (h : orE stop r = some (l, st, g)) : ∃ halt, r = some (l, halt, g) ∧ st = (stop || halt) := by
 cases r with
 | none => simp [orE] at h
 | some y =>
  obtain ⟨a, b, c⟩ := y
  simp only [orE, Option.some.injEq, Prod.mk.injEq] at h
  obtain ⟨rfl, rfl, rfl⟩ := h
  exact ⟨b, rfl, rfl⟩
theorem endsE_ok {vars : Int} {ds : List TPattern} {s : ByteArray} (hds : ∀ q ∈ ds, q.vld vars = true) : ∀ (d f : Nat) (p : TPattern) (a : Nat), p.vld vars = true → a ≤ s.size → OkE vars s a f (endsE ds s d f p a)
 | 0, f, p, a, _, _, l, st, g, h => by simp [endsE] at h
 | d + 1, 0, p, a, _, _, l, st, g, h => by simp [endsE] at h
 | d + 1, f + 1, .mk op t n lo hi ks, a, hv, ha, l, st, g, h => by
  have IH := endsE_ok (s := s) hds d
  have hnode := vld_node hv
  have one : ∀ {l' : List TEnding} {st' : Bool}, some (l', st', f) = some (l, st, g) → l'.length ≤ 1 → (∀ x ∈ l', GoodE vars s a 1 x) → g < f + 1 ∧ l.length + g ≤ f + 1 ∧ ∀ x ∈ l, GoodE vars s a (f + 1 - g) x := by
   intro l' st' h hl hg
   simp only [Option.some.injEq, Prod.mk.injEq] at h
   obtain ⟨rfl, rfl, rfl⟩ := h
   exact ⟨by omega, by omega, fun x hx => (hg x hx).mono (by omega)⟩
  have bare1 : ∀ k : Nat, a ≤ k → k ≤ s.size → ∀ x ∈ [TEnding.mk k []], GoodE vars s a 1 x := fun k h1 h2 x hx => by rw [List.mem_singleton.1 hx]; exact GoodE.bare 1 h1 h2
  unfold endsE at h
  by_cases h11 : op = 11
  ·
   rw [if_pos h11] at h
   split at h
   ·
    simp only [Option.some.injEq, Prod.mk.injEq] at h
    obtain ⟨rfl, rfl, rfl⟩ := h
    refine ⟨by omega, by simp; omega, fun x hx => ?_⟩
    obtain ⟨i, hi', rfl⟩ := List.mem_map.1 hx
    have := List.mem_range.1 hi'
    exact GoodE.bare _ (by omega) (by omega)
   ·
    simp at h
  rw [if_neg h11] at h
  by_cases h13 : op = 13
  ·
   rw [if_pos h13] at h
   obtain ⟨p, rfl, hp⟩ := TPattern.kids1 hv (by subst h13; rfl)
   simp only at h
   cases he : endsE ds s d f p a with
   | none => rw [he] at h; simp at h
   | some y =>
    obtain ⟨first, stop, g1⟩ := y
    rw [he] at h
    simp only at h
    obtain ⟨e1, e2, e3⟩ := IH f p a hp ha first stop g1 he
    obtain ⟨halt, ht, -⟩ := orE_some h
    obtain ⟨t1, t2, t3⟩ := thenE_ok (fun f' a' h' => IH f' _ a' hv h') (f - g1) g1 (1 + g1) first g1 [.mk a []] (Nat.le_refl _) (by simp) e3 (fun x hx => (bare1 a (Nat.le_refl _) ha x hx).mono (by omega)) l halt g ht
    exact ⟨by omega, by omega, fun x hx => (t3 x hx).mono (by omega)⟩
  rw [if_neg h13] at h
  by_cases h14 : op = 14
  ·
   rw [if_pos h14] at h
   obtain ⟨p, q, rfl, hp, hq⟩ := TPattern.kids2 hv (by subst h14; rfl)
   simp only at h
   cases he : endsE ds s d f p a with
   | none => rw [he] at h; simp at h
   | some y =>
    obtain ⟨first, stop, g1⟩ := y
    rw [he] at h
    simp only at h
    obtain ⟨e1, e2, e3⟩ := IH f p a hp ha first stop g1 he
    obtain ⟨halt, ht, -⟩ := orE_some h
    obtain ⟨t1, t2, t3⟩ := thenE_ok (fun f' a' h' => IH f' q a' hq h') (f - g1) g1 g1 first g1 [] (Nat.le_refl _) (by simp) e3 (fun x hx => by simp at hx) l halt g ht
    exact ⟨by omega, by omega, fun x hx => (t3 x hx).mono (by omega)⟩
  rw [if_neg h14] at h
  by_cases h15 : op = 15
  ·
   rw [if_pos h15] at h
   obtain ⟨p, q, rfl, hp, hq⟩ := TPattern.kids2 hv (by subst h15; rfl)
   simp only at h
   cases he : endsE ds s d f p a with
   | none => rw [he] at h; simp at h
   | some y =>
    obtain ⟨first, stop, g1⟩ := y
    rw [he] at h
    obtain ⟨e1, e2, e3⟩ := IH f p a hp ha first stop g1 he
    cases stop with
    | true =>
     simp only [Option.some.injEq, Prod.mk.injEq] at h
     obtain ⟨rfl, rfl, rfl⟩ := h
     exact ⟨by omega, by omega, fun x hx => (e3 x hx).mono (by omega)⟩
    | false =>
     simp only at h
     cases he2 : endsE ds s d g1 q a with
     | none => rw [he2] at h; simp at h
     | some y =>
      obtain ⟨second, halt, g2⟩ := y
      rw [he2] at h
      simp only [Option.some.injEq, Prod.mk.injEq] at h
      obtain ⟨rfl, rfl, rfl⟩ := h
      obtain ⟨b1, b2, b3⟩ := IH g1 q a hq ha second halt g2 he2
      refine ⟨by omega, by simp only [List.length_append]; omega, fun x hx => ?_⟩
      rcases List.mem_append.1 hx with hx | hx
      ·
       exact (e3 x hx).mono (by omega)
      ·
       exact (b3 x hx).mono (by omega)
  rw [if_neg h15] at h
  by_cases h16 : op = 16
  ·
   rw [if_pos h16] at h
   obtain ⟨p, rfl, hp⟩ := TPattern.kids1 hv (by subst h16; rfl)
   simp only at h
   cases he : endsE ds s d f p a with
   | none => rw [he] at h; simp at h
   | some y =>
    obtain ⟨first, stop, g1⟩ := y
    rw [he] at h
    simp only [Option.some.injEq, Prod.mk.injEq] at h
    obtain ⟨rfl, rfl, rfl⟩ := h
    obtain ⟨e1, e2, e3⟩ := IH f p a hp ha first stop g1 he
    refine ⟨by omega, by simp; omega, fun x hx => ?_⟩
    obtain ⟨y, hy, rfl⟩ := List.mem_map.1 hx
    exact (GoodE.put (e3 y hy) (nodeN_var hnode.2 (Or.inl h16))).mono (by omega)
  rw [if_neg h16] at h
  by_cases h17 : op = 17
  ·
   rw [if_pos h17] at h
   obtain ⟨p, rfl, hp⟩ := TPattern.kids1 hv (by subst h17; rfl)
   simp only at h
   obtain ⟨e1, e2, e3⟩ := IH f p a hp ha l st g h
   exact ⟨by omega, by omega, fun x hx => (e3 x hx).mono (by omega)⟩
  rw [if_neg h17] at h
  by_cases h18 : op = 18
  ·
   rw [if_pos h18] at h
   exact one h (by simp) (bare1 a (Nat.le_refl _) ha)
  rw [if_neg h18] at h
  by_cases h19 : op = 19
  ·
   rw [if_pos h19] at h
   exact one h (by simp) (bare1 a (Nat.le_refl _) ha)
  rw [if_neg h19] at h
  by_cases h20 : op = 20
  ·
   rw [if_pos h20] at h
   cases hd : ds[n.toNat]? with
   | none => rw [hd] at h; simp at h
   | some q =>
    rw [hd] at h
    simp only at h
    obtain ⟨e1, e2, e3⟩ := IH f q a (hds q (List.mem_of_getElem? hd)) ha l st g h
    exact ⟨by omega, by omega, fun x hx => (e3 x hx).mono (by omega)⟩
  rw [if_neg h20] at h
  by_cases h21 : op = 21
  ·
   rw [if_pos h21] at h
   exact one h (by simp) (fun x hx => by simp at hx)
  rw [if_neg h21] at h
  cases ho : oneE op n lo hi t s a with
  | some e =>
   rw [ho] at h
   have := oneE_in ha (fun q => (nodeN_num hnode.2 q).1) ho
   exact one h (by simp) (bare1 e this.1 this.2)
  | none =>
   rw [ho] at h
   exact one h (by simp) (fun x hx => by simp at hx)
end Go.Proofs.Ytdjbfneniohaaaa
