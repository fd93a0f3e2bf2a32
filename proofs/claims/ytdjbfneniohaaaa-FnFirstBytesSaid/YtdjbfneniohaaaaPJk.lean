/- Endings: how far away they lie, what they begin with, and that the steps left do not matter. -/
import Derived.Test.YtdjbfneniohaaaaPJ0
import Derived.Test.YtdjbfneniohaaaaPP14
namespace Go.Proofs.Ytdjbfneniohaaaa
set_option linter.unusedVariables false
set_option linter.unusedSimpArgs false
set_option maxRecDepth 100000
open Go.RowKit
theorem thenE_mem {ev : Nat → Nat → ResE} {above : Int} : ∀ (first : List TEnding) (f : Nat) (out l : List TEnding) (st : Bool) (g : Nat), thenE ev above first f out = some (l, st, g) →
  ∀ z ∈ l, z ∈ out ∨ ∃ x ∈ first, ∃ f' rest stop g', ev f' x.pos.toNat = some (rest, stop, g') ∧ ∃ y ∈ rest, z = joinE x y
 | [], f, out, l, st, g, h => by
  unfold thenE at h
  injection h with h
  injection h with h1 h2
  subst h1
  exact fun z hz => Or.inl hz
 | x :: r, f, out, l, st, g, h => by
  unfold thenE at h
  split at h
  ·
   intro z hz
   rcases thenE_mem r f out l st g h z hz with q | ⟨x', hx', q⟩
   ·
    exact Or.inl q
   ·
    exact Or.inr ⟨x', by simp [hx'], q⟩
  ·
   cases he : ev f x.pos.toNat with
   | none => rw [he] at h; simp at h
   | some y =>
    obtain ⟨rest, stop, g'⟩ := y
    rw [he] at h
    simp only at h
    have mine : ∀ z ∈ out ++ rest.map (joinE x), z ∈ out ∨ ∃ x' ∈ x :: r, ∃ f' rest stop g', ev f' x'.pos.toNat = some (rest, stop, g') ∧ ∃ y ∈ rest, z = joinE x' y := by
     intro z hz
     rcases List.mem_append.1 hz with hz | hz
     ·
      exact Or.inl hz
     ·
      obtain ⟨y, hy, rfl⟩ := List.mem_map.1 hz
      exact Or.inr ⟨x, by simp, f, rest, stop, g', he, y, hy, rfl⟩
    split at h
    ·
     split at h
     ·
      injection h with h
      injection h with q1 q2
      subst q1
      exact mine
     ·
      intro z hz
      rcases thenE_mem r _ _ l st g h z hz with q | ⟨x', hx', q⟩
      ·
       exact mine z q
      ·
       exact Or.inr ⟨x', by simp [hx'], q⟩
    ·
     simp at h
theorem thenE_agree {ev ev' : Nat → Nat → ResE} {b b' : Int} (hev : ∀ f f' x r st g r' st' g', ev f x = some (r, st, g) → ev' f' x = some (r', st', g') → r = r' ∧ st = st') : ∀ (first : List TEnding) (f f' : Nat) (out out' : List TEnding),
  (∀ x ∈ first, x.pos ≤ b ↔ x.pos ≤ b') → ∀ l st g l' st' g', thenE ev b first f out = some (l, st, g) → thenE ev' b' first f' out' = some (l', st', g') → ∃ m, l = out ++ m ∧ l' = out' ++ m ∧ st = st'
 | [], f, f', out, out', hb, l, st, g, l', st', g', h, h' => by
  unfold thenE at h h'
  simp only [Option.some.injEq, Prod.mk.injEq] at h h'
  obtain ⟨rfl, rfl, rfl⟩ := h
  obtain ⟨rfl, rfl, rfl⟩ := h'
  exact ⟨[], by simp, by simp, rfl⟩
 | x :: r, f, f', out, out', hb, l, st, g, l', st', g', h, h' => by
  have hr : ∀ y ∈ r, y.pos ≤ b ↔ y.pos ≤ b' := fun y hy => hb y (by simp [hy])
  have hx := hb x (by simp)
  unfold thenE at h h'
  by_cases hp : x.pos ≤ b
  ·
   rw [if_pos hp] at h
   rw [if_pos (hx.1 hp)] at h'
   exact thenE_agree hev r f f' out out' hr l st g l' st' g' h h'
  rw [if_neg hp] at h
  rw [if_neg (fun q => hp (hx.2 q))] at h'
  cases he : ev f x.pos.toNat with
  | none => rw [he] at h; simp at h
  | some y =>
   cases he' : ev' f' x.pos.toNat with
   | none => rw [he'] at h'; simp at h'
   | some y' =>
    obtain ⟨rest, stop, k⟩ := y
    obtain ⟨rest', stop', k'⟩ := y'
    obtain ⟨rfl, rfl⟩ := hev _ _ _ _ _ _ _ _ _ he he'
    rw [he] at h
    rw [he'] at h'
    simp only at h h'
    split at h
    ·
     split at h'
     ·
      cases stop with
      | true =>
       simp only [↓reduceIte, Option.some.injEq, Prod.mk.injEq] at h h'
       obtain ⟨rfl, rfl, rfl⟩ := h
       obtain ⟨rfl, rfl, rfl⟩ := h'
       exact ⟨_, rfl, rfl, rfl⟩
      | false =>
       simp only [Bool.false_eq_true, ↓reduceIte] at h h'
       obtain ⟨m, rfl, rfl, rfl⟩ := thenE_agree hev r _ _ _ _ hr l st g l' st' g' h h'
       exact ⟨rest.map (joinE x) ++ m, by simp, by simp, rfl⟩
     ·
      simp at h'
    ·
     simp at h
theorem one_in {α : Type} {l l' : List α} {st st' : Bool} {f g : Nat} (h : some (l', st', f) = some (l, st, g)) : l = l' ∧ st = st' := by
 simp only [Option.some.injEq, Prod.mk.injEq] at h
 exact ⟨h.1.symm, h.2.1.symm⟩
theorem endsE_agree {vars : Int} {ds : List TPattern} {s : ByteArray} (hds : ∀ q ∈ ds, q.vld vars = true) : ∀ (d d' f f' : Nat) (p : TPattern) (a : Nat), p.vld vars = true → ∀ l st g l' st' g', endsE ds s d f p a = some (l, st, g) → endsE ds s d' f' p a = some (l', st', g') → l = l' ∧ st = st'
 | 0, d', f, f', p, a, _, l, st, g, l', st', g', h, _ => by simp [endsE] at h
 | d + 1, 0, f, f', p, a, _, l, st, g, l', st', g', _, h => by simp [endsE] at h
 | d + 1, d' + 1, 0, f', p, a, _, l, st, g, l', st', g', h, _ => by simp [endsE] at h
 | d + 1, d' + 1, f + 1, 0, p, a, _, l, st, g, l', st', g', _, h => by simp [endsE] at h
 | d + 1, d' + 1, f + 1, f' + 1, .mk op t n lo hi ks, a, hv, l, st, g, l', st', g', h, h' => by
  have IH := endsE_agree (s := s) hds d d'
  have both : ∀ {l1 : List TEnding} {st1 : Bool} {g1 g2 : Nat}, some (l1, st1, g1) = some (l, st, g) → some (l1, st1, g2) = some (l', st', g') → l = l' ∧ st = st' := fun h1 h2 => by
   obtain ⟨rfl, rfl⟩ := one_in h1
   obtain ⟨rfl, rfl⟩ := one_in h2
   exact ⟨rfl, rfl⟩
  unfold endsE at h h'
  by_cases h11 : op = 11
  ·
   rw [if_pos h11] at h h'
   split at h
   ·
    split at h'
    ·
     exact both h h'
    ·
     simp at h'
   ·
    simp at h
  rw [if_neg h11] at h h'
  by_cases h13 : op = 13
  ·
   rw [if_pos h13] at h h'
   obtain ⟨p, rfl, hp⟩ := TPattern.kids1 hv (by subst h13; rfl)
   simp only at h h'
   cases he : endsE ds s d f p a with
   | none => rw [he] at h; simp at h
   | some y =>
    cases he' : endsE ds s d' f' p a with
    | none => rw [he'] at h'; simp at h'
    | some y' =>
     obtain ⟨first, stop, k⟩ := y
     obtain ⟨first', stop', k'⟩ := y'
     obtain ⟨rfl, rfl⟩ := IH _ _ _ _ hp _ _ _ _ _ _ he he'
     rw [he] at h
     rw [he'] at h'
     simp only at h h'
     obtain ⟨halt, ht, rfl⟩ := orE_some h
     obtain ⟨halt', ht', rfl⟩ := orE_some h'
     obtain ⟨m, rfl, rfl, rfl⟩ := thenE_agree (fun f f' x r st g r' st' g' q q' => IH f f' _ x hv _ _ _ _ _ _ q q') first _ _ _ _ (fun _ _ => Iff.rfl) _ _ _ _ _ _ ht ht'
     exact ⟨rfl, rfl⟩
  rw [if_neg h13] at h h'
  by_cases h14 : op = 14
  ·
   rw [if_pos h14] at h h'
   obtain ⟨p, q, rfl, hp, hq⟩ := TPattern.kids2 hv (by subst h14; rfl)
   simp only at h h'
   cases he : endsE ds s d f p a with
   | none => rw [he] at h; simp at h
   | some y =>
    cases he' : endsE ds s d' f' p a with
    | none => rw [he'] at h'; simp at h'
    | some y' =>
     obtain ⟨first, stop, k⟩ := y
     obtain ⟨first', stop', k'⟩ := y'
     obtain ⟨rfl, rfl⟩ := IH _ _ _ _ hp _ _ _ _ _ _ he he'
     rw [he] at h
     rw [he'] at h'
     simp only at h h'
     obtain ⟨halt, ht, rfl⟩ := orE_some h
     obtain ⟨halt', ht', rfl⟩ := orE_some h'
     obtain ⟨m, rfl, rfl, rfl⟩ := thenE_agree (fun f f' x r st g r' st' g' z z' => IH f f' _ x hq _ _ _ _ _ _ z z') first _ _ _ _ (fun _ _ => Iff.rfl) _ _ _ _ _ _ ht ht'
     exact ⟨rfl, rfl⟩
  rw [if_neg h14] at h h'
  by_cases h15 : op = 15
  ·
   rw [if_pos h15] at h h'
   obtain ⟨p, q, rfl, hp, hq⟩ := TPattern.kids2 hv (by subst h15; rfl)
   simp only at h h'
   cases he : endsE ds s d f p a with
   | none => rw [he] at h; simp at h
   | some y =>
    cases he' : endsE ds s d' f' p a with
    | none => rw [he'] at h'; simp at h'
    | some y' =>
     obtain ⟨first, stop, k⟩ := y
     obtain ⟨first', stop', k'⟩ := y'
     obtain ⟨rfl, rfl⟩ := IH _ _ _ _ hp _ _ _ _ _ _ he he'
     rw [he] at h
     rw [he'] at h'
     cases stop with
     | true => exact both h h'
     | false =>
      simp only at h h'
      cases hf : endsE ds s d k q a with
      | none => rw [hf] at h; simp at h
      | some y =>
       cases hf' : endsE ds s d' k' q a with
       | none => rw [hf'] at h'; simp at h'
       | some y' =>
        obtain ⟨second, halt, k2⟩ := y
        obtain ⟨second', halt', k2'⟩ := y'
        obtain ⟨rfl, rfl⟩ := IH _ _ _ _ hq _ _ _ _ _ _ hf hf'
        rw [hf] at h
        rw [hf'] at h'
        exact both h h'
  rw [if_neg h15] at h h'
  by_cases h16 : op = 16
  ·
   rw [if_pos h16] at h h'
   obtain ⟨p, rfl, hp⟩ := TPattern.kids1 hv (by subst h16; rfl)
   simp only at h h'
   cases he : endsE ds s d f p a with
   | none => rw [he] at h; simp at h
   | some y =>
    cases he' : endsE ds s d' f' p a with
    | none => rw [he'] at h'; simp at h'
    | some y' =>
     obtain ⟨first, stop, k⟩ := y
     obtain ⟨first', stop', k'⟩ := y'
     obtain ⟨rfl, rfl⟩ := IH _ _ _ _ hp _ _ _ _ _ _ he he'
     rw [he] at h
     rw [he'] at h'
     exact both h h'
  rw [if_neg h16] at h h'
  by_cases h17 : op = 17
  ·
   rw [if_pos h17] at h h'
   obtain ⟨p, rfl, hp⟩ := TPattern.kids1 hv (by subst h17; rfl)
   exact IH _ _ _ _ hp _ _ _ _ _ _ h h'
  rw [if_neg h17] at h h'
  by_cases h18 : op = 18
  ·
   rw [if_pos h18] at h h'
   exact both h h'
  rw [if_neg h18] at h h'
  by_cases h19 : op = 19
  ·
   rw [if_pos h19] at h h'
   exact both h h'
  rw [if_neg h19] at h h'
  by_cases h20 : op = 20
  ·
   rw [if_pos h20] at h h'
   cases hd : ds[n.toNat]? with
   | none => rw [hd] at h; simp at h
   | some q =>
    rw [hd] at h h'
    exact IH _ _ _ _ (hds q (List.mem_of_getElem? hd)) _ _ _ _ _ _ h h'
  rw [if_neg h20] at h h'
  by_cases h21 : op = 21
  ·
   rw [if_pos h21] at h h'
   exact both h h'
  rw [if_neg h21] at h h'
  cases ho : oneE op n lo hi t s a with
  | some e => rw [ho] at h h'; exact both h h'
  | none => rw [ho] at h h'; exact both h h'
theorem endsE_least {vars : Int} {ds : List TPattern} {s : ByteArray} (hds : ∀ q ∈ ds, q.vld vars = true) : ∀ (d f : Nat) (p : TPattern) (a : Nat), p.vld vars = true → a ≤ s.size → ∀ l st g, endsE ds s d f p a = some (l, st, g) → ∀ x ∈ l, (a : Int) + p.least ≤ x.pos
 | 0, f, p, a, _, _, l, st, g, h => by simp [endsE] at h
 | d + 1, 0, p, a, _, _, l, st, g, h => by simp [endsE] at h
 | d + 1, f + 1, .mk op t n lo hi ks, a, hv, ha, l, st, g, h => by
  have IH := endsE_least (s := s) hds d
  have hnode := vld_node hv
  have OK := endsE_ok hds (d + 1) (f + 1) (.mk op t n lo hi ks) a hv ha l st g h
  have base : (TPattern.mk op t n lo hi ks).least ≤ 0 → ∀ x ∈ l, (a : Int) + (TPattern.mk op t n lo hi ks).least ≤ x.pos := fun h0 x hx => by
   obtain ⟨k, h1, h2, _⟩ := OK.2.2 x hx
   omega
  unfold endsE at h
  by_cases h14 : op = 14
  ·
   rw [if_neg (by omega), if_neg (by omega), if_pos h14] at h
   obtain ⟨p, q, rfl, hp, hq⟩ := TPattern.kids2 hv (by subst h14; rfl)
   simp only at h
   cases he : endsE ds s d f p a with
   | none => rw [he] at h; simp at h
   | some y =>
    obtain ⟨first, stop, g1⟩ := y
    rw [he] at h
    simp only at h
    obtain ⟨halt, ht, -⟩ := orE_some h
    intro x hx
    rcases thenE_mem first g1 [] l halt g ht x hx with q' | ⟨y, hy, f', rest, stop', g', he2, z, hz, rfl⟩
    ·
     simp at q'
    ·
     have e1 := IH f p a hp ha first stop g1 he y hy
     obtain ⟨k, k1, k2, k3, _⟩ := (endsE_ok hds d f p a hp ha first stop g1 he).2.2 y hy
     rw [show y.pos.toNat = k by omega] at he2
     have e2 := IH f' q k hq k3 rest stop' g' he2 z hz
     have hl : (TPattern.mk op t n lo hi [p, q]).least ≤ p.least + q.least := by
      subst h14
      simp [TPattern.least, TPattern.leasts]
      omega
     show (a : Int) + _ ≤ z.pos
     omega
  by_cases h15 : op = 15
  ·
   rw [if_neg (by omega), if_neg (by omega), if_neg h14, if_pos h15] at h
   obtain ⟨p, q, rfl, hp, hq⟩ := TPattern.kids2 hv (by subst h15; rfl)
   simp only at h
   have hl : (TPattern.mk op t n lo hi [p, q]).least ≤ min p.least q.least := by
    subst h15
    simp [TPattern.least, TPattern.leasts]
    omega
   cases he : endsE ds s d f p a with
   | none => rw [he] at h; simp at h
   | some y =>
    obtain ⟨first, stop, g1⟩ := y
    rw [he] at h
    have e1 := IH f p a hp ha first stop g1 he
    cases stop with
    | true =>
     simp only at h
     obtain ⟨rfl, -⟩ := one_in h
     intro x hx
     have := e1 x hx
     omega
    | false =>
     simp only at h
     cases hf : endsE ds s d g1 q a with
     | none => rw [hf] at h; simp at h
     | some y =>
      obtain ⟨second, halt, g2⟩ := y
      rw [hf] at h
      simp only at h
      obtain ⟨rfl, -⟩ := one_in h
      have e2 := IH g1 q a hq ha second halt g2 hf
      intro x hx
      rcases List.mem_append.1 hx with hx | hx
      ·
       have := e1 x hx; omega
      ·
       have := e2 x hx; omega
  by_cases h16 : op = 16
  ·
   rw [if_neg (by omega), if_neg (by omega), if_neg h14, if_neg h15, if_pos h16] at h
   obtain ⟨p, rfl, hp⟩ := TPattern.kids1 hv (by subst h16; rfl)
   have hl : (TPattern.mk op t n lo hi [p]).least ≤ p.least := by
    subst h16
    simp [TPattern.least, TPattern.leasts]
    omega
   simp only at h
   cases he : endsE ds s d f p a with
   | none => rw [he] at h; simp at h
   | some y =>
    obtain ⟨first, stop, g1⟩ := y
    rw [he] at h
    simp only at h
    have e1 := IH f p a hp ha first stop g1 he
    obtain ⟨rfl, -⟩ := one_in h
    intro x hx
    obtain ⟨y, hy, rfl⟩ := List.mem_map.1 hx
    have := e1 y hy
    show (a : Int) + _ ≤ y.pos
    omega
  by_cases h17 : op = 17
  ·
   rw [if_neg (by omega), if_neg (by omega), if_neg h14, if_neg h15, if_neg h16, if_pos h17] at h
   obtain ⟨p, rfl, hp⟩ := TPattern.kids1 hv (by subst h17; rfl)
   have hl : (TPattern.mk op t n lo hi [p]).least ≤ p.least := by
    subst h17
    simp [TPattern.least, TPattern.leasts]
    omega
   intro x hx
   have := IH f p a hp ha l st g h x hx
   omega
  by_cases hone : op = 1 ∨ op = 2 ∨ op = 7 ∨ op = 8 ∨ op = 9 ∨ op = 23
  ·
   rw [if_neg (by omega), if_neg (by omega), if_neg h14, if_neg h15, if_neg h16, if_neg h17, if_neg (by omega), if_neg (by omega), if_neg (by omega), if_neg (by omega)] at h
   cases ho : oneE op n lo hi t s a with
   | none =>
    rw [ho] at h
    simp only at h
    obtain ⟨rfl, -⟩ := one_in h
    intro x hx
    cases hx
   | some e =>
    rw [ho] at h
    simp only at h
    obtain ⟨rfl, -⟩ := one_in h
    intro x hx
    rw [List.mem_singleton.1 hx]
    show (a : Int) + _ ≤ (e : Int)
    unfold oneE at ho
    rcases hone with rfl | rfl | rfl | rfl | rfl | rfl
    ·
     rw [if_pos rfl] at ho
     obtain ⟨c, rfl⟩ := ite_some ho
     simp [TPattern.least]
     omega
    ·
     rw [if_neg (by decide), if_pos rfl] at ho
     obtain ⟨c, rfl⟩ := ite_some ho
     have := nodeN_num hnode.2 (by omega)
     simp [TPattern.least]
     omega
    ·
     simp only [show ((7 : Int) = 1) = False by simp, show ((7 : Int) = 2) = False by simp, show ((7 : Int) = 3) = False by simp, show ((7 : Int) = 4) = False by simp, show ((7 : Int) = 5) = False by simp, show ((7 : Int) = 6) = False by simp, if_false, true_or, if_true] at ho
     obtain ⟨c, rfl⟩ := ite_some ho
     simp [TPattern.least]
     omega
    ·
     simp only [show ((8 : Int) = 1) = False by simp, show ((8 : Int) = 2) = False by simp, show ((8 : Int) = 3) = False by simp, show ((8 : Int) = 4) = False by simp, show ((8 : Int) = 5) = False by simp, show ((8 : Int) = 6) = False by simp, if_false, or_true, if_true] at ho
     obtain ⟨c, rfl⟩ := ite_some ho
     simp [TPattern.least]
     omega
    ·
     rw [if_neg (by decide), if_neg (by decide), if_neg (by decide), if_neg (by decide), if_neg (by decide), if_neg (by decide), if_neg (by decide), if_pos rfl] at ho
     obtain ⟨c, rfl⟩ := ite_some ho
     simp [TPattern.least]
     omega
    ·
     rw [if_neg (by decide), if_neg (by decide), if_neg (by decide), if_neg (by decide), if_neg (by decide), if_neg (by decide), if_neg (by decide), if_neg (by decide), if_neg (by decide), if_neg (by decide), if_neg (by decide)] at ho
     cases ho
  ·
   refine base ?_
   simp only [TPattern.least]
   rw [if_neg (by omega), if_neg (by omega), if_neg (by omega), if_neg h14, if_neg h15, if_neg (by omega), if_neg (by omega)]
   omega
theorem bitI_or (x y : Int) (b : Nat) : bitI (bits .or .i64 x y) b = (bitI x b || bitI y b) := by
 show bitI (IntKind.i64.wrap ((BitVec.ofInt 64 x ||| BitVec.ofInt 64 y).toNat : Int)) b = _
 have e : BitVec.ofInt 64 (IntKind.i64.wrap ((BitVec.ofInt 64 x ||| BitVec.ofInt 64 y).toNat : Int)) = (BitVec.ofInt 64 x ||| BitVec.ofInt 64 y) := by
  apply BitVec.eq_of_toNat_eq
  have := (BitVec.ofInt 64 x ||| BitVec.ofInt 64 y).isLt
  rw [BitVec.toNat_ofInt, IntKind.wrap_i64]
  generalize (BitVec.ofInt 64 x ||| BitVec.ofInt 64 y).toNat = n at *
  omega
 unfold bitI
 rw [e, BitVec.getLsbD_or]
theorem hasBit_or (a0 a1 b0 b1 : Int) (b : Nat) : hasBit (bits .or .i64 a0 b0) (bits .or .i64 a1 b1) b = (hasBit a0 a1 b || hasBit b0 b1 b) := by
 unfold hasBit
 rw [bitI_or, bitI_or]
 split
 ·
  rfl
 ·
  split <;> rfl
end Go.Proofs.Ytdjbfneniohaaaa
