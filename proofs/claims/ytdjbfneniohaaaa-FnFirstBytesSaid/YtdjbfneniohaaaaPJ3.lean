/- What follows each of some endings: the reference. -/
import Derived.Test.YtdjbfneniohaaaaPJ1
import Derived.Test.YtdjbfneniohaaaaPJo
import Derived.Test.YtdjbfneniohaaaaPHCapture
import Derived.Deep.RegionHeld3
import Derived.Deep.Cut
import Derived.OwnWalk
namespace Go.Proofs.Ytdjbfneniohaaaa
set_option linter.unusedVariables false
set_option linter.unusedSimpArgs false
set_option maxRecDepth 100000
open Go.RowKit
theorem infoEnd : (Try.prog.info? 36).map (fun i => (i.zero, i.size, i.bytes)) = some (some (.agg #[.int .i64 0, .slice none 0 0]), 2, 32) := by kernel_rfl
theorem infoCap : (Try.prog.info? 40).map (fun i => (i.zero, i.size, i.bytes)) = some (some (.agg #[.int .i64 0, .int .i64 0, .int .i64 0]), 3, 24) := by kernel_rfl
def StE (w : World) (M : Nat) (A : Option Addr) (n c : Nat) (s : ByteArray) (f : Int) : Prop :=
 M < w.heap.size ∧ (∀ o, w.frozen? ⟨M, o, none⟩ = false) ∧ w.cell? ⟨M, 0, none⟩ = some (.slice A n c) ∧ w.cell? ⟨M, 1, none⟩ = some (.string s) ∧ w.cell? ⟨M, 2, none⟩ = some (.int .i64 f)
theorem StE.same {w w' : World} {M : Nat} {A : Option Addr} {n c : Nat} {s : ByteArray} {f : Int} (h : StE w M A n c s f) (hs : w.heap.size ≤ w'.heap.size) (hb : SameB w w' M) : StE w' M A n c s f :=
 ⟨Nat.lt_of_lt_of_le h.1 hs, fun o => (hb.2 o).trans (h.2.1 o), (hb.1 0).trans h.2.2.1, (hb.1 1).trans h.2.2.2.1, (hb.1 2).trans h.2.2.2.2⟩
theorem StE.bel {w w' : World} {M : Nat} {A : Option Addr} {n c : Nat} {s : ByteArray} {f : Int} (h : StE w M A n c s f) (hb : Bel w w') : StE w' M A n c s f := h.same hb.size (hb.same h.1)
theorem StE.offS {S : Nat → Prop} {w w' : World} {M : Nat} {A : Option Addr} {n c : Nat} {s : ByteArray} {f : Int} (h : StE w M A n c s f) (hb : OffS S w w') (hS : S M) : StE w' M A n c s f := h.same hb.size (hb.same M hS h.1)
theorem StE.put {w : World} {M : Nat} {A : Option Addr} {n c : Nat} {s : ByteArray} {f : Int} (h : StE w M A n c s f) (g : Int) : StE (w.setCell ⟨M, 2, none⟩ (.int .i64 g)) M A n c s g := by
 obtain ⟨h0, h1, h2, h3, h4⟩ := h
 exact ⟨by simpa using h0, fun o => by simp [h1], by simp [h2, go_sem], by simp [h3, go_sem], by simp [h4, go_sem]⟩
def OutE (f : Int) (r : ResE) (es : List TEnding) (st : Bool) (f' : Int) : Prop :=
 (∃ l t g, r = some (l, t, g) ∧ es = l ∧ st = t ∧ f' = (g : Nat)) ∨ (r = none ∧ f' < 0 ∧ (es.length : Int) ≤ max f 0 + 130 ∧ (if 0 ≤ f then -5000 * (f + 1) else f - 1) ≤ f' ∧ (f ≤ 0 → es = []))
def EndsPost (w : World) (M : Nat) (A : Option Addr) (n c : Nat) (s : ByteArray) (f : Int) (r : ResE) (e : Ending) (w' : World) : Prop :=
 ∃ v L es st f', e = .returned (.tuple #[v, .bool st]) ∧ StE w' M A n c s f' ∧ OffS (fun b => b ≠ M) w w' ∧ OwnD w' 36 2 v L (es.map TEnding.D) ∧ (∀ b, Blk v L b → w.heap.size ≤ b) ∧ (∀ x ∈ es, (x.cs.length : Int) ≤ 6000 + max f 0) ∧ OutE f r es st f'
def resE (ds : List TPattern) (s : ByteArray) (d : Nat) (f : Int) (q : TPattern) (a : Int) : ResE := if 0 ≤ f then endsE ds s d f.toNat q a.toNat else none
abbrev SpecC (w0 : World) (ds : List TPattern) (s : ByteArray) (M : Nat) (A : Option Addr) (c : Nat) (d : Nat) (q : TPattern) : Prop := ∀ (w : World) (vs : List Value) (S : Nat → Prop) (f a : Int), Dat.HoldVals w0 S q.D vs → Bel w0 w → w0.heap.size ≤ M → StE w M A ds.length c s f → f ≤ d → -1000000000 ≤ f → (0 < f → 0 ≤ a ∧ a ≤ s.size) → InI a →
 Calls Try.prog 32 #[.pointer (some ⟨M, 0, none⟩), .agg vs.toArray, .int .i64 a] w (EndsPost w M A ds.length c s f (resE ds s d f q a))
theorem thenE_skip {ev : Nat → Nat → ResE} {above : Int} {fs : List TEnding} {i : Nat} {f : Nat} {out : List TEnding} (h : i < fs.length) (hx : fs[i].pos ≤ above) : thenE ev above (fs.drop i) f out = thenE ev above (fs.drop (i + 1)) f out := by
 rw [List.drop_eq_getElem_cons h, thenE, if_pos hx]
theorem thenE_none {ev : Nat → Nat → ResE} {above : Int} {fs : List TEnding} {i : Nat} {f : Nat} {out : List TEnding} (h : i < fs.length) (hx : ¬ fs[i].pos ≤ above) (he : ev f fs[i].pos.toNat = none) : thenE ev above (fs.drop i) f out = none := by
 rw [List.drop_eq_getElem_cons h, thenE, if_neg hx, he]
theorem thenE_some {ev : Nat → Nat → ResE} {above : Int} {fs : List TEnding} {i : Nat} {f : Nat} {out l : List TEnding} {st : Bool} {g : Nat} (h : i < fs.length) (hx : ¬ fs[i].pos ≤ above) (he : ev f fs[i].pos.toNat = some (l, st, g)) :
  thenE ev above (fs.drop i) f out = if l.length ≤ g then (if st then some (out ++ l.map (joinE fs[i]), true, g - l.length) else thenE ev above (fs.drop (i + 1)) (g - l.length) (out ++ l.map (joinE fs[i]))) else none := by
 rw [List.drop_eq_getElem_cons h, thenE, if_neg hx, he]
theorem thenE_end {ev : Nat → Nat → ResE} {above : Int} {fs : List TEnding} {i : Nat} {f : Nat} {out : List TEnding} (h : fs.length ≤ i) : thenE ev above (fs.drop i) f out = some (out, false, f) := by
 rw [List.drop_eq_nil_of_le h, thenE]
def LiveE (ev : Nat → Nat → ResE) (above : Int) (fs : List TEnding) (d N0 : Nat) (Lo f0 : Int) (R : ResE) (i : Nat) (os : List TEnding) (c : Int) : Prop :=
 (∃ g : Nat, c = g ∧ 0 ≤ f0 ∧ g ≤ d ∧ os.length + g ≤ N0 ∧ R = thenE ev above (fs.drop i) g os) ∨ (c < 0 ∧ R = none ∧ Lo - i ≤ c ∧ os.length ≤ N0 + 1)
def OutT (N0 : Nat) (Lo : Int) (r : ResE) (es : List TEnding) (st : Bool) (f' : Int) : Prop :=
 (∃ l t g, r = some (l, t, g) ∧ es = l ∧ st = t ∧ f' = (g : Nat)) ∨ (r = none ∧ f' < 0 ∧ es.length ≤ N0 + 1 ∧ Lo ≤ f')
def ThenPost (w : World) (M : Nat) (A : Option Addr) (n c : Nat) (s : ByteArray) (v0 : Value) (L0 : List Nat) (N0 : Nat) (Lo : Int) (r : ResE) (e : Ending) (w' : World) : Prop :=
 ∃ v L es st f', e = .returned (.tuple #[v, .bool st]) ∧ StE w' M A n c s f' ∧ OffS (fun b => b ≠ M ∧ v0.ownBlock ≠ some b) w w' ∧ OwnD w' 36 2 v L (es.map TEnding.D) ∧ (∀ b, Blk v L b → Blk v0 L0 b ∨ w.heap.size ≤ b) ∧ (∀ x ∈ es, x.cs.length ≤ 6000) ∧ OutT N0 Lo r es st f'
theorem wp_namedJ {P : Program} {c : Code} {Q : Exit → Act → World → Prop} {a : Act} {W : World} (h : ∀ wq, W = wq → Code.wp P c Q a wq) : Code.wp P c Q a W := h W rfl
theorem LiveE.next {ev : Nat → Nat → ResE} {above : Int} {fs : List TEnding} {D N0 : Nat} {Lo f : Int} {R : ResE} {i : Nat} {os : List TEnding} {cc : Int} (HL : LiveE ev above fs D N0 Lo f R i os cc) (h1 : i < fs.length) (h2 : ¬ fs[i].pos ≤ above)
  {es : List TEnding} {st : Bool} {f2 : Int} (ho : OutE cc (if 0 ≤ cc then ev cc.toNat fs[i].pos.toNat else none) es st f2) (hev : 0 ≤ f → ∀ f' l t g2, f' ≤ D → ev f' fs[i].pos.toNat = some (l, t, g2) → g2 < f' ∧ l.length + g2 ≤ f') (hlo2 : Lo ≤ -5000 * (D + 1 : Int))
  {j : Nat} (hj : j ≤ es.length) (hjf : j = 0 ∨ (j : Int) ≤ f2 + 1) (hx : ¬ (j < es.length ∧ 0 ≤ f2 - j)) :
  (st = true ∧ OutT N0 (Lo - fs.length) R (os ++ (es.take j).map (joinE fs[i])) true (f2 - j)) ∨ (st = false ∧ LiveE ev above fs D N0 Lo f R (i + 1) (os ++ (es.take j).map (joinE fs[i])) (f2 - j)) := by
 have hlen : (os ++ (es.take j).map (joinE fs[i])).length = os.length + j := by simp; omega
 obtain ⟨os4, h4⟩ : ∃ l, os ++ (es.take j).map (joinE fs[i]) = l := ⟨_, rfl⟩
 rw [h4] at hlen ⊢
 have dead : R = none → f2 - j < 0 → os4.length ≤ N0 + 1 → Lo - (i + 1 : Nat) ≤ f2 - j → (st = true ∧ OutT N0 (Lo - fs.length) R os4 true (f2 - j)) ∨ (st = false ∧ LiveE ev above fs D N0 Lo f R (i + 1) os4 (f2 - j)) := by
  intro a1 a2 a3 a4
  cases st with
  | true => exact Or.inl ⟨rfl, Or.inr ⟨a1, a2, a3, by omega⟩⟩
  | false => exact Or.inr ⟨rfl, Or.inr ⟨a2, a1, by omega, a3⟩⟩
 rcases HL with ⟨g, e1, e0, e2, e3, e4⟩ | ⟨e1, e2, e3, e4⟩
 ·
  rw [if_pos (by omega), show cc.toNat = g by omega] at ho
  rcases ho with ⟨l, t, g2, r1, r2, r3, r4⟩ | ⟨r1, r2, r3, r4, -⟩
  ·
   subst r2 r3
   have hb := hev e0 g es st g2 e2 r1
   rw [thenE_some h1 h2 r1] at e4
   by_cases hle : es.length ≤ g2
   ·
    obtain rfl : j = es.length := by omega
    rw [List.take_length] at h4
    rw [if_pos hle, h4] at e4
    cases st with
    | true => exact Or.inl ⟨rfl, Or.inl ⟨os4, true, g2 - es.length, by rw [e4]; rfl, rfl, rfl, by omega⟩⟩
    | false => exact Or.inr ⟨rfl, Or.inl ⟨g2 - es.length, by omega, e0, by omega, by omega, by rw [e4]; rfl⟩⟩
   ·
    rw [if_neg hle] at e4
    exact dead e4 (by omega) (by omega) (by omega)
  ·
   rw [if_pos (by omega)] at r4
   rw [thenE_none h1 h2 r1] at e4
   exact dead e4 (by omega) (by omega) (by omega)
 ·
  rw [if_neg (by omega)] at ho
  rcases ho with ⟨l, t, g2, r1, r2, r3, r4⟩ | ⟨r1, r2, r3, r4, -⟩
  ·
   cases r1
  ·
   rw [if_neg (by omega)] at r4
   exact dead e2 (by omega) (by omega) (by omega)
theorem OwnD.two {w : World} {E : TypeId} {k : Nat} {v : Value} {L : List Nat} {ds : List (List Dat)} (h : OwnD w E k v L ds) : ∃ A c, v = .slice A ds.length c ∧ OwnD w E k (.slice A ds.length c) L ds ∧ Row w (fun b => Blk (.slice A ds.length c) L b) k A c ds := by
 obtain ⟨A, c, h1, h2⟩ := h.row (S := fun b => Blk v L b) (fun b hb => hb)
 subst h1
 exact ⟨A, c, rfl, h, h2⟩
theorem joinE_D {x y : TEnding} {a b : Int} {cs es : List TCapture} (hx : x = .mk a cs) (hy : y = .mk b es) : (joinE x y).D = [.int b, .row 3 ((cs ++ es).map TCapture.D)] := by
 subst hx hy
 simp only [joinE, TEnding.pos, TEnding.cs]
 rw [TEnding.D_mk]
set_option maxHeartbeats 8000000 in
theorem l19Then_any (w0 : World) (ds : List TPattern) (s : ByteArray) (M : Nat) (A : Option Addr) (c d : Nat) (q : TPattern) (IH : SpecC w0 ds s M A c d q) (hs : s.size ≤ 120) (hd : d ≤ 3000) (hqv : ∀ f' a', f' ≤ d → 0 ≤ a' ∧ a' ≤ (s.size : Int) → ∀ l t g2, endsE ds s d f' q a'.toNat = some (l, t, g2) → g2 < f' ∧ l.length + g2 ≤ f' ∧ ∀ y ∈ l, y.cs.length ≤ 3000)
  (w : World) (vs : List Value) (Sq S1 : Nat → Prop) (f above : Int) (fs os : List TEnding) (A1 : Option Addr) (c1 D : Nat) (v0 : Value) (L0 : List Nat) (N0 : Nat) (Lo : Int)
  (hv : Dat.HoldVals w0 Sq q.D vs) (hb0 : Bel w0 w) (hM : w0.heap.size ≤ M) (hst : StE w M A ds.length c s f) (hD : D ≤ d) (hf : f ≤ D) (hlo : Lo ≤ f) (hlo2 : Lo ≤ -5000 * (D + 1 : Int)) (hlo3 : -900000000 ≤ Lo) (hfs : fs.length ≤ 4000) (hos : os.length ≤ 4000)
  (hR1 : Row w S1 2 A1 c1 (fs.map TEnding.D)) (hS1 : ∀ b, S1 b → b ≠ M ∧ b < w.heap.size) (hgood : 0 ≤ f → ∀ x ∈ fs, 0 ≤ x.pos ∧ x.pos ≤ s.size ∧ x.cs.length ≤ 3000) (hO : OwnD w 36 2 v0 L0 (os.map TEnding.D)) (hOM : ∀ b, Blk v0 L0 b → b ≠ M ∧ ¬ S1 b) (hOb : ∀ b, Blk v0 L0 b → w0.heap.size ≤ b) (hN0 : os.length + f.toNat ≤ N0) (hN1 : N0 ≤ 4000) (hoc : ∀ x ∈ os, x.cs.length ≤ 6000) :
  Calls Try.prog 54 #[.pointer (some ⟨M, 0, none⟩), .slice A1 fs.length c1, .agg vs.toArray, .int .i64 above, v0] w
   (ThenPost w M A ds.length c s v0 L0 N0 (Lo - fs.length) (if 0 ≤ f then thenE (fun f' a' => endsE ds s d f' q a') above fs f.toNat os else none)) := by
 obtain ⟨op, t, n, lo, hi, ks⟩ := q
 obtain ⟨Aq, cq, rfl, -⟩ := TPattern.vals hv
 have HV := hide hv
 have HR1 := hide hR1
 have HS1 := hide hS1
 have HG := hide hgood
 have HOM := hide hOM
 have HOB := hide hOb
 have HB0 := hide hb0
 have HOC := hide hoc
 clear hoc
 have HIH := hide IH
 clear IH
 obtain ⟨R, hRR⟩ : ∃ R, (if 0 ≤ f then thenE (fun f' a' => endsE ds s d f' (.mk op t n lo hi ks) a') above fs f.toNat os else none) = R := ⟨_, rfl⟩
 have HLV := hide (show LiveE (fun f' a' => endsE ds s d f' (.mk op t n lo hi ks) a') above fs D N0 Lo f R 0 os f by
  rcases Int.lt_or_le f 0 with h | h
  ·
   exact Or.inr ⟨h, by rw [← hRR, if_neg (by omega)], by omega, by omega⟩
  ·
   exact Or.inl ⟨f.toNat, by omega, h, by omega, hN0, by rw [← hRR, if_pos h, List.drop_zero]⟩)
 rw [hRR]
 clear hRR
 have HO := hide hO
 have HST := hide hst
 have hMl := hst.1
 have hl1 := hR1.1
 have hc1 := hR1.2.1
 simp only [List.length_map] at hl1
 unfold maxLen at hc1
 obtain ⟨ie, hie, ze0, ze1, ze2⟩ := info_parts infoEnd
 obtain ⟨ic, hic, zc0, zc1, zc2⟩ := info_parts infoCap
 have HOL0 := hide (fun b (h : Blk v0 L0 b) => OwnD.lt HO.out b h)
 have HQV := hide hqv
 clear hqv hv hR1 hS1 hgood hO hOM hOb hb0 hst hN0
 go_enter Try.func54, Try.ntmps54
 go_wp2_with (fail)
 go_loopw [4, 12] (fun ov iv wr => ∃ (i : Nat) (L : List Nat) (os' : List TEnding) (cc : Int), iv = .int .i64 i ∧ i ≤ fs.length ∧ Hid (OwnD wr 36 2 ov L (os'.map TEnding.D)) ∧ Hid (∀ x ∈ os', x.cs.length ≤ 6000) ∧ Hid (∀ b, Blk ov L b → Blk v0 L0 b ∨ (w.alloc (.cells #[.int .i64 op, .string t, .int .i64 n, .int .i64 lo, .int .i64 hi, .slice Aq ks.length cq] 28)).heap.size ≤ b) ∧ Hid (∀ b, ov.ownBlock = some b → v0.ownBlock = some b ∨ (w.alloc (.cells #[.int .i64 op, .string t, .int .i64 n, .int .i64 lo, .int .i64 hi, .slice Aq ks.length cq] 28)).heap.size ≤ b) ∧ Hid (StE wr M A ds.length c s cc) ∧ Hid (OffS (fun b => b ≠ M ∧ v0.ownBlock ≠ some b) (w.alloc (.cells #[.int .i64 op, .string t, .int .i64 n, .int .i64 lo, .int .i64 hi, .slice Aq ks.length cq] 28)) wr) ∧ Hid (LiveE (fun f' a' => endsE ds s d f' (.mk op t n lo hi ks) a') above fs D N0 Lo f R i os' cc)) (fun _ iv _ => fs.length - (intOf iv).toNat)
 case atStart => exact ⟨0, L0, os, f, rfl, by omega, hide (OwnD.bel HO.out bl), hide HOC.out, hide (fun b h => Or.inl h), hide (fun b h => Or.inl h), hide (StE.bel HST.out bl), hide (OffS.refl _ _), hide HLV.out⟩
 case round => as_aux_lemma =>
  obtain ⟨i, Lo1, os1, cc, rfl, hil, HO1, HC1, HBk, HBo, HS, HF, HL⟩ := hrel
  clear HO HST HLV
  obtain ⟨Ao, co, hov, hOD, hRo⟩ := HO1.out.two
  subst hov
  clear HO1
  have HO1 := hide hOD
  clear hOD hRo
  have hzr := HF.out.size
  simp only [World.size_alloc] at hzr
  obtain ⟨gM, gf, g0, g1, g2⟩ := HS.out
  have hMne : ¬ w.heap.size = M := by omega
  have hv0n : v0.ownBlock ≠ some w.heap.size := fun h => by have := (show w.heap.size < w.heap.size from HOL0.out _ (Or.inl h)); omega
  have hbx := HF.out.same w.heap.size ⟨hMne, hv0n⟩ (by simp)
  have q0 : wr.cell? ⟨w.heap.size, 0, none⟩ = some (.int .i64 op) := (hbx.1 0).trans (by simp)
  have q1 : wr.cell? ⟨w.heap.size, 1, none⟩ = some (.string t) := (hbx.1 1).trans (by simp)
  have q2 : wr.cell? ⟨w.heap.size, 2, none⟩ = some (.int .i64 n) := (hbx.1 2).trans (by simp)
  have q3 : wr.cell? ⟨w.heap.size, 3, none⟩ = some (.int .i64 lo) := (hbx.1 3).trans (by simp)
  have q4 : wr.cell? ⟨w.heap.size, 4, none⟩ = some (.int .i64 hi) := (hbx.1 4).trans (by simp)
  have q5 : wr.cell? ⟨w.heap.size, 5, none⟩ = some (.slice Aq ks.length cq) := (hbx.1 5).trans (by simp)
  have hl0 : w.heap.size < wr.heap.size := by omega
  have hn0 : ¬ w.heap.size = wr.heap.size := by omega
  have hMl2 : M < wr.heap.size := gM
  have hMn2 : ¬ M = wr.heap.size := by omega
  have HRr := hide (Row.offS HF.out (S := S1) (fun b hb => ⟨(HS1.out b hb).1, fun h => (HOM.out b (Or.inl h)).2 hb⟩) (Row.bel (show Bel w (w.alloc (.cells #[.int .i64 op, .string t, .int .i64 n, .int .i64 lo, .int .i64 hi, .slice Aq ks.length cq] 28)) from bl) HR1.out))
  by_cases h1 : i < fs.length
  case neg => as_aux_lemma =>
   have hd : decide ((i : Int) < (fs.length : Int)) = false := by simp; omega
   have hdn : decide (i < fs.length) = false := by simp; omega
   have hlen : (os1.map TEnding.D).length = os1.length := by simp
   go_wp2_with (fail)
   all_goals
    go_returns
    refine ⟨_, Lo1, os1, false, cc, rfl, StE.bel HS.out bl, OffS.via (OffS.of_bel _ bl) HF.out (fun b hb _ => hb), OwnD.bel HO1.out bl, fun b hb => (HBk.out b hb).imp id (fun h => by simp only [World.size_alloc] at h; omega), HC1.out, ?_⟩
    rcases HL.out with ⟨g, e1, e0, e2, e3, e4⟩ | ⟨e1, e2, e3, e4⟩
    ·
     exact Or.inl ⟨os1, false, g, by rw [e4, thenE_end (by omega)], rfl, rfl, e1⟩
    ·
     exact Or.inr ⟨e2, e1, e4, by omega⟩
  case pos =>
  have hd : decide ((i : Int) < (fs.length : Int)) = true := by simp; omega
  have hdn : decide (i < fs.length) = true := by simp; omega
  have hi0 : 0 ≤ (i : Int) := by omega
  have hi1 : (i : Int) < (fs.length : Int) := by omega
  have hbw : Bel wr wr := Bel.refl wr
  obtain ⟨b1, o1, x1_0, x1_1, A1_1, C1_1, hA1, hSb1, hlb1, hx1, hv1, g1_0, g1_1, c1_0, c1_1⟩ := TEnding.at HRr.out i h1
  subst hA1
  have HX1 := hide hx1
  have GR1_1 := hide g1_1
  have hSM1 : b1 ≠ M := (HS1.out b1 hSb1).1
  clear hx1 hv1 g1_1
  have hne1 : ¬ b1 = wr.heap.size := by omega
  have hpos : fs[i].pos = x1_0 := by rw [HX1.out]; rfl
  have hcs : fs[i].cs = x1_1 := by rw [HX1.out]; rfl
  have HP := hide hpos
  have HCS := hide hcs
  clear hpos hcs
  by_cases h2 : x1_0 ≤ above
  case pos => as_aux_lemma =>
   have hd2 : decide (x1_0 ≤ above) = true := by simpa using h2
   have HNX := hide (show LiveE (fun f' a' => endsE ds s d f' (.mk op t n lo hi ks) a') above fs D N0 Lo f R (i + 1) os1 cc by
    rcases HL.out with ⟨g, e1, e0, e2, e3, e4⟩ | ⟨e1, e2, e3, e4⟩
    ·
     exact Or.inl ⟨g, e1, e0, e2, e3, by rw [e4, thenE_skip h1 (by rw [HP.out]; exact h2)]⟩
    ·
     exact Or.inr ⟨e1, e2, by omega, e4⟩)
   go_wp2_with (fail)
   all_goals go_roundw
   case rel => exact ⟨i + 1, Lo1, os1, cc, by go_num, by omega, hide (OwnD.bel HO1.out bl), hide HC1.out, hide HBk.out, hide HBo.out, hide (StE.bel HS.out bl), hide (OffS.bel HF.out bl), hide HNX.out⟩
   case measure => simp [intOf]; omega
  case neg =>
  have H2 := hide h2
  have hd2 : decide (x1_0 ≤ above) = false := by simpa using h2
  have HBW := hide (show Bel w0 wr from HF.out.toBel (Bel.trans HB0.out bl) (fun x hx => ⟨by omega, fun h => by have := HOB.out x (Or.inl h); omega⟩))
  have hcd : cc ≤ d ∧ -1000000000 ≤ cc := by rcases HL.out with ⟨g, e1, e0, e2, e3, e4⟩ | ⟨e1, e2, e3, e4⟩ <;> omega
  have HGD := hide (show 0 < cc → 0 ≤ x1_0 ∧ x1_0 ≤ s.size from fun h => by
   rcases HL.out with ⟨g, e1, e0, e2, e3, e4⟩ | ⟨e1, e2, e3, e4⟩
   ·
    have := HG.out e0 fs[i] (List.getElem_mem h1)
    rw [HP.out] at this
    exact ⟨this.1, this.2.1⟩
   ·
    omega)
  go_wp2_with (fail)
  refine wp_region_held_drew (S := fun w' => w'.cell? ⟨w.heap.size, 0, none⟩ = some (.int .i64 op) ∧ w'.cell? ⟨w.heap.size, 1, none⟩ = some (.string t) ∧ w'.cell? ⟨w.heap.size, 2, none⟩ = some (.int .i64 n) ∧ w'.cell? ⟨w.heap.size, 3, none⟩ = some (.int .i64 lo) ∧ w'.cell? ⟨w.heap.size, 4, none⟩ = some (.int .i64 hi) ∧ w'.cell? ⟨w.heap.size, 5, none⟩ = some (.slice Aq ks.length cq) ∧ w'.cell? ⟨b1, o1 + i * 2, none⟩ = some (.int .i64 x1_0)) (by kernel_rfl) ?_ (fun hHeld => ?_)
  ·
   exact ⟨q0, q1, q2, q3, q4, q5, c1_0⟩
  refine tkI 0 ?_
  refine tkI 1 ?_
  refine tkI 2 ?_
  refine tkI 3 ?_
  refine tkI 4 ?_
  refine tkI 5 ?_
  refine tkI 6 ?_
  refine wpAnyH_ready (rs := [7]) (by kernel_rfl) (by simp) ?_
  refine AllReadyH.cons (o := _) rfl (fun K hK => ?_) AllReadyH.nil
  go_simp
  clear hHeld
  go_at_call 32
  refine (HIH.out wr.drew _ Sq cc x1_0 HV.out (Bel.trans HBW.out bl) hM (StE.bel HS.out bl) hcd.1 hcd.2 HGD.out g1_0).mono ?_
  rintro e w1 ⟨v2, L2, es2, st2, f2, rfl, hst2, hoff2, hO2, hB2, -, hout2⟩
  have hz1 := hoff2.size
  simp only [World.size_drew] at hz1
  have hbx1 := hoff2.same w.heap.size hMne (by simpa using hl0)
  have hbb1 := hoff2.same b1 hSM1 (by simpa using hlb1)
  refine hK.out _ _ ?_ (fun hHeld => ?_)
  ·
   exact ⟨(hbx1.1 _).trans q0, (hbx1.1 _).trans q1, (hbx1.1 _).trans q2, (hbx1.1 _).trans q3, (hbx1.1 _).trans q4, (hbx1.1 _).trans q5, (hbb1.1 _).trans c1_0⟩
  clear hK K
  (try simp only [Act.put, List.setIfInBounds_toArray, List.set_cons_zero, List.set_cons_succ, List.getElem_toArray, List.getElem_cons_zero, List.getElem_cons_succ])
  refine tkI 8 ?_
  refine tkI 9 ?_
  refine tkI 10 ?_
  refine tkI 11 ?_
  refine tkI 12 ?_
  refine wpAnyH_done (by kernel_rfl) ?_ _
  clear hHeld
  have HOUT := hide hout2
  have HS2 := hide hst2
  have HF2 := hide (OffS.via (OffS.of_bel (fun b => b ≠ M) (show Bel wr wr.drew from bl)) hoff2 (fun b h _ => h))
  have HOL := hide (OwnD.offS (OwnD.bel HO1.out (show Bel wr wr.drew from bl)) hoff2 (fun b hb => by have h := HBk.out b hb; rcases h with h | h; exact (HOM.out b h).1; simp only [World.size_alloc] at h; omega))
  obtain ⟨A2, c2, hv2, hOD2, hR2⟩ := hO2.two
  subst hv2
  have HR2 := hide hR2
  have HB2 := hide hB2
  have hl2 := hR2.1
  have hc2 := hR2.2.1
  simp only [List.length_map] at hl2
  unfold maxLen at hc2
  have hlen2 : (es2.map TEnding.D).length = es2.length := by simp
  have hlen1 : (os1.map TEnding.D).length = os1.length := by simp
  rw [hlen2]
  rw [hlen2] at HR2 HB2
  rw [hlen1] at HOL HBk HBo
  (try rw [hlen1])
  clear hO2 hOD2 hR2 hB2 hoff2 hst2 hout2 hbx1 hbb1
  go_wp2_with (fail)
  have HHV := hide (show 0 ≤ f → ∀ f' l t' g2, f' ≤ D → endsE ds s d f' (TPattern.mk op t n lo hi ks) fs[i].pos.toNat = some (l, t', g2) → g2 < f' ∧ l.length + g2 ≤ f' ∧ ∀ y ∈ l, y.cs.length ≤ 3000 from fun h0 f' l t' g2 hfd h => HQV.out f' _ (by omega) ⟨(HG.out h0 fs[i] (List.getElem_mem h1)).1, (HG.out h0 fs[i] (List.getElem_mem h1)).2.1⟩ l t' g2 h)
  have HOUT2 := hide (show OutE cc (if 0 ≤ cc then endsE ds s d cc.toNat (TPattern.mk op t n lo hi ks) fs[i].pos.toNat else none) es2 st2 f2 by have h := HOUT.out; unfold resE at h; rw [HP.out]; exact h)
  have hfb : f2 ≤ 4000 ∧ -950000000 ≤ f2 := by
   rcases HOUT2.out with ⟨l, t', g, r1, r2, r3, r4⟩ | ⟨r1, r2, r3, r4, -⟩
   ·
    by_cases h0 : 0 ≤ cc
    ·
     rw [if_pos h0] at r1
     rcases HL.out with ⟨g', e1, e0, e2, e3, e4⟩ | ⟨e1, e2, e3, e4⟩
     ·
      have := HHV.out e0 _ _ _ _ (by omega) r1; omega
     ·
      omega
    ·
     rw [if_neg h0] at r1; cases r1
   ·
    have : -5000 * (cc + 1) ≤ f2 ∨ cc - 1 ≤ f2 := by split at r4 <;> omega
    rcases HL.out with ⟨g', e1, e0, e2, e3, e4⟩ | ⟨e1, e2, e3, e4⟩ <;> omega
  have hle2 : es2.length ≤ 4000 := by
   rcases HOUT2.out with ⟨l, t', g, r1, r2, r3, r4⟩ | ⟨r1, r2, r3, r4, -⟩
   ·
    by_cases h0 : 0 ≤ cc
    ·
     rw [if_pos h0] at r1
     rcases HL.out with ⟨g', e1, e0, e2, e3, e4⟩ | ⟨e1, e2, e3, e4⟩
     ·
      have := HHV.out e0 _ _ _ _ (by omega) r1; subst r2; omega
     ·
      omega
    ·
     rw [if_neg h0] at r1; cases r1
   ·
    omega
  have hlo1 : os1.length ≤ 4001 := by
   rcases HL.out with ⟨g', e1, e0, e2, e3, e4⟩ | ⟨e1, e2, e3, e4⟩ <;> omega
  obtain ⟨wz, rfl⟩ : ∃ x : World, x = wr := ⟨_, rfl⟩
  go_loopw [4, 15] (fun ov kv wr => ∃ (j : Nat) (L' : List Nat), kv = .int .i64 j ∧ j ≤ es2.length ∧ (j = 0 ∨ (j : Int) ≤ f2 + 1) ∧ Hid (OwnD wr 36 2 ov L' ((os1 ++ (es2.take j).map (joinE fs[i])).map TEnding.D)) ∧ Hid (∀ x ∈ os1 ++ (es2.take j).map (joinE fs[i]), x.cs.length ≤ 6000) ∧ Hid (∀ b, Blk ov L' b → Blk (Value.slice Ao os1.length co) Lo1 b ∨ w1.heap.size ≤ b) ∧ Hid (∀ b, ov.ownBlock = some b → (Value.slice Ao os1.length co).ownBlock = some b ∨ w1.heap.size ≤ b) ∧ Hid (StE wr M A ds.length c s (f2 - j)) ∧ Hid (OffS (fun b => b ≠ M ∧ (Value.slice Ao os1.length co).ownBlock ≠ some b) w1 wr)) (fun _ kv _ => es2.length - (intOf kv).toNat)
  case atStart => exact ⟨0, Lo1, rfl, by omega, Or.inl rfl, hide (by rw [List.take_zero, List.map_nil, List.append_nil]; exact OwnD.bel HOL.out bl), hide (by rw [List.take_zero, List.map_nil, List.append_nil]; exact HC1.out), hide (fun b h => Or.inl h), hide (fun b h => Or.inl h), hide (by have h := StE.bel HS2.out (show Bel w1 _ from bl); simpa using h), hide (OffS.of_bel _ bl)⟩
  case round => as_aux_lemma =>
   obtain ⟨j, L3, rfl, hj, hjf, HO3, HC3, HBk3, HBo3, HS3, HF3⟩ := hrel
   obtain ⟨A3, c3, hov3, hOD3, -⟩ := HO3.out.two
   subst hov3
   have hlen3 : ((os1 ++ (es2.take j).map (joinE fs[i])).map TEnding.D).length = os1.length + j := by simp; omega
   rw [hlen3] at hOD3 HBk3 HBo3
   rw [hlen3]
   clear HO3
   have HO3 := hide hOD3
   clear hOD3
   have hz3 := HF3.out.size
   obtain ⟨jM, jf, j0, j1, j2⟩ := HS3.out
   have hzr1 := HF2.out.size
   have hVO : ∀ b, (Value.slice Ao os1.length co).ownBlock = some b → b ≠ M ∧ ¬ S1 b ∧ b ≠ w.heap.size ∧ b < wz.heap.size := fun b hb => by
    have hlt := OwnD.lt HO1.out b (Or.inl (by rw [hlen1]; exact hb))
    rcases HBo.out b hb with h | h
    ·
     have h2 := HOM.out b (Or.inl h)
     have h3 := HOL0.out b (Or.inl h)
     exact ⟨h2.1, h2.2, by omega, hlt⟩
    ·
     simp only [World.size_alloc] at h
     exact ⟨by omega, fun q => by have := (HS1.out b q).2; omega, by omega, hlt⟩
   have HVO := hide hVO
   clear hVO
   have hbx2 := (HF2.out.same w.heap.size hMne hl0).trans (HF3.out.same w.heap.size ⟨hMne, fun h => (HVO.out _ h).2.2.1 rfl⟩ (by omega))
   have hbb2 := (HF2.out.same b1 hSM1 hlb1).trans (HF3.out.same b1 ⟨hSM1, fun h => (HVO.out _ h).2.1 hSb1⟩ (by omega))
   replace q0 := (hbx2.1 _).trans q0
   replace q1 := (hbx2.1 _).trans q1
   replace q2 := (hbx2.1 _).trans q2
   replace q3 := (hbx2.1 _).trans q3
   replace q4 := (hbx2.1 _).trans q4
   replace q5 := (hbx2.1 _).trans q5
   replace c1_0 := (hbb2.1 _).trans c1_0
   replace c1_1 := (hbb2.1 _).trans c1_1
   have HG3 := hide (Row.offS HF3.out (S := S1) (fun b hb => ⟨(HS1.out b hb).1, fun h => (HVO.out _ h).2.1 hb⟩) (Row.offS HF2.out (S := S1) (fun b hb => (HS1.out b hb).1) GR1_1.out))
   have HR3 := hide (Row.offS HF3.out (S := fun b => Blk (.slice A2 es2.length c2) L2 b) (fun b hb => by have := HB2.out b hb; simp only [World.size_drew] at this; exact ⟨by omega, fun h => by have := (HVO.out _ h).2.2.2; omega⟩) HR2.out)
   have hlx : w.heap.size < wr.heap.size := by omega
   have hnx : ¬ w.heap.size = wr.heap.size := by omega
   have hMx : ¬ M = wr.heap.size := by omega
   have hlbx : b1 < wr.heap.size := by omega
   have hnbx : ¬ b1 = wr.heap.size := by omega
   clear hbx2 hbb2
   by_cases h3 : j < es2.length ∧ 0 ≤ f2 - (j : Int)
   case neg => as_aux_lemma =>
    have HFr := hide (OffS.via (OffS.via HF.out HF2.out (fun b hb _ => hb.1)) HF3.out (fun b hb hl => ⟨hb.1, fun h => by rcases HBo.out b h with q | q; exact hb.2 q; omega⟩))
    have HBk4 := hide (show ∀ b, Blk (.slice A3 (os1.length + j) c3) L3 b → Blk v0 L0 b ∨ (w.alloc (.cells #[.int .i64 op, .string t, .int .i64 n, .int .i64 lo, .int .i64 hi, .slice Aq ks.length cq] 28)).heap.size ≤ b from fun b h => by rcases HBk3.out b h with q | q; exact HBk.out b q; right; simp only [World.size_alloc]; omega)
    have HBo4 := hide (show ∀ b, (Value.slice A3 (os1.length + j) c3).ownBlock = some b → v0.ownBlock = some b ∨ (w.alloc (.cells #[.int .i64 op, .string t, .int .i64 n, .int .i64 lo, .int .i64 hi, .slice Aq ks.length cq] 28)).heap.size ≤ b from fun b h => by rcases HBo3.out b h with q | q; exact HBo.out b q; right; simp only [World.size_alloc]; omega)
    have hnx3 := LiveE.next HL.out h1 (by rw [HP.out]; have := H2.out; omega) HOUT2.out (fun h0 f' l t' g2 hfd h => ⟨(HHV.out h0 f' l t' g2 hfd h).1, (HHV.out h0 f' l t' g2 hfd h).2.1⟩) hlo2 hj hjf h3
    obtain ⟨os4, hos4⟩ : ∃ l, os1 ++ (es2.take j).map (joinE fs[i]) = l := ⟨_, rfl⟩
    rw [hos4] at hnx3 HO3 HC3
    have HNX := hide hnx3
    clear hnx3 hos4 hlen3 HOUT HOUT2 HL
    have hend : (¬ j < es2.length) ∨ (j < es2.length ∧ ¬ 0 ≤ f2 - (j : Int)) := by omega
    rcases hend with hend | hend
    ·
     have hd3 : decide ((j : Int) < (es2.length : Int)) = false := by simp; omega
     have hd3n : decide (j < es2.length) = false := by simp; omega
     cases st2
     case true =>
      have HN2 := hide (show OutT N0 (Lo - fs.length) R os4 true (f2 - j) by rcases HNX.out with ⟨-, h⟩ | ⟨h, -⟩; exact h; cases h)
      clear HNX
      go_wp2_with (fail)
      all_goals
       go_returns
       exact ⟨_, L3, os4, true, f2 - j, rfl, StE.bel HS3.out bl, OffS.via (OffS.of_bel _ (show Bel w (w.alloc (.cells #[.int .i64 op, .string t, .int .i64 n, .int .i64 lo, .int .i64 hi, .slice Aq ks.length cq] 28)) from bl)) (OffS.bel HFr.out bl) (fun b hb _ => hb), OwnD.bel HO3.out bl, fun b hb => (HBk4.out b hb).imp id (fun h => by simp only [World.size_alloc] at h; omega), HC3.out, HN2.out⟩
     case false =>
      have HN2 := hide (show LiveE (fun f' a' => endsE ds s d f' (TPattern.mk op t n lo hi ks) a') above fs D N0 Lo f R (i + 1) os4 (f2 - j) by rcases HNX.out with ⟨h, -⟩ | ⟨-, h⟩; cases h; exact h)
      clear HNX
      go_wp2_with (fail)
      all_goals go_roundw
      case rel => exact ⟨i + 1, L3, os4, f2 - j, by go_num, by omega, hide (OwnD.bel HO3.out bl), hide HC3.out, hide HBk4.out, hide HBo4.out, hide (StE.bel HS3.out bl), hide (OffS.bel HFr.out bl), hide HN2.out⟩
      case measure => simp [intOf]; omega
    ·
     have hd3 : decide ((j : Int) < (es2.length : Int)) = true := by simp; omega
     have hd3n : decide (j < es2.length) = true := by simp; omega
     have hd4 : decide (0 ≤ f2 - (j : Int)) = false := by simp; omega
     cases st2
     case true =>
      have HN2 := hide (show OutT N0 (Lo - fs.length) R os4 true (f2 - j) by rcases HNX.out with ⟨-, h⟩ | ⟨h, -⟩; exact h; cases h)
      clear HNX
      go_wp2_with (fail)
      all_goals
       go_returns
       exact ⟨_, L3, os4, true, f2 - j, rfl, StE.bel HS3.out bl, OffS.via (OffS.of_bel _ (show Bel w (w.alloc (.cells #[.int .i64 op, .string t, .int .i64 n, .int .i64 lo, .int .i64 hi, .slice Aq ks.length cq] 28)) from bl)) (OffS.bel HFr.out bl) (fun b hb _ => hb), OwnD.bel HO3.out bl, fun b hb => (HBk4.out b hb).imp id (fun h => by simp only [World.size_alloc] at h; omega), HC3.out, HN2.out⟩
     case false =>
      have HN2 := hide (show LiveE (fun f' a' => endsE ds s d f' (TPattern.mk op t n lo hi ks) a') above fs D N0 Lo f R (i + 1) os4 (f2 - j) by rcases HNX.out with ⟨h, -⟩ | ⟨-, h⟩; cases h; exact h)
      clear HNX
      go_wp2_with (fail)
      all_goals go_roundw
      case rel => exact ⟨i + 1, L3, os4, f2 - j, by go_num, by omega, hide (OwnD.bel HO3.out bl), hide HC3.out, hide HBk4.out, hide HBo4.out, hide (StE.bel HS3.out bl), hide (OffS.bel HFr.out bl), hide HN2.out⟩
      case measure => simp [intOf]; omega
   case pos =>
   obtain ⟨h3, h4⟩ := h3
   have hd3 : decide ((j : Int) < (es2.length : Int)) = true := by simp; omega
   have hd3n : decide (j < es2.length) = true := by simp; omega
   have hd4 : decide (0 ≤ f2 - (j : Int)) = true := by simp; omega
   have hj0 : 0 ≤ (j : Int) := by omega
   have hj1 : (j : Int) < (es2.length : Int) := by omega
   have hw1 : IntKind.i64.wrap (f2 - (j : Int) - 1) = f2 - (j : Int) - 1 := by rw [IntKind.wrap_i64]; omega
   obtain ⟨b2, o2, x2_0, x2_1, A2_1, C2_1, hA2, hSb2, hlb2, hx2, hv2, g2_0, g2_1, c2_0, c2_1⟩ := TEnding.at HR3.out j h3
   subst hA2
   have HX2 := hide hx2
   have GR2_1 := hide g2_1
   have HCL := hide (show x1_1.length ≤ 3000 ∧ x2_1.length ≤ 3000 by
    rcases HOUT2.out with ⟨l, t', g, r1, r2, r3, r4⟩ | ⟨r1, r2, r3, r4, -⟩
    ·
     by_cases hc0 : 0 ≤ cc
     ·
      rw [if_pos hc0] at r1
      rcases HL.out with ⟨g', e1, e0, e2, e3, e4⟩ | ⟨e1, e2, e3, e4⟩
      ·
       subst r2
       have a1 := (HG.out e0 fs[i] (List.getElem_mem h1)).2.2
       have a2 := (HHV.out e0 _ _ _ _ (by omega) r1).2.2 es2[j] (List.getElem_mem h3)
       rw [HX2.out] at a2
       rw [HCS.out] at a1
       exact ⟨a1, a2⟩
      ·
       omega
     ·
      rw [if_neg hc0] at r1; cases r1
    ·
     omega)
   have hSM2 : b2 ≠ M := by have := HB2.out b2 hSb2; simp only [World.size_drew] at this; omega
   clear hx2 hv2 g2_1
   go_upto_region 10 with (fail)
   refine wp_namedJ fun wA hwA => ?_
   have hzA : wA.heap.size = wr.heap.size := by rw [← hwA]; simp
   have hlA : w.heap.size < wA.heap.size := by omega
   have hlA1 : b1 < wA.heap.size := by omega
   have hlA2 : b2 < wA.heap.size := by omega
   have hMA : M < wA.heap.size := by omega
   have hwA1 : w1.heap.size ≤ wA.heap.size := by omega
   clear hzA
   have HFA := hide (show OffS (fun b => b ≠ M) wr wA by rw [← hwA]; exact osl)
   have HSA := hide (show StE wA M A ds.length c s (f2 - j - 1) by rw [← hwA]; exact StE.bel (StE.put HS3.out _) bl)
   clear hwA
   have hxA := HFA.out.same w.heap.size hMne hlx
   have hbA := HFA.out.same b1 hSM1 hlbx
   have hb2A := HFA.out.same b2 hSM2 hlb2
   replace q0 := (hxA.1 _).trans q0
   replace q1 := (hxA.1 _).trans q1
   replace q2 := (hxA.1 _).trans q2
   replace q3 := (hxA.1 _).trans q3
   replace q4 := (hxA.1 _).trans q4
   replace q5 := (hxA.1 _).trans q5
   replace c1_0 := (hbA.1 _).trans c1_0
   replace c1_1 := (hbA.1 _).trans c1_1
   replace c2_0 := (hb2A.1 _).trans c2_0
   replace c2_1 := (hb2A.1 _).trans c2_1
   clear hxA hbA hb2A
   have HGA := hide (Row.offS HFA.out (S := S1) (fun b hb => (HS1.out b hb).1) HG3.out)
   have HGB := hide (Row.offS HFA.out (S := fun b => Blk (.slice (some ⟨b2, o2, none⟩) es2.length c2) L2 b) (fun b hb => by have := HB2.out b hb; simp only [World.size_drew] at this; omega) GR2_1.out)
   have HOA := hide (OwnD.offS HO3.out HFA.out (fun b hb => by
     rcases HBk3.out b hb with h | h
     ·
      rcases HBk.out b h with q | q
      ·
       exact (HOM.out b q).1
      ·
       simp only [World.size_alloc] at q; omega
     ·
      omega))
   obtain ⟨hcl1, hcl2⟩ := HCL.out
   refine wp_region_held_drew (S := fun w' => w'.cell? ⟨b1, o1 + i * 2 + 1, none⟩ = some (.slice A1_1 x1_1.length C1_1) ∧ w'.cell? ⟨b2, o2 + j * 2 + 1, none⟩ = some (.slice A2_1 x2_1.length C2_1)) (by kernel_rfl) ?_ (fun hHeld => ?_)
   ·
    exact ⟨c1_1, c2_1⟩
   refine tkI 1 ?_
   refine tkI 2 ?_
   refine tkI 3 ?_
   refine tkI 4 ?_
   refine tkI 5 ?_
   refine tkI 7 ?_
   refine tkI 8 ?_
   refine tkI 9 ?_
   refine tkI 10 ?_
   refine tkI 11 ?_
   refine wpAnyH_ready (rs := [0]) (by kernel_rfl) (by simp) ?_
   refine AllReadyH.cons (o := _) rfl (fun K hK => ?_) AllReadyH.nil
   go_simp
   clear hHeld
   have hbAB : Bel wA ((wA.alloc (.cells #[] 40)).drew) := bl
   have hO5 := OwnD.bel (OwnD.lit0 wA 40 3) (show Bel _ ((wA.alloc (.cells #[] 40)).drew) from bl)
   refine hK.out _ _ ?_ (fun hHeld => ?_)
   ·
    exact ⟨(hbAB.box b1 hlA1 _).trans c1_1, (hbAB.box b2 hlA2 _).trans c2_1⟩
   clear hK K
   (try simp only [Act.put, List.setIfInBounds_toArray, List.set_cons_zero, List.set_cons_succ, List.getElem_toArray, List.getElem_cons_zero, List.getElem_cons_succ])
   refine wpAnyH_ready (rs := [6]) (by kernel_rfl) (by simp) ?_
   refine AllReadyH.cons (o := _) rfl (fun K hK => ?_) AllReadyH.nil
   rw [if_pos (by rfl)]
   obtain ⟨nw1, hsr1⟩ := Row.src (capD_flat x1_1) (Row.bel hbAB HGA.out)
   rw [List.length_map] at hsr1
   refine wp_append_D (.tmp 61) (.tmp 66) 34 rfl 40 ic (.agg #[.int .i64 0, .int .i64 0, .int .i64 0]) 3 24 Try.underlying34 hic zc0 zc1 zc2 (by decide) (by decide) hO5 hsr1 C1_1 rfl rfl (fun b _ h => by cases h) (by simp only [List.length_nil]; omega) (by unfold maxLen; simp only [List.length_nil]; omega) fun v5 w5 hO6 hg5 hw5 => ?_
   have hbAC : Bel wA w5 := Below.grown hbAB hg5 (by simp) (fun k hk => by have := Option.some.inj (show some wA.heap.size = some k from hk); omega)
   clear hbAB
   have hbAB := hbAC
   clear hbAC
   refine hK.out _ _ ?_ (fun hHeld => ?_)
   ·
    exact ⟨(hbAB.box b1 hlA1 _).trans c1_1, (hbAB.box b2 hlA2 _).trans c2_1⟩
   clear hK K
   (try simp only [Act.put, List.setIfInBounds_toArray, List.set_cons_zero, List.set_cons_succ, List.getElem_toArray, List.getElem_cons_zero, List.getElem_cons_succ])
   refine wpAnyH_ready (rs := [12]) (by kernel_rfl) (by simp) ?_
   refine AllReadyH.cons (o := _) rfl (fun K hK => ?_) AllReadyH.nil
   rw [if_pos (by rfl)]
   obtain ⟨nw2, hsr2⟩ := Row.src (capD_flat x2_1) (Row.bel hbAB HGB.out)
   rw [List.length_map] at hsr2
   have hv5 : ∀ b, v5.ownBlock = some b → wA.heap.size ≤ b := fun b hb => (hw5 b hb).elim (fun h => by have := Option.some.inj (show some wA.heap.size = some b from h); omega) (fun h => by simp at h; omega)
   refine wp_append_D (.tmp 67) (.tmp 72) 34 rfl 40 ic (.agg #[.int .i64 0, .int .i64 0, .int .i64 0]) 3 24 Try.underlying34 hic zc0 zc1 zc2 (by decide) (by decide) hO6 hsr2 C2_1 rfl rfl (fun b _ h => by cases h) (by simp only [List.nil_append, List.length_map]; omega) (by unfold maxLen; simp only [List.nil_append, List.length_map]; omega) fun v6 w6 hO7 hg6 hw6 => ?_
   have hbAC : Bel wA w6 := Below.grown hbAB hg6 hbAB.size hv5
   have hv6 : ∀ b, v6.ownBlock = some b → wA.heap.size ≤ b := fun b hb => (hw6 b hb).elim (fun h => hv5 b h) (fun h => Nat.le_trans hbAB.size h)
   clear hbAB
   have hbAB := hbAC
   clear hbAC
   refine hK.out _ _ ?_ (fun hHeld => ?_)
   ·
    exact ⟨(hbAB.box b1 hlA1 _).trans c1_1, (hbAB.box b2 hlA2 _).trans c2_1⟩
   clear hK K
   (try simp only [Act.put, List.setIfInBounds_toArray, List.set_cons_zero, List.set_cons_succ, List.getElem_toArray, List.getElem_cons_zero, List.getElem_cons_succ])
   refine tkI 13 ?_
   refine wpAnyH_done (by kernel_rfl) ?_ _
   clear hHeld hsr1 hsr2 hO5 hO6 hg5 hg6 hw5 hw6 hv5
   simp only [List.nil_append, ← List.map_append] at hO7
   obtain ⟨xy, hxy⟩ : ∃ l, x1_1 ++ x2_1 = l := ⟨_, rfl⟩
   rw [hxy] at hO7
   have HXY := hide hxy
   clear hxy
   obtain ⟨A6, c6, L6, hv6e, hr6, hn6, hk6⟩ := hO7.ownRow
   subst hv6e
   rw [List.length_map] at hv6 hk6 hO7
   rw [List.length_map]
   have HR6 := hide hr6
   have HK6 := hide (show ∀ b, b ∈ L6 → wA.heap.size ≤ b from fun b hb => (hk6 b hb).elim (fun h => hv6 b h) (fun h => by cases h))
   have HN6 := hide hn6
   clear hr6 hn6 hk6 hv6 hO7
   have hz6 := hbAB.size
   have e2_0 := (hbAB.box b2 hlA2 _).trans c2_0
   have hlb6 : b2 < w6.heap.size := by omega
   have hown6 := OwnD.lit1 (k := 2) w6 36 (TEnding.own_mk (x0 := x2_0) (x1 := xy) g2_0 HR6.out) rfl HN6.out
   obtain ⟨nw3, hsr3⟩ := hown6.src
   have HSR3 := hide hsr3
   clear hown6 hsr3
   obtain ⟨os3, hos3⟩ : ∃ l, os1 ++ (es2.take j).map (joinE fs[i]) = l := ⟨_, rfl⟩
   rw [hos3] at hlen3
   have HOS3 := hide hos3
   have HOA3 := hide (show OwnD wA 36 2 _ L3 (os3.map TEnding.D) by rw [← hos3]; exact HOA.out)
   clear hos3
   have HO6 := hide (OwnD.bel HOA3.out (show Bel wA (w6.alloc (.cells #[.int .i64 x2_0, .slice A6 xy.length c6] 36)) from bl))
   go_wp2_with (at_builtin; refine wpList_append_D rfl (.tmp 74) (.tmp 82) 31 rfl 36 ie (.agg #[.int .i64 0, .slice none 0 0]) 2 32 Try.underlying31 hie ze0 ze1 ze2 (by decide) (by decide) HO6.out HSR3.out 1 rfl rfl ?c1 ?c2 ?c3 ?_)
   case c1 => exact fun b hb hm => by have h1 := OwnD.lt HOA.out b hb; have h2 := HK6.out b hm; omega
   case c2 => rw [hlen3]; omega
   case c3 => rw [hlen3]; unfold maxLen; omega
   intro v7 w7 hO8 hg8 hw8
   have HD := hide (show [TEnding.D (.mk x2_0 xy)] = [TEnding.D (joinE fs[i] es2[j])] by rw [joinE_D (a := x1_0) (cs := x1_1) HX1.out HX2.out, HXY.out, TEnding.D_mk])
   have HC9 := hide (show ∀ x ∈ os1 ++ (es2.take (j + 1)).map (joinE fs[i]), x.cs.length ≤ 6000 from fun x hx => by
    rw [take_snoc h3, List.map_append, ← List.append_assoc] at hx
    rcases List.mem_append.1 hx with hx | hx
    ·
     exact HC3.out x hx
    ·
     obtain ⟨y, hy, rfl⟩ := List.mem_map.1 hx
     rw [List.mem_singleton.1 hy]
     simp only [joinE, TEnding.cs, List.length_append]
     have q1 := HCS.out
     simp only [TEnding.cs] at q1
     rw [HX1.out, HX2.out]
     simp only
     omega)
   have hO9 := hO8
   rw [show (os3.map TEnding.D ++ [TEnding.D (.mk x2_0 xy)]) = (os1 ++ (es2.take (j + 1)).map (joinE fs[i])).map TEnding.D by rw [HD.out, take_snoc h3, ← HOS3.out]; simp only [List.map_append, List.map_cons, List.map_nil, List.append_assoc]] at hO9
   have HO9 := hide hO9
   clear hO8 hO9
   have hbA7 : Bel wA (w6.alloc (.cells #[.int .i64 x2_0, .slice A6 xy.length c6] 36)) := bl
   have HO10 := hide (show ∀ b, (Value.slice A3 (os1.length + j) c3).ownBlock = some b → (Value.slice Ao os1.length co).ownBlock = some b ∨ w1.heap.size ≤ b from HBo3.out)
   have hz67 := hbA7.size
   have HF9 := hide (OffS.via (OffS.via (OffS.via HF3.out HFA.out (fun b hb _ => hb.1)) (OffS.of_bel (fun _ => True) hbA7) (fun b _ _ => trivial)) (grown_offS hg8) (fun b hb hl h => (HO10.out b h).elim (fun q => hb.2 q) (fun q => by omega)))
   have HB9 := hide (show ∀ b, v7.ownBlock = some b → (Value.slice Ao os1.length co).ownBlock = some b ∨ w1.heap.size ≤ b from fun b hb => (hw8 b hb).elim (fun q => HO10.out b q) (fun q => Or.inr (by omega)))
   have HK9 := hide (show ∀ b, Blk v7 (L3 ++ L6) b → Blk (.slice Ao os1.length co) Lo1 b ∨ w1.heap.size ≤ b from fun b hb => hb.elim (fun q => (HB9.out b q).imp Or.inl id) (fun q => (List.mem_append.1 q).elim (fun q => HBk3.out b (Or.inr q)) (fun q => Or.inr (by have := HK6.out b q; omega))))
   have HS9 := hide (StE.offS (StE.bel HSA.out hbA7) (grown_offS hg8) (fun h => (HO10.out M h).elim (fun q => (HVO.out M q).1 rfl) (fun q => by omega)))
   have hz9 := (grown_offS hg8).size
   clear hg8 hw8
   go_wp2_with (fail)
   all_goals go_roundw
   case rel => exact ⟨j + 1, L3 ++ L6, by go_num, by omega, by omega, hide (OwnD.bel HO9.out bl), hide HC9.out, hide HK9.out, hide HB9.out, hide (by have h := StE.bel HS9.out (show Bel w7 _ from bl); rw [show f2 - ((j + 1 : Nat) : Int) = f2 - j - 1 by omega]; exact h), hide (OffS.bel HF9.out bl)⟩
   case measure => simp [intOf]; omega
end Go.Proofs.Ytdjbfneniohaaaa
