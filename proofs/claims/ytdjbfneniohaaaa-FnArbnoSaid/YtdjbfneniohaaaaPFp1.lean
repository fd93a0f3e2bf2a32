/- Draws: a box of six cells of the call's own; one of a list of numbers. -/
import Derived.Test.YtdjbfneniohaaaaPF1
import Derived.Test.YtdjbfneniohaaaaPP1
import Derived.Test.YtdjbfneniohaaaaPJo
namespace Go.Proofs.Ytdjbfneniohaaaa
set_option linter.unusedVariables false
set_option linter.unusedSimpArgs false
set_option maxRecDepth 100000
open Go.RowKit
def PB (w : World) (b : Nat) (v0 v1 v2 v3 v4 v5 : Value) : Prop := b < w.heap.size ∧ (∀ o, w.frozen? ⟨b, o, none⟩ = false) ∧ w.cell? ⟨b, 0, none⟩ = some v0 ∧ w.cell? ⟨b, 1, none⟩ = some v1 ∧ w.cell? ⟨b, 2, none⟩ = some v2 ∧ w.cell? ⟨b, 3, none⟩ = some v3 ∧ w.cell? ⟨b, 4, none⟩ = some v4 ∧ w.cell? ⟨b, 5, none⟩ = some v5
section
variable {w w' : World} {b c : Nat} {v0 v1 v2 v3 v4 v5 : Value}
theorem PB.block (h : PB w b v0 v1 v2 v3 v4 v5) (hs : w.heap.size ≤ w'.heap.size) (hb : w'.heap[b]? = w.heap[b]?) : PB w' b v0 v1 v2 v3 v4 v5 := by
 obtain ⟨l, f, c0, c1, c2, c3, c4, c5⟩ := h
 have e : ∀ o, w'.cell? ⟨b, o, none⟩ = w.cell? ⟨b, o, none⟩ := fun o => World.cell?_of_block hb
 exact ⟨by omega, fun o => (World.frozen?_of_block hb).trans (f o), (e 0).trans c0, (e 1).trans c1, (e 2).trans c2, (e 3).trans c3, (e 4).trans c4, (e 5).trans c5⟩
theorem PB.on (h : PB w b v0 v1 v2 v3 v4 v5) (k : Bel w w') : PB w' b v0 v1 v2 v3 v4 v5 := h.block k.size (Below.block k b h.1)
theorem PB.oth (h : PB w b v0 v1 v2 v3 v4 v5) (k : Oth c w w') (hn : b ≠ c) : PB w' b v0 v1 v2 v3 v4 v5 := h.block k.size (k.block b h.1 hn)
theorem PB.new (w : World) (t : TypeId) : PB (w.alloc (.cells #[v0, v1, v2, v3, v4, v5] t)) w.heap.size v0 v1 v2 v3 v4 v5 :=
 ⟨by simp, fun o => by simp, by simp, by simp, by simp, by simp, by simp, by simp⟩
theorem set_block {b' : Nat} (o : Nat) (u : Value) (hn : b' ≠ b) : (w.setCell ⟨b', o, none⟩ u).heap[b]? = w.heap[b]? := by
 unfold World.setCell
 split
 all_goals
  show (w.heap.modify b' _)[b]? = _
  rw [Array.getElem?_modify, if_neg hn]
theorem PB.far (h : PB w b v0 v1 v2 v3 v4 v5) {b' : Nat} (o : Nat) (u : Value) (hn : b' ≠ b) : PB (w.setCell ⟨b', o, none⟩ u) b v0 v1 v2 v3 v4 v5 :=
 h.block (by simp) (set_block o u hn)
theorem PB.put0 (h : PB w b v0 v1 v2 v3 v4 v5) (u : Value) : PB (w.setCell ⟨b, 0, none⟩ u) b u v1 v2 v3 v4 v5 := by
 obtain ⟨l, f, c0, c1, c2, c3, c4, c5⟩ := h
 exact ⟨by simpa using l, fun o => by simp [f], by simp [c0, go_sem], by simp [c1, go_sem], by simp [c2, go_sem], by simp [c3, go_sem], by simp [c4, go_sem], by simp [c5, go_sem]⟩
theorem PB.put1 (h : PB w b v0 v1 v2 v3 v4 v5) (u : Value) : PB (w.setCell ⟨b, 1, none⟩ u) b v0 u v2 v3 v4 v5 := by
 obtain ⟨l, f, c0, c1, c2, c3, c4, c5⟩ := h
 exact ⟨by simpa using l, fun o => by simp [f], by simp [c0, go_sem], by simp [c1, go_sem], by simp [c2, go_sem], by simp [c3, go_sem], by simp [c4, go_sem], by simp [c5, go_sem]⟩
theorem PB.put2 (h : PB w b v0 v1 v2 v3 v4 v5) (u : Value) : PB (w.setCell ⟨b, 2, none⟩ u) b v0 v1 u v3 v4 v5 := by
 obtain ⟨l, f, c0, c1, c2, c3, c4, c5⟩ := h
 exact ⟨by simpa using l, fun o => by simp [f], by simp [c0, go_sem], by simp [c1, go_sem], by simp [c2, go_sem], by simp [c3, go_sem], by simp [c4, go_sem], by simp [c5, go_sem]⟩
theorem PB.put3 (h : PB w b v0 v1 v2 v3 v4 v5) (u : Value) : PB (w.setCell ⟨b, 3, none⟩ u) b v0 v1 v2 u v4 v5 := by
 obtain ⟨l, f, c0, c1, c2, c3, c4, c5⟩ := h
 exact ⟨by simpa using l, fun o => by simp [f], by simp [c0, go_sem], by simp [c1, go_sem], by simp [c2, go_sem], by simp [c3, go_sem], by simp [c4, go_sem], by simp [c5, go_sem]⟩
theorem PB.put4 (h : PB w b v0 v1 v2 v3 v4 v5) (u : Value) : PB (w.setCell ⟨b, 4, none⟩ u) b v0 v1 v2 v3 u v5 := by
 obtain ⟨l, f, c0, c1, c2, c3, c4, c5⟩ := h
 exact ⟨by simpa using l, fun o => by simp [f], by simp [c0, go_sem], by simp [c1, go_sem], by simp [c2, go_sem], by simp [c3, go_sem], by simp [c4, go_sem], by simp [c5, go_sem]⟩
theorem PB.put5 (h : PB w b v0 v1 v2 v3 v4 v5) (u : Value) : PB (w.setCell ⟨b, 5, none⟩ u) b v0 v1 v2 v3 v4 u := by
 obtain ⟨l, f, c0, c1, c2, c3, c4, c5⟩ := h
 exact ⟨by simpa using l, fun o => by simp [f], by simp [c0, go_sem], by simp [c1, go_sem], by simp [c2, go_sem], by simp [c3, go_sem], by simp [c4, go_sem], by simp [c5, go_sem]⟩
theorem Oth.put (h : Oth c w w') (hb : w.heap.size ≤ b) (o : Nat) (u : Value) : Oth c w (w'.setCell ⟨b, o, none⟩ u) :=
 ⟨by rw [← h.os]; exact (Below.setCell (Below.refl b w') (Nat.le_refl b) u).os, by rw [← h.tape]; exact (Below.setCell (Below.refl b w') (Nat.le_refl b) u).tape, by rw [← h.output]; exact (Below.setCell (Below.refl b w') (Nat.le_refl b) u).output, by have := h.size; simpa using this, fun k hk hc => (set_block o u (by omega)).trans (h.block k hk hc)⟩
theorem Cur.far {A : Option Addr} {n cap : Nat} (h : Cur w c A n cap) (hn : b ≠ c) (hA : ∀ d o, A = some ⟨d, o, none⟩ → b ≠ d) (o : Nat) (u : Value) : Cur (w.setCell ⟨b, o, none⟩ u) c A n cap := by
 obtain ⟨l, f, hB, i, x, hi, c0, c1, c2⟩ := h
 have e := set_block (w := w) (b := c) o u hn
 refine ⟨by simpa using l, fun q => (World.frozen?_of_block e).trans (f q), ⟨hB.1, fun h0 => ?_⟩, i, x, hi, (World.cell?_of_block e).trans c0, (World.cell?_of_block e).trans c1, (World.cell?_of_block e).trans c2⟩
 obtain ⟨b1, o1, hA1, h1, h2, h3⟩ := hB.2 h0
 refine ⟨b1, o1, hA1, by simpa using h1, h2, fun j hj => ?_⟩
 obtain ⟨y, y1, y2⟩ := h3 j hj
 exact ⟨y, y1, (World.cell?_of_block (set_block o u (hA _ _ hA1))).trans y2⟩
end
theorem Cur.back {w0 w w' : World} {c : Nat} {A : Option Addr} {n cap : Nat} (h0 : Cur w0 c A n cap) (h : Cur w c A n cap) (k : Oth c w0 w') (hb : w'.heap[c]? = w.heap[c]?) : Cur w' c A n cap := by
 obtain ⟨l, f, hB, i, x, hi, c0, c1, c2⟩ := h
 exact h0.put k (fun o => (World.frozen?_of_block hb).trans (f o)) i x hi ((World.cell?_of_block hb).trans c0) ((World.cell?_of_block hb).trans c1) ((World.cell?_of_block hb).trans c2)
def DrewP (P : Int → Prop) (w : World) (c : Nat) (A : Option Addr) (n cap : Nat) (e : Ending) (w' : World) : Prop :=
 ∃ x : Int, P x ∧ e = .returned (.int .i64 x) ∧ Cur w' c A n cap ∧ Oth c w w'
def RowP (P : Int → Prop) (w : World) (g : Nat) (m : Nat) : Prop := g < w.heap.size ∧ ∀ j, j < m → ∃ x : Int, P x ∧ w.cell? ⟨g, j, none⟩ = some (.int .i64 x)
theorem RowP.on {P : Int → Prop} {w w' : World} {c g m : Nat} (h : RowP P w g m) (k : Oth c w w') (hg : g ≠ c) : RowP P w' g m :=
 ⟨Nat.lt_of_lt_of_le h.1 k.size, fun j hj => by obtain ⟨x, hx, hc⟩ := h.2 j hj; exact ⟨x, hx, (k.cell h.1 hg).trans hc⟩⟩
theorem rowP_new {P : Int → Prop} {w : World} {t : TypeId} (xs : List Int) (h : ∀ x ∈ xs, P x) : RowP P (w.alloc (.cells (xs.map (Value.int .i64)).toArray t)) w.heap.size xs.length := by
 refine ⟨by simp, fun j hj => ⟨xs[j], h _ (List.getElem_mem hj), ?_⟩⟩
 unfold World.cell?
 show (match (w.alloc _).heap[w.heap.size]? with | some (.cells c _ _) => _ | _ => _) = _
 rw [heap_alloc_new]
 simp [hj]
set_option maxHeartbeats 400000 in
theorem l1PickInt_P (P : Int → Prop) (g m cap' : Nat) (c : Nat) (A : Option Addr) (n cap : Nat) (w : World) (hc : Cur w c A n cap) (hr : RowP P w g m) (hg : g ≠ c) (h0 : 0 < m) (h1 : m ≤ 1000) :
  Calls Try.prog 66 #[.pointer (some ⟨c, 0, none⟩), .slice (some ⟨g, 0, none⟩) m cap'] w (DrewP P w c A n cap) := by
 have HC := hide hc
 have HR := hide hr
 clear hc hr
 have hb := hide (show belowHi (m : Int) = m - 1 by unfold belowHi; rw [if_neg (by omega)])
 go_enter Try.func66, Try.ntmps66
 go_wp2_with (go_at_call 45; refine (l1Below_any m c A n cap _ HC.out (by unfold InI; omega)).mono ?_; rintro e w1 ⟨x, x1, x2, rfl, hC1, hO1⟩; have HC1 := hide hC1; have HO1 := hide hO1; clear hC1 hO1; rw [hb.out] at x2; obtain ⟨j, rfl⟩ := Int.eq_ofNat_of_zero_le x1; obtain ⟨y, hy, hcell⟩ := (HR.out.on HO1.out hg).2 j (by omega); have i1 : (j : Int) < (m : Int) := (by omega); have i2 : j < m := (by omega); have hy' := hide hy; clear hy)
 all_goals
  go_returns
  exact ⟨y, hy'.out, rfl, HC1.out, HO1.out⟩
structure TrS (w wx : World) (c : Nat) (A : Option Addr) (n cap b : Nat) (op : Int) (t : ByteArray) (m lo hi : Int) : Prop where
 box : PB wx b (.int .i64 op) (.string t) (.int .i64 m) (.int .i64 lo) (.int .i64 hi) (.slice none 0 0)
 res : PB wx w.heap.size (.int .i64 0) (.string ByteArray.empty) (.int .i64 0) (.int .i64 0) (.int .i64 0) (.slice none 0 0)
 cur : Cur wx c A n cap
 oth : Oth c w wx
 iop : InI op
 im : InI m
 il : InI lo
 ih : InI hi
 ht : t.size ≤ 20
section
variable {w wx wy : World} {c : Nat} {A : Option Addr} {n cap b : Nat} {op m lo hi : Int} {t : ByteArray}
theorem TrS.on (h : TrS w wx c A n cap b op t m lo hi) (k : Oth c wx wy) (hC : Cur wy c A n cap) (hw : w.heap.size ≠ c) (hb : b ≠ c) : TrS w wy c A n cap b op t m lo hi :=
 ⟨h.box.oth k hb, h.res.oth k hw, hC, h.oth.trans k, h.iop, h.im, h.il, h.ih, h.ht⟩
theorem TrS.bel (h : TrS w wx c A n cap b op t m lo hi) (k : Bel wx wy) : TrS w wy c A n cap b op t m lo hi :=
 ⟨h.box.on k, h.res.on k, h.cur.bel k, h.oth.trans (Oth.of_bel k), h.iop, h.im, h.il, h.ih, h.ht⟩
theorem TrS.put0 (h0 : Cur w c A n cap) (h : TrS w wx c A n cap b op t m lo hi) (hw : w.heap.size < b) (hb : b ≠ c) {x : Int} (hx : InI x) : TrS w (wx.setCell ⟨b, 0, none⟩ (.int .i64 x)) c A n cap b x t m lo hi :=
 ⟨h.box.put0 _, h.res.far 0 _ (by omega), h0.back h.cur (h.oth.put (by omega) 0 _) (set_block 0 _ hb), h.oth.put (by omega) 0 _, hx, h.im, h.il, h.ih, h.ht⟩
theorem TrS.put1 (h0 : Cur w c A n cap) (h : TrS w wx c A n cap b op t m lo hi) (hw : w.heap.size < b) (hb : b ≠ c) {x : ByteArray} (hx : x.size ≤ 20) : TrS w (wx.setCell ⟨b, 1, none⟩ (.string x)) c A n cap b op x m lo hi :=
 ⟨h.box.put1 _, h.res.far 1 _ (by omega), h0.back h.cur (h.oth.put (by omega) 1 _) (set_block 1 _ hb), h.oth.put (by omega) 1 _, h.iop, h.im, h.il, h.ih, hx⟩
theorem TrS.put2 (h0 : Cur w c A n cap) (h : TrS w wx c A n cap b op t m lo hi) (hw : w.heap.size < b) (hb : b ≠ c) {x : Int} (hx : InI x) : TrS w (wx.setCell ⟨b, 2, none⟩ (.int .i64 x)) c A n cap b op t x lo hi :=
 ⟨h.box.put2 _, h.res.far 2 _ (by omega), h0.back h.cur (h.oth.put (by omega) 2 _) (set_block 2 _ hb), h.oth.put (by omega) 2 _, h.iop, hx, h.il, h.ih, h.ht⟩
theorem TrS.put34 (h0 : Cur w c A n cap) (h : TrS w wx c A n cap b op t m lo hi) (hw : w.heap.size < b) (hb : b ≠ c) {x y : Int} (hx : InI x) (hy : InI y) : TrS w ((wx.setCell ⟨b, 3, none⟩ (.int .i64 x)).setCell ⟨b, 4, none⟩ (.int .i64 y)) c A n cap b op t m x y :=
 ⟨(h.box.put3 _).put4 _, (h.res.far 3 _ (by omega)).far 4 _ (by omega), h0.back h.cur ((h.oth.put (by omega) 3 _).put (by omega) 4 _) ((set_block 4 _ hb).trans (set_block 3 _ hb)), (h.oth.put (by omega) 3 _).put (by omega) 4 _, h.iop, h.im, hx, hy, h.ht⟩
end
end Go.Proofs.Ytdjbfneniohaaaa
