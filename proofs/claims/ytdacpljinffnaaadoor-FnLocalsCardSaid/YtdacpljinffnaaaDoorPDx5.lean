/- Draws of units: expressions of any depth; boxes; lists of the call's own; what a unit's draw carries. -/
import Derived.Test.YtdacpljinffnaaaDoorPDx4
import Derived.Test.YtdacpljinffnaaaDoorPDr
import Derived.Test.YtdacpljinffnaaaDoorPMExpr
import Derived.Test.YtdacpljinffnaaaDoorPYr
namespace Go.Proofs.YtdacpljinffnaaaDoor
set_option linter.unusedVariables false
set_option linter.unusedSimpArgs false
set_option maxRecDepth 100000
open Go.RowKit
theorem l6Tree_any (c : Nat) (A : Option Addr) (n cap : Nat) : ∀ d, ExprC c A n cap d
 | 0 => fun w deep hc hd h1 h2 => etree_step c A n cap 0 w deep hc hd h1 h2 (hide fun h => absurd h (by omega))
 | d + 1 => fun w deep hc hd h1 h2 => etree_step c A n cap (d + 1) w deep hc hd h1 h2 (hide fun _ => ⟨d, rfl, l6Tree_any c A n cap d⟩)
def TB (w : World) (b : Nat) (v0 v1 v2 : Value) : Prop := b < w.heap.size ∧ (∀ o, w.frozen? ⟨b, o, none⟩ = false) ∧ w.cell? ⟨b, 0, none⟩ = some v0 ∧ w.cell? ⟨b, 1, none⟩ = some v1 ∧ w.cell? ⟨b, 2, none⟩ = some v2
section
variable {w w' : World} {b c : Nat} {v0 v1 v2 : Value}
theorem TB.block (h : TB w b v0 v1 v2) (hs : w.heap.size ≤ w'.heap.size) (hb : w'.heap[b]? = w.heap[b]?) : TB w' b v0 v1 v2 := by
 obtain ⟨l, f, c0, c1, c2⟩ := h
 have e : ∀ o, w'.cell? ⟨b, o, none⟩ = w.cell? ⟨b, o, none⟩ := fun o => World.cell?_of_block hb
 exact ⟨by omega, fun o => (World.frozen?_of_block hb).trans (f o), (e 0).trans c0, (e 1).trans c1, (e 2).trans c2⟩
theorem TB.on (h : TB w b v0 v1 v2) (k : Bel w w') : TB w' b v0 v1 v2 := h.block k.size (Below.block k b h.1)
theorem TB.oth (h : TB w b v0 v1 v2) (k : Oth c w w') (hn : b ≠ c) : TB w' b v0 v1 v2 := h.block k.size (k.block b h.1 hn)
theorem TB.new (w : World) (t : TypeId) : TB (w.alloc (.cells #[v0, v1, v2] t)) w.heap.size v0 v1 v2 :=
 ⟨by simp, fun o => by simp, by simp, by simp, by simp⟩
theorem TB.far (h : TB w b v0 v1 v2) {b' : Nat} (o : Nat) (u : Value) (hn : b' ≠ b) : TB (w.setCell ⟨b', o, none⟩ u) b v0 v1 v2 :=
 h.block (by simp) (set_block o u hn)
theorem TB.put0 (h : TB w b v0 v1 v2) (u : Value) : TB (w.setCell ⟨b, 0, none⟩ u) b u v1 v2 := by
 obtain ⟨l, f, c0, c1, c2⟩ := h
 exact ⟨by simpa using l, fun o => by simp [f], by simp [c0, go_sem], by simp [c1, go_sem], by simp [c2, go_sem]⟩
theorem TB.put1 (h : TB w b v0 v1 v2) (u : Value) : TB (w.setCell ⟨b, 1, none⟩ u) b v0 u v2 := by
 obtain ⟨l, f, c0, c1, c2⟩ := h
 exact ⟨by simpa using l, fun o => by simp [f], by simp [c0, go_sem], by simp [c1, go_sem], by simp [c2, go_sem]⟩
theorem TB.put2 (h : TB w b v0 v1 v2) (u : Value) : TB (w.setCell ⟨b, 2, none⟩ u) b v0 v1 u := by
 obtain ⟨l, f, c0, c1, c2⟩ := h
 exact ⟨by simpa using l, fun o => by simp [f], by simp [c0, go_sem], by simp [c1, go_sem], by simp [c2, go_sem]⟩
theorem TB.there (h : TB w b v0 v1 v2) : w.there b 0 3 := by
 obtain ⟨l, f, c0, c1, c2⟩ := h
 intro j hj
 rcases (show j = 0 ∨ j = 1 ∨ j = 2 by omega) with rfl | rfl | rfl
 all_goals exact ⟨by simp [c0, c1, c2], f _⟩
end
def NB (w : World) (b : Nat) (v0 v1 v2 v3 v4 v5 v6 v7 v8 : Value) : Prop := b < w.heap.size ∧ (∀ o, w.frozen? ⟨b, o, none⟩ = false) ∧ w.cell? ⟨b, 0, none⟩ = some v0 ∧ w.cell? ⟨b, 1, none⟩ = some v1 ∧ w.cell? ⟨b, 2, none⟩ = some v2 ∧ w.cell? ⟨b, 3, none⟩ = some v3 ∧ w.cell? ⟨b, 4, none⟩ = some v4 ∧ w.cell? ⟨b, 5, none⟩ = some v5 ∧ w.cell? ⟨b, 6, none⟩ = some v6 ∧ w.cell? ⟨b, 7, none⟩ = some v7 ∧ w.cell? ⟨b, 8, none⟩ = some v8
section
variable {w w' : World} {b c : Nat} {v0 v1 v2 v3 v4 v5 v6 v7 v8 : Value}
theorem NB.block (h : NB w b v0 v1 v2 v3 v4 v5 v6 v7 v8) (hs : w.heap.size ≤ w'.heap.size) (hb : w'.heap[b]? = w.heap[b]?) : NB w' b v0 v1 v2 v3 v4 v5 v6 v7 v8 := by
 obtain ⟨l, f, c0, c1, c2, c3, c4, c5, c6, c7, c8⟩ := h
 have e : ∀ o, w'.cell? ⟨b, o, none⟩ = w.cell? ⟨b, o, none⟩ := fun o => World.cell?_of_block hb
 exact ⟨by omega, fun o => (World.frozen?_of_block hb).trans (f o), (e 0).trans c0, (e 1).trans c1, (e 2).trans c2, (e 3).trans c3, (e 4).trans c4, (e 5).trans c5, (e 6).trans c6, (e 7).trans c7, (e 8).trans c8⟩
theorem NB.on (h : NB w b v0 v1 v2 v3 v4 v5 v6 v7 v8) (k : Bel w w') : NB w' b v0 v1 v2 v3 v4 v5 v6 v7 v8 := h.block k.size (Below.block k b h.1)
theorem NB.oth (h : NB w b v0 v1 v2 v3 v4 v5 v6 v7 v8) (k : Oth c w w') (hn : b ≠ c) : NB w' b v0 v1 v2 v3 v4 v5 v6 v7 v8 := h.block k.size (k.block b h.1 hn)
theorem NB.new (w : World) (t : TypeId) : NB (w.alloc (.cells #[v0, v1, v2, v3, v4, v5, v6, v7, v8] t)) w.heap.size v0 v1 v2 v3 v4 v5 v6 v7 v8 :=
 ⟨by simp, fun o => by simp, by simp, by simp, by simp, by simp, by simp, by simp, by simp, by simp, by simp⟩
theorem NB.far (h : NB w b v0 v1 v2 v3 v4 v5 v6 v7 v8) {b' : Nat} (o : Nat) (u : Value) (hn : b' ≠ b) : NB (w.setCell ⟨b', o, none⟩ u) b v0 v1 v2 v3 v4 v5 v6 v7 v8 :=
 h.block (by simp) (set_block o u hn)
theorem NB.put0 (h : NB w b v0 v1 v2 v3 v4 v5 v6 v7 v8) (u : Value) : NB (w.setCell ⟨b, 0, none⟩ u) b u v1 v2 v3 v4 v5 v6 v7 v8 := by
 obtain ⟨l, f, c0, c1, c2, c3, c4, c5, c6, c7, c8⟩ := h
 exact ⟨by simpa using l, fun o => by simp [f], by simp [c0, go_sem], by simp [c1, go_sem], by simp [c2, go_sem], by simp [c3, go_sem], by simp [c4, go_sem], by simp [c5, go_sem], by simp [c6, go_sem], by simp [c7, go_sem], by simp [c8, go_sem]⟩
theorem NB.put1 (h : NB w b v0 v1 v2 v3 v4 v5 v6 v7 v8) (u : Value) : NB (w.setCell ⟨b, 1, none⟩ u) b v0 u v2 v3 v4 v5 v6 v7 v8 := by
 obtain ⟨l, f, c0, c1, c2, c3, c4, c5, c6, c7, c8⟩ := h
 exact ⟨by simpa using l, fun o => by simp [f], by simp [c0, go_sem], by simp [c1, go_sem], by simp [c2, go_sem], by simp [c3, go_sem], by simp [c4, go_sem], by simp [c5, go_sem], by simp [c6, go_sem], by simp [c7, go_sem], by simp [c8, go_sem]⟩
theorem NB.put2 (h : NB w b v0 v1 v2 v3 v4 v5 v6 v7 v8) (u : Value) : NB (w.setCell ⟨b, 2, none⟩ u) b v0 v1 u v3 v4 v5 v6 v7 v8 := by
 obtain ⟨l, f, c0, c1, c2, c3, c4, c5, c6, c7, c8⟩ := h
 exact ⟨by simpa using l, fun o => by simp [f], by simp [c0, go_sem], by simp [c1, go_sem], by simp [c2, go_sem], by simp [c3, go_sem], by simp [c4, go_sem], by simp [c5, go_sem], by simp [c6, go_sem], by simp [c7, go_sem], by simp [c8, go_sem]⟩
theorem NB.put3 (h : NB w b v0 v1 v2 v3 v4 v5 v6 v7 v8) (u : Value) : NB (w.setCell ⟨b, 3, none⟩ u) b v0 v1 v2 u v4 v5 v6 v7 v8 := by
 obtain ⟨l, f, c0, c1, c2, c3, c4, c5, c6, c7, c8⟩ := h
 exact ⟨by simpa using l, fun o => by simp [f], by simp [c0, go_sem], by simp [c1, go_sem], by simp [c2, go_sem], by simp [c3, go_sem], by simp [c4, go_sem], by simp [c5, go_sem], by simp [c6, go_sem], by simp [c7, go_sem], by simp [c8, go_sem]⟩
theorem NB.put4 (h : NB w b v0 v1 v2 v3 v4 v5 v6 v7 v8) (u : Value) : NB (w.setCell ⟨b, 4, none⟩ u) b v0 v1 v2 v3 u v5 v6 v7 v8 := by
 obtain ⟨l, f, c0, c1, c2, c3, c4, c5, c6, c7, c8⟩ := h
 exact ⟨by simpa using l, fun o => by simp [f], by simp [c0, go_sem], by simp [c1, go_sem], by simp [c2, go_sem], by simp [c3, go_sem], by simp [c4, go_sem], by simp [c5, go_sem], by simp [c6, go_sem], by simp [c7, go_sem], by simp [c8, go_sem]⟩
theorem NB.put5 (h : NB w b v0 v1 v2 v3 v4 v5 v6 v7 v8) (u : Value) : NB (w.setCell ⟨b, 5, none⟩ u) b v0 v1 v2 v3 v4 u v6 v7 v8 := by
 obtain ⟨l, f, c0, c1, c2, c3, c4, c5, c6, c7, c8⟩ := h
 exact ⟨by simpa using l, fun o => by simp [f], by simp [c0, go_sem], by simp [c1, go_sem], by simp [c2, go_sem], by simp [c3, go_sem], by simp [c4, go_sem], by simp [c5, go_sem], by simp [c6, go_sem], by simp [c7, go_sem], by simp [c8, go_sem]⟩
theorem NB.put6 (h : NB w b v0 v1 v2 v3 v4 v5 v6 v7 v8) (u : Value) : NB (w.setCell ⟨b, 6, none⟩ u) b v0 v1 v2 v3 v4 v5 u v7 v8 := by
 obtain ⟨l, f, c0, c1, c2, c3, c4, c5, c6, c7, c8⟩ := h
 exact ⟨by simpa using l, fun o => by simp [f], by simp [c0, go_sem], by simp [c1, go_sem], by simp [c2, go_sem], by simp [c3, go_sem], by simp [c4, go_sem], by simp [c5, go_sem], by simp [c6, go_sem], by simp [c7, go_sem], by simp [c8, go_sem]⟩
theorem NB.put7 (h : NB w b v0 v1 v2 v3 v4 v5 v6 v7 v8) (u : Value) : NB (w.setCell ⟨b, 7, none⟩ u) b v0 v1 v2 v3 v4 v5 v6 u v8 := by
 obtain ⟨l, f, c0, c1, c2, c3, c4, c5, c6, c7, c8⟩ := h
 exact ⟨by simpa using l, fun o => by simp [f], by simp [c0, go_sem], by simp [c1, go_sem], by simp [c2, go_sem], by simp [c3, go_sem], by simp [c4, go_sem], by simp [c5, go_sem], by simp [c6, go_sem], by simp [c7, go_sem], by simp [c8, go_sem]⟩
theorem NB.put8 (h : NB w b v0 v1 v2 v3 v4 v5 v6 v7 v8) (u : Value) : NB (w.setCell ⟨b, 8, none⟩ u) b v0 v1 v2 v3 v4 v5 v6 v7 u := by
 obtain ⟨l, f, c0, c1, c2, c3, c4, c5, c6, c7, c8⟩ := h
 exact ⟨by simpa using l, fun o => by simp [f], by simp [c0, go_sem], by simp [c1, go_sem], by simp [c2, go_sem], by simp [c3, go_sem], by simp [c4, go_sem], by simp [c5, go_sem], by simp [c6, go_sem], by simp [c7, go_sem], by simp [c8, go_sem]⟩
theorem NB.there (h : NB w b v0 v1 v2 v3 v4 v5 v6 v7 v8) : w.there b 0 9 := by
 obtain ⟨l, f, c0, c1, c2, c3, c4, c5, c6, c7, c8⟩ := h
 intro j hj
 rcases (show j = 0 ∨ j = 1 ∨ j = 2 ∨ j = 3 ∨ j = 4 ∨ j = 5 ∨ j = 6 ∨ j = 7 ∨ j = 8 by omega) with rfl | rfl | rfl | rfl | rfl | rfl | rfl | rfl | rfl
 all_goals exact ⟨by simp [c0, c1, c2, c3, c4, c5, c6, c7, c8], f _⟩
end
def OwnE (w : World) (E : TypeId) (k : Nat) (v : Value) (L : List Nat) (ds : List (List Dat)) : Prop :=
 ∃ cs, w.ownsRow 0 E k v ds.length cs ∧ Dat.OwnFl w k L ds cs ∧ ∀ b, v.ownBlock = some b → b ∉ L
section
variable {w w' : World} {k c : Nat} {E : TypeId} {v : Value} {L : List Nat} {ds : List (List Dat)}
theorem OwnE.lt (h : OwnE w E k v L ds) : ∀ b, Blk v L b → b < w.heap.size := by
 obtain ⟨cs, h1, h2, -⟩ := h
 rintro b (hb | hb)
 ·
  exact (h1.lt b hb).2
 ·
  exact h2.lt b hb
theorem OwnE.keep (h : OwnE w E k v L ds) (hs : w.heap.size ≤ w'.heap.size) (hb : ∀ b, Blk v L b → w'.heap[b]? = w.heap[b]?) : OwnE w' E k v L ds := by
 obtain ⟨cs, h1, h2, h4⟩ := h
 refine ⟨cs, ⟨h1.1, ?_⟩, h2.keep hs (fun b hm => ⟨fun o => World.cell?_of_block (hb b (Or.inr hm)), fun o => World.frozen?_of_block (hb b (Or.inr hm))⟩), h4⟩
 rcases h1.2 with hn | ⟨g, cap, cur, rfl, hz, hg, r⟩
 ·
  exact Or.inl hn
 ·
  exact Or.inr ⟨g, cap, cur, rfl, hz, (hb g (Or.inl rfl)).trans hg, r⟩
theorem OwnE.oth (h : OwnE w E k v L ds) (ho : Oth c w w') (hn : ∀ b, Blk v L b → b ≠ c) : OwnE w' E k v L ds := h.keep ho.size fun b hm => ho.block b (h.lt b hm) (hn b hm)
theorem OwnE.nil (w : World) (E : TypeId) (k : Nat) : OwnE w E k (.slice none 0 0) [] [] := ⟨[], World.ownsRow_nil w 0 E k, ⟨rfl, rfl⟩, fun b h => by cases h⟩
theorem blk_nil {b : Nat} (h : Blk (.slice none 0 0) [] b) : False := by
 rcases h with h | h <;> cases h
theorem OwnE.row {S : Nat → Prop} (h : OwnE w E k v L ds) (hS : ∀ b, Blk v L b → S b) : ∃ A c, v = .slice A ds.length c ∧ Row w S k A c ds := by
 obtain ⟨cs, h1, h2, h4⟩ := h
 have hl := h2.len
 rcases h1.2 with ⟨rfl, h0⟩ | ⟨g, cap, cur, rfl, hz, hg, hn, hm, hsz, ht⟩
 ·
  obtain rfl : ds = [] := List.eq_nil_of_length_eq_zero h0
  exact ⟨none, 0, rfl, OwnRow.row (L := []) (fun b hb => by cases hb) (OwnRow.nil w k none 0 (by unfold maxLen; omega))⟩
 ·
  by_cases he : ds = []
  ·
   subst he
   exact ⟨_, cap, rfl, OwnRow.row (L := []) (fun b hb => by cases hb) (OwnRow.nil w k _ cap hm)⟩
  ·
   refine ⟨_, cap, rfl, OwnRow.row (L := g :: L) (fun b hb => ?_) ⟨hn, hm, Or.inr ⟨he, g, 0, L, rfl, (Array.getElem?_eq_some_iff.1 hg).1, fun i => ?_, rfl, h2.rows fun j hj => ?_⟩⟩⟩
   ·
    rcases List.mem_cons.1 hb with rfl | hb
    ·
     exact hS _ (Or.inl rfl)
    ·
     exact hS b (Or.inr hb)
   ·
    exact (World.ownsRow.frozenAt h1 i)
   ·
    rw [Nat.zero_add]
    exact World.ownsRow.cellAt h1 j (by omega)
theorem OwnE.val (h : OwnE w E k v L ds) : ∃ A c, v = .slice A ds.length c := by
 obtain ⟨A, c, h1, -⟩ := h.row (S := fun _ => True) (fun _ _ => trivial)
 exact ⟨A, c, h1⟩
def SrcE (w : World) (k : Nat) (A : Option Addr) (m : Nat) (M : List Nat) (es : List (List Dat)) (news : List Value) : Prop :=
 m = es.length ∧ (A = none → m = 0) ∧ Dat.OwnFl w k M es news ∧ ∀ ad, A = some ad → ∀ j u, news[j]? = some u → w.cell? (ad.add j) = some u
theorem SrcE.one {g : Nat} {vs : List Value} {M : List Nat} {d : List Dat} {t : TypeId} (hg : w.heap[g]? = some (.cells vs.toArray t)) (hv : Dat.OwnVals w M d vs) (hk : vs.length = k) : SrcE w k (some ⟨g, 0, none⟩) 1 M [d] vs := by
 refine ⟨rfl, (fun h => (by cases h)), ⟨M, [], vs, [], by simp, by simp, hk, hv, rfl, rfl⟩, fun ad hA j u hu => ?_⟩
 obtain rfl := Option.some.inj hA
 rw [addr_add]
 unfold World.cell?
 simp only [hg]
 simpa using hu
end
theorem wp_append_E {P : Program} {w : World} {o : Oper} {a : Act} {K : Act → World → Prop} {Q : Exit → Act → World → Prop} (s x : Operand) (t : TypeId) (ho : o.op = .call { callee := .builtin .append, args := #[s, x], argTypes := #[t, t] })
  (E : TypeId) (i : TypeInfo) (z : Value) (k bytes : Nat) (ht : P.underlying t = some (.slice E)) (hi : P.info? E = some i) (hz : i.zero = some z) (hsize : i.size = k) (hby : i.bytes = bytes) (hzs : z.cells.size = k) (hsz : 0 < k)
  {v : Value} {L : List Nat} {ds : List (List Dat)} (hD : OwnE w E k v L ds) {A : Option Addr} {m : Nat} {M : List Nat} {es : List (List Dat)} {news : List Value} (hS : SrcE w k A m M es news) (c : Nat) (hs : a.eval s = v) (hx : a.eval x = .slice A m c)
  (hLM : ∀ b, v.ownBlock = some b → b ∉ M) (hlen : (ds.length + m) * bytes ≤ 140737488355328) (hmax : ds.length + m ≤ maxLen)
  (h : ∀ v' w', OwnE w' E k v' (L ++ M) (ds ++ es) → w.grownBy w' v.ownBlock → (∀ b, v'.ownBlock = some b → v.ownBlock = some b ∨ w.heap.size ≤ b) → K (a.put o.dst v') w') : o.wp P a w K Q := by
 obtain ⟨cs, h1, h2, h4⟩ := hD
 obtain ⟨rfl, g2, g3, g5⟩ := hS
 refine wp_append_all s x t ho E i z k bytes ht hi hz hsize hby hzs hsz v ds.length cs hs h1 A es.length c news hx g3.len g2 g5 g3.oneCell hmax hlen fun v' w' q1 q2 q3 => h v' w' ⟨cs ++ news, by rw [List.length_append]; exact q1, ?_, fun b hb hm => ?_⟩ q2 q3
 ·
  have same : ∀ b, b < w.heap.size → v.ownBlock ≠ some b → SameB w w' b := fun b hb hne => by
   have e := q2.block b hb (fun q => hne q.symm)
   exact ⟨fun o => World.cell?_of_block e, fun o => World.frozen?_of_block e⟩
  exact Dat.OwnFl.append (h2.keep q2.size fun b hb => same b (h2.lt b hb) (fun q => h4 b q hb)) (g3.keep q2.size fun b hb => same b (g3.lt b hb) (fun q => hLM b q hb))
 ·
  rcases q3 b hb with q | q
  ·
   rcases List.mem_append.1 hm with hm | hm
   ·
    exact h4 b q hm
   ·
    exact hLM b q hm
  ·
   have : b < w.heap.size := by
    rcases List.mem_append.1 hm with hm | hm
    ·
     exact h2.lt b hm
    ·
     exact g3.lt b hm
   omega
theorem wpList_append_E {P : Program} {w : World} {ops : Array Oper} {rest : List Oper} {o : Oper} {a : Act} {Q : Exit → Act → World → Prop} (hg : o.guard = none) (s x : Operand) (t : TypeId) (ho : o.op = .call { callee := .builtin .append, args := #[s, x], argTypes := #[t, t] })
  (E : TypeId) (i : TypeInfo) (z : Value) (k bytes : Nat) (ht : P.underlying t = some (.slice E)) (hi : P.info? E = some i) (hz : i.zero = some z) (hsize : i.size = k) (hby : i.bytes = bytes) (hzs : z.cells.size = k) (hsz : 0 < k)
  {v : Value} {L : List Nat} {ds : List (List Dat)} (hD : OwnE w E k v L ds) {A : Option Addr} {m : Nat} {M : List Nat} {es : List (List Dat)} {news : List Value} (hS : SrcE w k A m M es news) (c : Nat) (hs : a.eval s = v) (hx : a.eval x = .slice A m c)
  (hLM : ∀ b, v.ownBlock = some b → b ∉ M) (hlen : (ds.length + m) * bytes ≤ 140737488355328) (hmax : ds.length + m ≤ maxLen)
  (h : ∀ v' w', OwnE w' E k v' (L ++ M) (ds ++ es) → w.grownBy w' v.ownBlock → (∀ b, v'.ownBlock = some b → v.ownBlock = some b ∨ w.heap.size ≤ b) → wpList P ops Q rest (a.put o.dst v') w') : wpList P ops Q (o :: rest) a w :=
 wpList_plain hg fun K hK => wp_append_E s x t ho E i z k bytes ht hi hz hsize hby hzs hsz hD hS c hs hx hLM hlen hmax fun v' w' h1 h2 h3 => hK _ _ (h v' w' h1 h2 h3)
theorem own_two {w : World} {g : Nat} {a b : ByteArray} {t : TypeId} (hg : w.heap[g]? = some (.cells #[.string a, .string b] t)) (ha : a.size ≤ maxLen) (hb : b.size ≤ maxLen) (y : Nat) (hy : y ≤ 2) :
  ∃ L, OwnRow w L 1 (some ⟨g, 0, none⟩) 2 (strsD ([a, b].take y)) ∧ ∀ x, x ∈ L → x = g := by
 by_cases h0 : y = 0
 ·
  subst h0
  exact ⟨[], OwnRow.nil w 1 _ 2 (by unfold maxLen; omega), fun x hx => by cases hx⟩
 ·
  have hl : ([a, b].take y).length = y := by simp; omega
  refine ⟨[g], ⟨by simp; omega, by unfold maxLen; omega, Or.inr ⟨by intro h; have := congrArg List.length h; simp at this; omega, g, 0, [], rfl, (Array.getElem?_eq_some_iff.1 hg).1, fun i => ?_, rfl, own_strs _ 0 (fun i hi => ?_) (fun x hx => ?_)⟩⟩, fun x hx => by simpa using hx⟩
  ·
   unfold World.frozen?
   simp [hg]
  ·
   rw [hl] at hi
   unfold World.cell?
   simp only [hg, Nat.zero_add]
   rcases (show i = 0 ∨ i = 1 by omega) with rfl | rfl
   ·
    simp
   ·
    simp
  ·
   have := List.mem_of_mem_take hx
   simp only [List.mem_cons, List.not_mem_nil, or_false] at this
   rcases this with rfl | rfl <;> assumption
structure UnS (w wx : World) (c : Nat) (A : Option Addr) (n cap b : Nat) (vR : Value) (LR : List Nat) (Rs : List TRecordType) (vG : Value) (Gs : List ByteArray) (vP : Value) (LP : List Nat) (Ps : List TProcedure) : Prop where
 box : TB wx b vR vG vP
 res : TB wx w.heap.size (.slice none 0 0) (.slice none 0 0) (.slice none 0 0)
 cur : Cur wx c A n cap
 oth : Oth c w wx
 ownR : OwnE wx 49 3 vR LR (Rs.map TRecordType.D)
 ownG : OwnE wx 9 1 vG [] (strsD Gs)
 ownP : OwnE wx 44 9 vP LP (Ps.map TProcedure.D)
 blkR : ∀ k, Blk vR LR k → w.heap.size < k ∧ k ≠ b
 blkG : ∀ k, Blk vG [] k → w.heap.size < k ∧ k ≠ b
 blkP : ∀ k, Blk vP LP k → w.heap.size < k ∧ k ≠ b ∧ ¬ Blk vR LR k ∧ ¬ Blk vG [] k
 wR : ∀ x ∈ Rs, Dat.wtL (TRecordType.D x) ≤ 100
 wG : ∀ x ∈ Gs, ByteArray.size x ≤ 20
 wP : ∀ x ∈ Ps, Dat.wtL (TProcedure.D x) ≤ (TProcedure.nm x).size + 40000 ∧ (TProcedure.nm x).size ≤ 20
structure UnT (w wx : World) (c : Nat) (A : Option Addr) (n cap b : Nat) (vR vG vP : Value) : Prop where
 box : TB wx b vR vG vP
 res : TB wx w.heap.size (.slice none 0 0) (.slice none 0 0) (.slice none 0 0)
 cur : Cur wx c A n cap
 oth : Oth c w wx
section
variable {w wx wy : World} {c : Nat} {A : Option Addr} {n cap b : Nat} {vR : Value} {LR : List Nat} {Rs : List TRecordType} {vG : Value} {Gs : List ByteArray} {vP : Value} {LP : List Nat} {Ps : List TProcedure}
theorem UnS.on (h : UnS w wx c A n cap b vR LR Rs vG Gs vP LP Ps) (hc : c < w.heap.size) (hb : b ≠ c) (k : Oth c wx wy) (hC : Cur wy c A n cap) : UnS w wy c A n cap b vR LR Rs vG Gs vP LP Ps :=
 ⟨h.box.oth k hb, h.res.oth k (by omega), hC, h.oth.trans k, h.ownR.oth k (fun x hx => by have := (h.blkR x hx).1; omega), h.ownG.oth k (fun x hx => by have := (h.blkG x hx).1; omega), h.ownP.oth k (fun x hx => by have := (h.blkP x hx).1; omega), h.blkR, h.blkG, h.blkP, h.wR, h.wG, h.wP⟩
theorem UnT.on (h : UnT w wx c A n cap b vR vG vP) (hc : c < w.heap.size) (hb : b ≠ c) (k : Oth c wx wy) (hC : Cur wy c A n cap) : UnT w wy c A n cap b vR vG vP :=
 ⟨h.box.oth k hb, h.res.oth k (by omega), hC, h.oth.trans k⟩
theorem UnS.bel (h : UnS w wx c A n cap b vR LR Rs vG Gs vP LP Ps) (hc : c < w.heap.size) (hb : b ≠ c) (k : Bel wx wy) : UnS w wy c A n cap b vR LR Rs vG Gs vP LP Ps := h.on hc hb (Oth.of_bel k) (h.cur.bel k)
theorem UnT.grown (h0 : Cur w c A n cap) (h : UnT w wx c A n cap b vR vG vP) {r : Option Nat} (hg : wx.grownBy wy r) (hr : ∀ k, r = some k → w.heap.size < k ∧ k ≠ b) : UnT w wy c A n cap b vR vG vP := by
 have hc := h0.1
 have hs := hg.size
 have hb := h.box.1
 have hz := h.res.1
 have hoz := h.oth.size
 have same : ∀ k, k < wx.heap.size → (r = some k → False) → wy.heap[k]? = wx.heap[k]? := fun k hk hn => hg.block k hk (fun e => hn e.symm)
 have O9 : Oth c w wy := ⟨hg.os.trans h.oth.os, hg.tape.trans h.oth.tape, hg.output.trans h.oth.output, by omega, fun k hk hkc => (same k (by omega) (fun e => by have := (hr _ e).1; omega)).trans (h.oth.block k hk hkc)⟩
 exact ⟨h.box.block hs (same b hb (fun e => (hr _ e).2 rfl)), h.res.block hs (same _ hz (fun e => by have := (hr _ e).1; omega)), h0.back h.cur O9 (same c (by omega) (fun e => by have := (hr _ e).1; omega)), O9⟩
theorem UnS.toT (h : UnS w wx c A n cap b vR LR Rs vG Gs vP LP Ps) : UnT w wx c A n cap b vR vG vP := ⟨h.box, h.res, h.cur, h.oth⟩
theorem UnT.recs (h0 : Cur w c A n cap) (h : UnT w wx c A n cap b vR (.slice none 0 0) (.slice none 0 0)) (hw : w.heap.size < b) {v9 : Value} {L9 : List Nat} {R9 : List TRecordType} (hO : OwnE wx 49 3 v9 L9 (R9.map TRecordType.D)) (hb9 : ∀ k, Blk v9 L9 k → w.heap.size < k ∧ k ≠ b) (hR : ∀ x ∈ R9, Dat.wtL (TRecordType.D x) ≤ 100) :
  UnS w (wx.setCell ⟨b, 0, none⟩ v9) c A n cap b v9 L9 R9 (.slice none 0 0) [] (.slice none 0 0) [] [] := by
 have hc := h0.1
 have O := h.oth.put (b := b) (by omega) 0 v9
 exact ⟨h.box.put0 _, h.res.far 0 _ (by omega), h0.back h.cur O (set_block 0 _ (by omega)), O, hO.keep (by simp) (fun x hx => set_block 0 _ (fun e => (hb9 x hx).2 e.symm)), OwnE.nil _ _ _, OwnE.nil _ _ _, hb9, (fun k hk => (blk_nil hk).elim), (fun k hk => (blk_nil hk).elim), hR, (fun x hx => (by cases hx)), (fun x hx => (by cases hx))⟩
theorem UnS.globs (h0 : Cur w c A n cap) (h : UnS w wx c A n cap b vR LR Rs (.slice none 0 0) [] (.slice none 0 0) [] []) (hw : w.heap.size < b) {v9 : Value} {G9 : List ByteArray} (hO : OwnE wx 9 1 v9 [] (strsD G9)) (hb9 : ∀ k, Blk v9 [] k → w.heap.size < k ∧ k ≠ b) (hG : ∀ x ∈ G9, ByteArray.size x ≤ 20) :
  UnS w (wx.setCell ⟨b, 1, none⟩ v9) c A n cap b vR LR Rs v9 G9 (.slice none 0 0) [] [] := by
 have hc := h0.1
 have O := h.oth.put (b := b) (by omega) 1 v9
 exact ⟨h.box.put1 _, h.res.far 1 _ (by omega), h0.back h.cur O (set_block 1 _ (by omega)), O, h.ownR.keep (by simp) (fun x hx => set_block 1 _ (fun e => (h.blkR x hx).2 e.symm)), hO.keep (by simp) (fun x hx => set_block 1 _ (fun e => (hb9 x hx).2 e.symm)), OwnE.nil _ _ _, h.blkR, hb9, fun k hk => (blk_nil hk).elim, h.wR, hG, (fun x hx => (by cases hx))⟩
theorem UnS.procs (h0 : Cur w c A n cap) (h : UnS w wx c A n cap b vR LR Rs vG Gs vP LP Ps) (hw : w.heap.size < b) (hg : wx.grownBy wy vP.ownBlock) {v9 : Value} {L9 : List Nat} {P9 : List TProcedure} (hO : OwnE wy 44 9 v9 L9 (P9.map TProcedure.D))
  (hb9 : ∀ k, Blk v9 L9 k → w.heap.size < k ∧ k ≠ b ∧ ¬ Blk vR LR k ∧ ¬ Blk vG [] k) (hP : ∀ x ∈ P9, Dat.wtL (TProcedure.D x) ≤ (TProcedure.nm x).size + 40000 ∧ (TProcedure.nm x).size ≤ 20) :
  UnS w (wy.setCell ⟨b, 2, none⟩ v9) c A n cap b vR LR Rs vG Gs v9 L9 P9 := by
 have hc := h0.1
 have q := UnT.grown h0 h.toT hg (fun k hk => by have := h.blkP k (Or.inl hk); exact ⟨this.1, this.2.1⟩)
 have O := q.oth.put (b := b) (by omega) 2 v9
 have hs := hg.size
 have same : ∀ k, k < wx.heap.size → (vP.ownBlock = some k → False) → (wy.setCell ⟨b, 2, none⟩ v9).heap[k]? = wx.heap[k]? ∨ k = b := fun k hk hn => by
  by_cases e : b = k
  ·
   exact Or.inr e.symm
  ·
   exact Or.inl ((set_block 2 _ e).trans (hg.block k hk (fun e => hn e.symm)))
 refine ⟨q.box.put2 _, q.res.far 2 _ (by omega), h0.back q.cur O (set_block 2 _ (by omega)), O, h.ownR.keep (by simpa using hs) (fun x hx => ?_), h.ownG.keep (by simpa using hs) (fun x hx => ?_), hO.keep (by simp) (fun x hx => set_block 2 _ (fun e => (hb9 x hx).2.1 e.symm)), h.blkR, h.blkG, hb9, h.wR, h.wG, hP⟩
 ·
  exact (same x (h.ownR.lt x hx) (fun e => (h.blkP x (Or.inl e)).2.2.1 hx)).resolve_right (h.blkR x hx).2
 ·
  exact (same x (h.ownG.lt x hx) (fun e => (h.blkP x (Or.inl e)).2.2.2 hx)).resolve_right (h.blkG x hx).2
end
def UnitP (w : World) (c : Nat) (A : Option Addr) (n cap : Nat) (e : Ending) (w' : World) : Prop :=
 ∃ (t : TUnit) (x0 x1 x2 : Value), e = .returned (.agg #[x0, x1, x2]) ∧ Dat.HoldVals w' (fun k => w.heap.size ≤ k ∧ k ≠ c ∧ k < w'.heap.size) t.D [x0, x1, x2] ∧ Dat.wtL t.D ≤ 1000000 ∧ Cur w' c A n cap ∧ Oth c w w'
theorem wtR_le {B : Nat} : ∀ (l : List (List Dat)), (∀ x ∈ l, Dat.wtL x ≤ B) → Dat.wtR l ≤ l.length * B
 | [], _ => by simp [Dat.wtR]
 | x :: r, h => by
  have h1 := h x (by simp)
  have h2 := wtR_le r (fun y hy => h y (by simp [hy]))
  simp only [Dat.wtR, List.length_cons, Nat.succ_mul]
  omega
theorem wt_strs {B : Nat} (l : List ByteArray) (h : ∀ x ∈ l, x.size ≤ B) : Dat.wtR (strsD l) ≤ l.length * B := by
 have := wtR_le (B := B) (strsD l) (fun x hx => by
  obtain ⟨s, hs, rfl⟩ := List.mem_map.1 hx
  simpa [Dat.wtL, Dat.wt] using h s hs)
 simpa using this
theorem UnS.fin {w wx : World} {c : Nat} {A : Option Addr} {n cap b : Nat} {vR : Value} {LR : List Nat} {Rs : List TRecordType} {vG : Value} {Gs : List ByteArray} {vP : Value} {LP : List Nat} {Ps : List TProcedure} (h0 : Cur w c A n cap) (h : UnS w wx c A n cap b vR LR Rs vG Gs vP LP Ps) (hR : Rs.length ≤ 3) (hG : Gs.length ≤ 2) (hP : Ps.length ≤ 3) :
  ∀ wz, wz = ((wx.setCell ⟨w.heap.size, 0, none⟩ vR).setCell ⟨w.heap.size, 1, none⟩ vG).setCell ⟨w.heap.size, 2, none⟩ vP → TB wz w.heap.size vR vG vP ∧ UnitP w c A n cap (.returned (.agg #[vR, vG, vP])) wz := by
 intro wz hwz
 have hc := h0.1
 have hsz : wz.heap.size = wx.heap.size := by rw [hwz]; simp
 have hsame : ∀ k, w.heap.size ≠ k → wz.heap[k]? = wx.heap[k]? := fun k hk => by
  rw [hwz, set_block 2 _ hk, set_block 1 _ hk, set_block 0 _ hk]
 have hO : Oth c w wz := by
  rw [hwz]
  exact ((h.oth.put (Nat.le_refl _) 0 _).put (Nat.le_refl _) 1 _).put (Nat.le_refl _) 2 _
 refine ⟨by rw [hwz]; exact ((h.res.put0 _).put1 _).put2 _, ?_⟩
 obtain ⟨A0, c0, rfl, r0⟩ := (h.ownR.keep (w' := wz) (by omega) (fun x hx => hsame x (by have := (h.blkR x hx).1; omega))).row (S := fun k => w.heap.size ≤ k ∧ k ≠ c ∧ k < wz.heap.size) (fun k hk => by have := (h.blkR k hk).1; have := h.ownR.lt k hk; omega)
 obtain ⟨A1, c1, rfl, r1⟩ := (h.ownG.keep (w' := wz) (by omega) (fun x hx => hsame x (by have := (h.blkG x hx).1; omega))).row (S := fun k => w.heap.size ≤ k ∧ k ≠ c ∧ k < wz.heap.size) (fun k hk => by have := (h.blkG k hk).1; have := h.ownG.lt k hk; omega)
 obtain ⟨A2, c2, rfl, r2⟩ := (h.ownP.keep (w' := wz) (by omega) (fun x hx => hsame x (by have := (h.blkP x hx).1; omega))).row (S := fun k => w.heap.size ≤ k ∧ k ≠ c ∧ k < wz.heap.size) (fun k hk => by have := (h.blkP k hk).1; have := h.ownP.lt k hk; omega)
 refine ⟨.mk Rs Gs Ps, _, _, _, rfl, by simp only [List.length_map]; exact TUnit.vals_mk r0 r1 r2, ?_, h0.back h.cur hO (hsame c (by omega)), hO⟩
 have w1 := wtR_le (B := 100) (Rs.map TRecordType.D) (fun x hx => by obtain ⟨y, hy, rfl⟩ := List.mem_map.1 hx; exact h.wR y hy)
 have w2 := wt_strs (B := 20) Gs h.wG
 have w3 := wtR_le (B := 40020) (Ps.map TProcedure.D) (fun x hx => by obtain ⟨y, hy, rfl⟩ := List.mem_map.1 hx; have := h.wP y hy; omega)
 rw [TUnit.D_mk]
 have e0 : Dat.wtR (Gs.map fun x => [Dat.str x]) = Dat.wtR (strsD Gs) := rfl
 simp only [Dat.wtL, Dat.wt, List.length_map, e0] at w1 w2 w3 ⊢
 have e1 : Rs.length * 100 ≤ 3 * 100 := Nat.mul_le_mul_right _ hR
 have e2 : Gs.length * 20 ≤ 2 * 20 := Nat.mul_le_mul_right _ hG
 have e3 : Ps.length * 40020 ≤ 3 * 40020 := Nat.mul_le_mul_right _ hP
 omega
end Go.Proofs.YtdacpljinffnaaaDoor
namespace Go.Proofs.YtdacpljinffnaaaDoor
set_option linter.unusedVariables false
set_option linter.unusedSimpArgs false
set_option maxRecDepth 100000
open Go.RowKit
def KeptN (N : Nat) (wa wb : World) : Prop := wa.heap.size ≤ wb.heap.size ∧ ∀ k, N ≤ k → k < wa.heap.size → wb.heap[k]? = wa.heap[k]?
theorem KeptN.of_oth {N c : Nat} {wa wb : World} (hc : c < N) (h : Oth c wa wb) : KeptN N wa wb := ⟨h.size, fun k hk hl => h.block k hl (by omega)⟩
theorem KeptN.obj {N g : Nat} {wa wb : World} {o : Obj} (h : KeptN N wa wb) (hN : N ≤ g) (hg : wa.heap[g]? = some o) : wb.heap[g]? = some o :=
 (h.2 g hN (Array.getElem?_eq_some_iff.1 hg).1).trans hg
theorem rowT_obj {w : World} {g K : Nat} {t : TypeId} (l : List ByteArray) (hg : w.heap[g]? = some (.cells (l.map Value.string).toArray t)) (h : l.all (fun x => decide (x.size ≤ K)) = true) : RowT w g l.length K := by
 refine ⟨(Array.getElem?_eq_some_iff.1 hg).1, fun j hj => ⟨l[j], ?_, ?_⟩⟩
 ·
  have := List.all_eq_true.1 h l[j] (List.getElem_mem hj)
  simpa using this
 ·
  unfold World.cell?
  simp [hg, hj]
theorem rowP_obj {P : Int → Prop} {w : World} {g : Nat} {t : TypeId} (l : List Int) (hg : w.heap[g]? = some (.cells (l.map (Value.int .i64)).toArray t)) (h : ∀ x ∈ l, P x) : RowP P w g l.length := by
 refine ⟨(Array.getElem?_eq_some_iff.1 hg).1, fun j hj => ⟨l[j], h _ (List.getElem_mem hj), ?_⟩⟩
 unfold World.cell?
 simp [hg, hj]
theorem infoRec : (Tryd.prog.info? 49).map (fun i => (i.zero, i.size, i.bytes)) = some (some (.agg #[.string ByteArray.empty, .slice none 0 0, .int .i64 0]), 3, 48) := by kernel_rfl
theorem take_two (a b : ByteArray) {y : Nat} (h : y ≤ 2) : ([a, b].take y).length = y := by simp; omega
theorem ownfl_strs {w : World} : ∀ (l : List ByteArray), (∀ x ∈ l, x.size ≤ maxLen) → Dat.OwnFl w 1 [] (strsD l) (l.map Value.string)
 | [], _ => ⟨rfl, rfl⟩
 | x :: r, h => ⟨[], [], [.string x], r.map Value.string, rfl, rfl, rfl, ⟨[], [], rfl, Dat.own_str.2 ⟨rfl, rfl, h x (by simp)⟩, rfl⟩, ownfl_strs r (fun y hy => h y (by simp [hy]))⟩
theorem own_cut {w : World} {g : Nat} {a b : ByteArray} (hg : w.heap[g]? = some (.cells #[.string a, .string b] 9)) (ha : a.size ≤ maxLen) (hb : b.size ≤ maxLen) (y : Nat) (hy : y ≤ 2) : OwnE w 9 1 (.slice (some ⟨g, 0, none⟩) y 2) [] (strsD ([a, b].take y)) := by
 have hl : (strsD ([a, b].take y)).length = y := by rw [List.length_map, take_two a b hy]
 refine ⟨([a, b].take y).map Value.string, ⟨?_, ?_⟩, ownfl_strs _ (fun x hx => ?_), fun _ _ h => by cases h⟩
 ·
  rw [hl, List.length_map, take_two a b hy, Nat.mul_one]
 ·
  rw [hl]
  exact Or.inr ⟨g, 2, _, rfl, Nat.zero_le _, hg, hy, by unfold maxLen; omega, rfl, by rw [Nat.mul_one, List.map_take]; rfl⟩
 ·
  have := List.mem_of_mem_take hx
  simp only [List.mem_cons, List.not_mem_nil, or_false] at this
  rcases this with rfl | rfl <;> assumption
structure PrT (w wx : World) (c : Nat) (A : Option Addr) (n cap b : Nat) (vR : Value) (LR : List Nat) (Rs : List TRecordType) (vG : Value) (Gs : List ByteArray) (vP : Value) (LP : List Nat) (Ps : List TProcedure) (N r : Nat) (x : ByteArray) (g1 y1 g2 y2 : Nat) (vK : Value) : Prop where
 uns : UnS w wx c A n cap b vR LR Rs vG Gs vP LP Ps
 box : NB wx r (.string x) (.slice (some ⟨g1, 0, none⟩) y1 2) (.slice (some ⟨g2, 0, none⟩) y2 2) (.int .i64 14) (.string ByteArray.empty) (.int .i64 0) (.int .i64 0) vK (.int .i64 0)
 o1 : wx.heap[g1]? = some (.cells #[.string ⟨#[112]⟩, .string ⟨#[113]⟩] 9)
 o2 : wx.heap[g2]? = some (.cells #[.string ⟨#[120]⟩, .string ⟨#[121]⟩] 9)
 bnd : b < N ∧ c < N ∧ w.heap.size < N ∧ N ≤ r ∧ N ≤ g1 ∧ N ≤ g2 ∧ r ≠ g1 ∧ r ≠ g2 ∧ y1 ≤ 2 ∧ y2 ≤ 2 ∧ x.size ≤ 20
 old : ∀ k, Blk vR LR k ∨ Blk vG [] k ∨ Blk vP LP k → k < N
structure PrS (w wx : World) (c : Nat) (A : Option Addr) (n cap b : Nat) (vR : Value) (LR : List Nat) (Rs : List TRecordType) (vG : Value) (Gs : List ByteArray) (vP : Value) (LP : List Nat) (Ps : List TProcedure) (N r : Nat) (x : ByteArray) (g1 y1 g2 y2 : Nat) (vK : Value) (LK : List Nat) (ts : List TExpr) : Prop where
 prt : PrT w wx c A n cap b vR LR Rs vG Gs vP LP Ps N r x g1 y1 g2 y2 vK
 kids : OwnE wx 42 5 vK LK (ts.map TExpr.D)
 bk : ∀ k, Blk vK LK k → N ≤ k ∧ k ≠ r ∧ k ≠ g1 ∧ k ≠ g2
 wK : ∀ t ∈ ts, Dat.wtL (TExpr.D t) ≤ wE 2
section
variable {w wx wy : World} {c : Nat} {A : Option Addr} {n cap b : Nat} {vR : Value} {LR : List Nat} {Rs : List TRecordType} {vG : Value} {Gs : List ByteArray} {vP : Value} {LP : List Nat} {Ps : List TProcedure} {N r : Nat} {x : ByteArray} {g1 y1 g2 y2 : Nat} {vK : Value} {LK : List Nat} {ts : List TExpr}
theorem PrT.on (h : PrT w wx c A n cap b vR LR Rs vG Gs vP LP Ps N r x g1 y1 g2 y2 vK) (hc : c < w.heap.size) (hb : b ≠ c) (k : Oth c wx wy) (hC : Cur wy c A n cap) : PrT w wy c A n cap b vR LR Rs vG Gs vP LP Ps N r x g1 y1 g2 y2 vK := by
 have hn := h.bnd
 exact ⟨h.uns.on hc hb k hC, h.box.oth k (by omega), (KeptN.of_oth hn.2.1 k).obj hn.2.2.2.2.1 h.o1, (KeptN.of_oth hn.2.1 k).obj hn.2.2.2.2.2.1 h.o2, hn, h.old⟩
theorem PrS.on (h : PrS w wx c A n cap b vR LR Rs vG Gs vP LP Ps N r x g1 y1 g2 y2 vK LK ts) (hc : c < w.heap.size) (hb : b ≠ c) (k : Oth c wx wy) (hC : Cur wy c A n cap) : PrS w wy c A n cap b vR LR Rs vG Gs vP LP Ps N r x g1 y1 g2 y2 vK LK ts :=
 ⟨h.prt.on hc hb k hC, h.kids.oth k (fun q hq => by have := (h.bk q hq).1; have := h.prt.bnd.2.1; omega), h.bk, h.wK⟩
theorem PrS.bel (h : PrS w wx c A n cap b vR LR Rs vG Gs vP LP Ps N r x g1 y1 g2 y2 vK LK ts) (hc : c < w.heap.size) (hb : b ≠ c) (k : Bel wx wy) : PrS w wy c A n cap b vR LR Rs vG Gs vP LP Ps N r x g1 y1 g2 y2 vK LK ts := h.on hc hb (Oth.of_bel k) (h.prt.uns.cur.bel k)
theorem UnS.since (h0 : Cur w c A n cap) (h : UnS w wx c A n cap b vR LR Rs vG Gs vP LP Ps) (hN : b < N ∧ w.heap.size < N) (old : ∀ k, Blk vR LR k ∨ Blk vG [] k ∨ Blk vP LP k → k < N) (ho : wy.os = wx.os ∧ wy.tape = wx.tape ∧ wy.output = wx.output) (hs : wx.heap.size ≤ wy.heap.size) (hk : ∀ k, k < N → k < wx.heap.size → wy.heap[k]? = wx.heap[k]?) : UnS w wy c A n cap b vR LR Rs vG Gs vP LP Ps := by
 have hc := h0.1
 have hz := h.oth.size
 have hb := h.box.1
 have hr := h.res.1
 have O9 : Oth c w wy := ⟨ho.1.trans h.oth.os, ho.2.1.trans h.oth.tape, ho.2.2.trans h.oth.output, by omega, fun k hl hkc => (hk k (by omega) (by omega)).trans (h.oth.block k hl hkc)⟩
 exact ⟨h.box.block hs (hk b hN.1 hb), h.res.block hs (hk _ hN.2 hr), h0.back h.cur O9 (hk c (by omega) (by omega)), O9, h.ownR.keep hs (fun k hq => hk k (old k (Or.inl hq)) (h.ownR.lt k hq)), h.ownG.keep hs (fun k hq => hk k (old k (Or.inr (Or.inl hq))) (h.ownG.lt k hq)), h.ownP.keep hs (fun k hq => hk k (old k (Or.inr (Or.inr hq))) (h.ownP.lt k hq)), h.blkR, h.blkG, h.blkP, h.wR, h.wG, h.wP⟩
theorem PrT.grown (h0 : Cur w c A n cap) (h : PrT w wx c A n cap b vR LR Rs vG Gs vP LP Ps N r x g1 y1 g2 y2 vK) {q : Option Nat} (hg : wx.grownBy wy q) (hq : ∀ k, q = some k → N ≤ k ∧ k ≠ r ∧ k ≠ g1 ∧ k ≠ g2) : PrT w wy c A n cap b vR LR Rs vG Gs vP LP Ps N r x g1 y1 g2 y2 vK := by
 have hn := h.bnd
 have e1 := hg.block g1 (Array.getElem?_eq_some_iff.1 h.o1).1 (fun e => (hq _ e.symm).2.2.1 rfl)
 have e2 := hg.block g2 (Array.getElem?_eq_some_iff.1 h.o2).1 (fun e => (hq _ e.symm).2.2.2 rfl)
 exact ⟨UnS.since h0 h.uns ⟨hn.1, hn.2.2.1⟩ h.old ⟨hg.os, hg.tape, hg.output⟩ hg.size (fun k hk hl => hg.block k hl (fun e => by have := (hq _ e.symm).1; omega)), h.box.block hg.size (hg.block r h.box.1 (fun e => (hq _ e.symm).2.1 rfl)), e1.trans h.o1, e2.trans h.o2, hn, h.old⟩
theorem PrT.kid (h0 : Cur w c A n cap) (h : PrT w wx c A n cap b vR LR Rs vG Gs vP LP Ps N r x g1 y1 g2 y2 vK) {v9 : Value} {L9 : List Nat} {t9 : List TExpr} (hO : OwnE wx 42 5 v9 L9 (t9.map TExpr.D)) (hb9 : ∀ k, Blk v9 L9 k → N ≤ k ∧ k ≠ r ∧ k ≠ g1 ∧ k ≠ g2) (hw : ∀ t ∈ t9, Dat.wtL (TExpr.D t) ≤ wE 2) :
  PrS w (wx.setCell ⟨r, 7, none⟩ v9) c A n cap b vR LR Rs vG Gs vP LP Ps N r x g1 y1 g2 y2 v9 L9 t9 := by
 have hn := h.bnd
 have hB : Below N wx (wx.setCell ⟨r, 7, none⟩ v9) := Below.setCell (Below.refl _ _) (show N ≤ r from hn.2.2.2.1) v9
 exact ⟨⟨UnS.since h0 h.uns ⟨hn.1, hn.2.2.1⟩ h.old ⟨hB.os, hB.tape, hB.output⟩ (by simp) (fun k hk hl => set_block 7 _ (by omega)), h.box.put7 _, (set_block 7 _ hn.2.2.2.2.2.2.1).trans h.o1, (set_block 7 _ hn.2.2.2.2.2.2.2.1).trans h.o2, hn, h.old⟩, hO.keep (by simp) (fun k hk => set_block 7 _ (fun e => (hb9 k hk).2.1 e.symm)), hb9, hw⟩
theorem OwnE.ownRow {E : TypeId} {k : Nat} {v : Value} {L : List Nat} {ds : List (List Dat)} (h : OwnE wx E k v L ds) : ∃ A c L', v = .slice A ds.length c ∧ OwnRow wx L' k A c ds ∧ ∀ b, b ∈ L' → Blk v L b := by
 obtain ⟨cs, h1, h2, h4⟩ := h
 have hl := h2.len
 rcases h1.2 with ⟨rfl, h0⟩ | ⟨g, cap, cur, rfl, hz, hg, hn, hm, hsz, ht⟩
 ·
  obtain rfl : ds = [] := List.eq_nil_of_length_eq_zero h0
  exact ⟨none, 0, [], rfl, OwnRow.nil wx k none 0 (by unfold maxLen; omega), fun b hb => by cases hb⟩
 ·
  by_cases he : ds = []
  ·
   subst he
   exact ⟨_, cap, [], rfl, OwnRow.nil wx k _ cap hm, fun b hb => by cases hb⟩
  ·
   refine ⟨_, cap, g :: L, rfl, ⟨hn, hm, Or.inr ⟨he, g, 0, L, rfl, (Array.getElem?_eq_some_iff.1 hg).1, fun i => (World.ownsRow.frozenAt h1 i), rfl, h2.rows fun j hj => ?_⟩⟩, fun b hb => ?_⟩
   ·
    rw [Nat.zero_add]
    exact World.ownsRow.cellAt h1 j (by omega)
   ·
    rcases List.mem_cons.1 hb with rfl | hb
    ·
     exact Or.inl rfl
    ·
     exact Or.inr hb
theorem PrS.val (h : PrS w wx c A n cap b vR LR Rs vG Gs vP LP Ps N r x g1 y1 g2 y2 vK LK ts) (hl : ts.length ≤ 3) : ∃ M, Dat.OwnVals wx M (TProcedure.D (.mk x (([⟨#[112]⟩, ⟨#[113]⟩] : List ByteArray).take y1) (([⟨#[120]⟩, ⟨#[121]⟩] : List ByteArray).take y2) 14 ByteArray.empty 0 0 ts 0)) [.string x, .slice (some ⟨g1, 0, none⟩) y1 2, .slice (some ⟨g2, 0, none⟩) y2 2, .int .i64 14, .string ByteArray.empty, .int .i64 0, .int .i64 0, vK, .int .i64 0] ∧ (∀ k, k ∈ M → N ≤ k) ∧
  Dat.wtL (TProcedure.D (.mk x (([⟨#[112]⟩, ⟨#[113]⟩] : List ByteArray).take y1) (([⟨#[120]⟩, ⟨#[121]⟩] : List ByteArray).take y2) 14 ByteArray.empty 0 0 ts 0)) ≤ 40000 := by
 obtain ⟨hn1, hn2, hn3, hn4, hn5, hn6, hn7, hn8, hy1, hy2, hx⟩ := h.prt.bnd
 obtain ⟨M1, m1, m2⟩ := own_two h.prt.o1 (by decide +kernel) (by decide +kernel) y1 hy1
 obtain ⟨M2, m3, m4⟩ := own_two h.prt.o2 (by decide +kernel) (by decide +kernel) y2 hy2
 obtain ⟨A5, c5, M3, rfl, m5, m6⟩ := h.kids.ownRow
 have i0 : InI 0 := by unfold InI; omega
 have hv := TProcedure.own_mk (x0 := x) (x3 := 14) (x4 := ByteArray.empty) (x5 := 0) (x6 := 0) (x8 := 0) (by unfold maxLen; omega) m1 m3 (by unfold InI; omega) (by decide) i0 i0 m5 i0
 rw [take_two _ _ hy1, take_two _ _ hy2] at hv
 rw [List.length_map]
 refine ⟨_, hv, fun k hk => ?_, ?_⟩
 ·
  simp only [List.mem_append] at hk
  rcases hk with hk | hk | hk
  ·
   rw [m2 k hk]; exact hn5
  ·
   rw [m4 k hk]; exact hn6
  ·
   exact (h.bk k (m6 k hk)).1
 ·
  have q1 := wt_strs (B := 20) (([⟨#[112]⟩, ⟨#[113]⟩] : List ByteArray).take y1) (fun s hs => by have := List.mem_of_mem_take hs; simp only [List.mem_cons, List.not_mem_nil, or_false] at this; rcases this with rfl | rfl <;> decide)
  have q2 := wt_strs (B := 20) (([⟨#[120]⟩, ⟨#[121]⟩] : List ByteArray).take y2) (fun s hs => by have := List.mem_of_mem_take hs; simp only [List.mem_cons, List.not_mem_nil, or_false] at this; rcases this with rfl | rfl <;> decide)
  have q3 := wts_le ts h.wK
  have q4 : ts.length * wE 2 ≤ 3 * wE 2 := Nat.mul_le_mul_right _ hl
  have q5 : wE 2 = 7840 := by decide
  have e0 : ∀ l : List ByteArray, Dat.wtR (l.map fun x => [Dat.str x]) = Dat.wtR (strsD l) := fun l => rfl
  have e1 : ByteArray.empty.size = 0 := rfl
  rw [q5] at q4
  rw [q5] at q3
  rw [take_two _ _ hy1] at q1
  rw [take_two _ _ hy2] at q2
  rw [TProcedure.D_mk]
  simp only [Dat.wtL, Dat.wt, List.length_map, e0, e1, take_two _ _ hy1, take_two _ _ hy2]
  omega
end
theorem PrT.cur {w wx : World} {c : Nat} {A : Option Addr} {n cap b : Nat} {vR : Value} {LR : List Nat} {Rs : List TRecordType} {vG : Value} {Gs : List ByteArray} {vP : Value} {LP : List Nat} {Ps : List TProcedure} {N r : Nat} {x : ByteArray} {g1 y1 g2 y2 : Nat} {vK : Value} (h : PrT w wx c A n cap b vR LR Rs vG Gs vP LP Ps N r x g1 y1 g2 y2 vK) : Cur wx c A n cap := h.uns.cur
theorem PrS.cur {w wx : World} {c : Nat} {A : Option Addr} {n cap b : Nat} {vR : Value} {LR : List Nat} {Rs : List TRecordType} {vG : Value} {Gs : List ByteArray} {vP : Value} {LP : List Nat} {Ps : List TProcedure} {N r : Nat} {x : ByteArray} {g1 y1 g2 y2 : Nat} {vK : Value} {LK : List Nat} {ts : List TExpr} (h : PrS w wx c A n cap b vR LR Rs vG Gs vP LP Ps N r x g1 y1 g2 y2 vK LK ts) : Cur wx c A n cap := h.prt.uns.cur
theorem nb_obj {w : World} {r : Nat} {t : TypeId} {v0 v1 v2 v3 v4 v5 v6 v7 v8 : Value} (h : w.heap[r]? = some (.cells #[v0, v1, v2, v3, v4, v5, v6, v7, v8] t)) : NB w r v0 v1 v2 v3 v4 v5 v6 v7 v8 := by
 refine ⟨(Array.getElem?_eq_some_iff.1 h).1, fun o => ?_, ?_, ?_, ?_, ?_, ?_, ?_, ?_, ?_, ?_⟩
 ·
  unfold World.frozen?; simp [h]
 all_goals (unfold World.cell?; simp [h])
theorem PrS.start {w wa : World} {c : Nat} {A : Option Addr} {n cap b : Nat} {vR : Value} {LR : List Nat} {Rs : List TRecordType} {vG : Value} {Gs : List ByteArray} {vP : Value} {LP : List Nat} {Ps : List TProcedure} {N r : Nat} {x : ByteArray} {g1 y1 g2 y2 : Nat} (h0 : Cur w c A n cap) (h : UnS w wa c A n cap b vR LR Rs vG Gs vP LP Ps) (hbN : b < N) (hcN : c < N) (hwN : w.heap.size < N) (old : ∀ k, Blk vR LR k ∨ Blk vG [] k ∨ Blk vP LP k → k < N)
  (hr : N ≤ r) {t : TypeId} {v0 v1 v2 v3 v4 v5 v6 v7 v8 : Value} (hro : wa.heap[r]? = some (.cells #[v0, v1, v2, v3, v4, v5, v6, v7, v8] t)) (hg1 : N ≤ g1) (o1 : wa.heap[g1]? = some (.cells #[.string ⟨#[112]⟩, .string ⟨#[113]⟩] 9)) (hg2 : N ≤ g2) (o2 : wa.heap[g2]? = some (.cells #[.string ⟨#[120]⟩, .string ⟨#[121]⟩] 9)) (hy1 : y1 ≤ 2) (hy2 : y2 ≤ 2) (hx : x.size ≤ 20) :
  ∀ wz, wz = ((((((((wa.setCell ⟨r, 0, none⟩ (.string x)).setCell ⟨r, 1, none⟩ (.slice (some ⟨g1, 0, none⟩) y1 2)).setCell ⟨r, 2, none⟩ (.slice (some ⟨g2, 0, none⟩) y2 2)).setCell ⟨r, 3, none⟩ (.int .i64 14)).setCell ⟨r, 4, none⟩ (.string ByteArray.empty)).setCell ⟨r, 5, none⟩ (.int .i64 0)).setCell ⟨r, 6, none⟩ (.int .i64 0)).setCell ⟨r, 7, none⟩ (.slice none 0 0)).setCell ⟨r, 8, none⟩ (.int .i64 0) →
   PrS w wz c A n cap b vR LR Rs vG Gs vP LP Ps N r x g1 y1 g2 y2 (.slice none 0 0) [] [] := by
 intro wz hwz
 have hsame : ∀ k, r ≠ k → wz.heap[k]? = wa.heap[k]? := fun k hk => by
  rw [hwz, set_block 8 _ hk, set_block 7 _ hk, set_block 6 _ hk, set_block 5 _ hk, set_block 4 _ hk, set_block 3 _ hk, set_block 2 _ hk, set_block 1 _ hk, set_block 0 _ hk]
 have hB : Below N wa wz := by
  rw [hwz]
  exact ((((((((Below.setCell (Below.refl _ _) hr _).setCell hr _).setCell hr _).setCell hr _).setCell hr _).setCell hr _).setCell hr _).setCell hr _).setCell hr _
 have n1 : r ≠ g1 := fun e => by rw [e, o1] at hro; have q := congrArg (fun o => match o with | some (Obj.cells cs _ _) => cs.size | _ => 0) hro; simp at q
 have n2 : r ≠ g2 := fun e => by rw [e, o2] at hro; have q := congrArg (fun o => match o with | some (Obj.cells cs _ _) => cs.size | _ => 0) hro; simp at q
 have hs : wa.heap.size ≤ wz.heap.size := by rw [hwz]; simp
 exact ⟨⟨UnS.since h0 h ⟨hbN, hwN⟩ old ⟨hB.os, hB.tape, hB.output⟩ hs (fun k hk hl => hsame k (by omega)), by rw [hwz]; exact (((((((((nb_obj hro).put0 _).put1 _).put2 _).put3 _).put4 _).put5 _).put6 _).put7 _).put8 _, (hsame g1 n1).trans o1, (hsame g2 n2).trans o2, ⟨hbN, hcN, hwN, hr, hg1, hg2, n1, n2, hy1, hy2, hx⟩, old⟩, OwnE.nil _ _ _, (fun k hk => (blk_nil hk).elim), (fun t ht => (by cases ht))⟩
theorem OwnE.kind {w : World} {g n c : Nat} {L : List Nat} {ds : List (List Dat)} {x0 : ByteArray} {x1 x2 : List ByteArray} {x3 : Int} {x4 : ByteArray} {x5 x6 : Int} {x7 : List TExpr} {x8 : Int} (h : OwnE w 44 9 (.slice (some ⟨g, 0, none⟩) n c) L ((TProcedure.mk x0 x1 x2 x3 x4 x5 x6 x7 x8).D :: ds)) {y : Int} (hy : InI y) : OwnE (w.setCell ⟨g, 3, none⟩ (.int .i64 y)) 44 9 (.slice (some ⟨g, 0, none⟩) n c) L ((TProcedure.mk x0 x1 x2 y x4 x5 x6 x7 x8).D :: ds) := by
 obtain ⟨cs, h1, ⟨L1, L2, v1, v2, rfl, rfl, hl, q1, q2⟩, h4⟩ := h
 obtain ⟨A1, c1, M1, A2, c2, M2, A7, c7, M7, rfl, rfl, g0, g1, g2, g3, g4, g5, g6, g7, g8⟩ := TProcedure.vals_own q1
 rcases h1.2 with ⟨e, -⟩ | ⟨g', cap, cur, e, hz, hg, hn, hm, hsz, ht⟩
 ·
  cases e
 obtain ⟨rfl, rfl, rfl⟩ : g' = g ∧ n = (((TProcedure.mk x0 x1 x2 x3 x4 x5 x6 x7 x8).D :: ds).length) ∧ cap = c := by injection e with e1 e2 e3; injection e1 with e1; injection e1 with e1; exact ⟨e1.symm, e2, e3.symm⟩
 have hbl : ∀ b, b ∈ (M1 ++ (M2 ++ M7)) ++ L2 → b ≠ g' := fun b hb e => h4 g' rfl (by rw [← e]; exact hb)
 have same : ∀ b, b ∈ (M1 ++ (M2 ++ M7)) ++ L2 → SameB w (w.setCell ⟨g', 3, none⟩ (.int .i64 y)) b := fun b hb => ⟨fun o => World.cell?_of_block (set_block 3 _ (fun e => hbl b hb e.symm)), fun o => World.frozen?_of_block (set_block 3 _ (fun e => hbl b hb e.symm))⟩
 have hs : w.heap.size ≤ (w.setCell ⟨g', 3, none⟩ (.int .i64 y)).heap.size := by simp
 have r1 := OwnRow.keep hs (fun b hb => same b (by simp [hb])) g1
 have r2 := OwnRow.keep hs (fun b hb => same b (by simp [hb])) g2
 have r7 := OwnRow.keep hs (fun b hb => same b (by simp [hb])) g7
 have hheap : (w.setCell ⟨g', 3, none⟩ (.int .i64 y)).heap[g']? = some (.cells (cur.setIfInBounds 3 (.int .i64 y)) 44) := by
  unfold World.setCell
  simp only [hg]
  show (w.heap.modify g' _)[g']? = _
  rw [Array.getElem?_modify, if_pos rfl, hg]
  rfl
 refine ⟨_, ⟨?_, Or.inr ⟨g', cap, _, rfl, hz, hheap, hn, hm, by simpa using hsz, ?_⟩⟩, ⟨_, L2, _, v2, rfl, rfl, ?_, TProcedure.own_mk g0 r1 r2 hy g4 g5 g6 r7 g8, q2.keep hs (fun b hb => same b (by simp [hb]))⟩, h4⟩
 ·
  simpa using h1.1
 ·
  simp only [List.length_cons] at ht ⊢
  rw [Array.toList_setIfInBounds, List.take_set, ht]
  rfl
 ·
  rfl
theorem OwnE.name {w : World} {g n c : Nat} {L : List Nat} {ds : List (List Dat)} {x0 : ByteArray} {x1 x2 : List ByteArray} {x3 : Int} {x4 : ByteArray} {x5 x6 : Int} {x7 : List TExpr} {x8 : Int} (h : OwnE w 44 9 (.slice (some ⟨g, 0, none⟩) n c) L ((TProcedure.mk x0 x1 x2 x3 x4 x5 x6 x7 x8).D :: ds)) {y : ByteArray} (hy : y.size ≤ maxLen) : OwnE (w.setCell ⟨g, 0, none⟩ (.string y)) 44 9 (.slice (some ⟨g, 0, none⟩) n c) L ((TProcedure.mk y x1 x2 x3 x4 x5 x6 x7 x8).D :: ds) := by
 obtain ⟨cs, h1, ⟨L1, L2, v1, v2, rfl, rfl, hl, q1, q2⟩, h4⟩ := h
 obtain ⟨A1, c1, M1, A2, c2, M2, A7, c7, M7, rfl, rfl, g0, g1, g2, g3, g4, g5, g6, g7, g8⟩ := TProcedure.vals_own q1
 rcases h1.2 with ⟨e, -⟩ | ⟨g', cap, cur, e, hz, hg, hn, hm, hsz, ht⟩
 ·
  cases e
 obtain ⟨rfl, rfl, rfl⟩ : g' = g ∧ n = (((TProcedure.mk x0 x1 x2 x3 x4 x5 x6 x7 x8).D :: ds).length) ∧ cap = c := by injection e with e1 e2 e3; injection e1 with e1; injection e1 with e1; exact ⟨e1.symm, e2, e3.symm⟩
 have hbl : ∀ b, b ∈ (M1 ++ (M2 ++ M7)) ++ L2 → b ≠ g' := fun b hb e => h4 g' rfl (by rw [← e]; exact hb)
 have same : ∀ b, b ∈ (M1 ++ (M2 ++ M7)) ++ L2 → SameB w (w.setCell ⟨g', 0, none⟩ (.string y)) b := fun b hb => ⟨fun o => World.cell?_of_block (set_block 0 _ (fun e => hbl b hb e.symm)), fun o => World.frozen?_of_block (set_block 0 _ (fun e => hbl b hb e.symm))⟩
 have hs : w.heap.size ≤ (w.setCell ⟨g', 0, none⟩ (.string y)).heap.size := by simp
 have r1 := OwnRow.keep hs (fun b hb => same b (by simp [hb])) g1
 have r2 := OwnRow.keep hs (fun b hb => same b (by simp [hb])) g2
 have r7 := OwnRow.keep hs (fun b hb => same b (by simp [hb])) g7
 have hheap : (w.setCell ⟨g', 0, none⟩ (.string y)).heap[g']? = some (.cells (cur.setIfInBounds 0 (.string y)) 44) := by
  unfold World.setCell
  simp only [hg]
  show (w.heap.modify g' _)[g']? = _
  rw [Array.getElem?_modify, if_pos rfl, hg]
  rfl
 refine ⟨_, ⟨?_, Or.inr ⟨g', cap, _, rfl, hz, hheap, hn, hm, by simpa using hsz, ?_⟩⟩, ⟨_, L2, _, v2, rfl, rfl, ?_, TProcedure.own_mk hy r1 r2 g3 g4 g5 g6 r7 g8, q2.keep hs (fun b hb => same b (by simp [hb]))⟩, h4⟩
 ·
  simpa using h1.1
 ·
  simp only [List.length_cons] at ht ⊢
  rw [Array.toList_setIfInBounds, List.take_set, ht]
  rfl
 ·
  rfl
theorem OwnE.head {w : World} {E : TypeId} {k : Nat} {v : Value} {L : List Nat} {d : List Dat} {ds : List (List Dat)} (h : OwnE w E k v L (d :: ds)) : ∃ g n c, v = .slice (some ⟨g, 0, none⟩) n c ∧ 0 < n := by
 obtain ⟨cs, h1, -⟩ := h
 rcases h1.2 with ⟨-, e⟩ | ⟨g, cap, cur, rfl, -⟩
 ·
  cases e
 ·
  exact ⟨g, _, cap, rfl, by simp⟩
theorem OwnE.cell0 {w : World} {E : TypeId} {k g n c : Nat} {L : List Nat} {d : List Dat} {ds : List (List Dat)} (h : OwnE w E k (.slice (some ⟨g, 0, none⟩) n c) L (d :: ds)) (o : Nat) (ho : o < k) : ∃ v, w.cell? ⟨g, o, none⟩ = some v ∧ w.frozen? ⟨g, o, none⟩ = false := by
 obtain ⟨cs, h1, h2, -⟩ := h
 have hl := h2.len
 obtain rfl : n = (d :: ds).length := by
  rcases h1.2 with ⟨e, -⟩ | ⟨g', cap, cur, e, -⟩
  ·
   cases e
  ·
   injection e
 simp only [List.length_cons, Nat.succ_mul] at hl
 have hf := h1.frozenAt (g := g) o
 exact ⟨cs[o], by have := h1.cellAt (g := g) o (by simp only [List.length_cons, Nat.succ_mul]; omega); rw [this, List.getElem?_eq_getElem], hf⟩
theorem UnS.first {w wx : World} {c : Nat} {A : Option Addr} {n cap b : Nat} {vR : Value} {LR : List Nat} {Rs : List TRecordType} {vG : Value} {Gs : List ByteArray} {LP : List Nat} {g m k : Nat} {p p' : TProcedure} {ps : List TProcedure} (h0 : Cur w c A n cap) (h : UnS w wx c A n cap b vR LR Rs vG Gs (.slice (some ⟨g, 0, none⟩) m k) LP (p :: ps)) (o : Nat) (u : Value)
  (hO : OwnE (wx.setCell ⟨g, o, none⟩ u) 44 9 (.slice (some ⟨g, 0, none⟩) m k) LP ((p' :: ps).map TProcedure.D)) (hw : Dat.wtL (TProcedure.D p') ≤ (TProcedure.nm p').size + 40000 ∧ (TProcedure.nm p').size ≤ 20) : UnS w (wx.setCell ⟨g, o, none⟩ u) c A n cap b vR LR Rs vG Gs (.slice (some ⟨g, 0, none⟩) m k) LP (p' :: ps) := by
 have hc := h0.1
 have hb := h.blkP g (Or.inl rfl)
 have O := h.oth.put (b := g) (by omega) o u
 exact ⟨h.box.far o _ (fun e => hb.2.1 e), h.res.far o _ (by omega), h0.back h.cur O (set_block o _ (by omega)), O, h.ownR.keep (by simp) (fun x hx => set_block o _ (fun e => hb.2.2.1 (by rw [e]; exact hx))), h.ownG.keep (by simp) (fun x hx => set_block o _ (fun e => hb.2.2.2 (by rw [e]; exact hx))), hO, h.blkR, h.blkG, h.blkP, h.wR, h.wG, fun x hx => by
  rcases List.mem_cons.1 hx with rfl | hx
  ·
   exact hw
  ·
   exact h.wP x (List.mem_cons_of_mem _ hx)⟩
theorem q_named {Q : Exit → Act → World → Prop} {e : Exit} {a : Act} {W : World} (h : ∀ wz, wz = W → Q e a wz) : Q e a W := h W rfl
theorem infoPrc : (Tryd.prog.info? 44).map (fun i => (i.zero, i.size, i.bytes)) = some (some (.agg #[.string ByteArray.empty, .slice none 0 0, .slice none 0 0, .int .i64 0, .string ByteArray.empty, .int .i64 0, .int .i64 0, .slice none 0 0, .int .i64 0]), 9, 136) := by kernel_rfl
end Go.Proofs.YtdacpljinffnaaaDoor
namespace Go.Proofs.YtdacpljinffnaaaDoor
set_option linter.unusedVariables false
set_option linter.unusedSimpArgs false
set_option maxRecDepth 100000
open Go.RowKit
abbrev S9 (N b c : Nat) : Nat → Prop := fun k => N < k ∧ k ≠ b ∧ k ≠ c
theorem hold_oth {w w' : World} {N b c : Nat} {d : Dat} {v : Value} (k : Oth c w w') (h : Dat.Holds w (S9 N b c) d v) : Dat.Holds w' (S9 N b c) d v :=
 Dat.Holds.keep k.size (fun _ _ hb hl => k.cell hl hb.2.2) (fun _ h => h) _ _ h
theorem holds_oth {w w' : World} {N b c : Nat} {ds : List Dat} {vs : List Value} (k : Oth c w w') (h : Dat.HoldVals w (S9 N b c) ds vs) : Dat.HoldVals w' (S9 N b c) ds vs :=
 Dat.HoldVals.keep k.size (fun _ _ hb hl => k.cell hl hb.2.2) (fun _ h => h) _ _ h
theorem holds_set {w : World} {N b c : Nat} {ds : List Dat} {vs : List Value} (o : Nat) (u : Value) (h : Dat.HoldVals w (S9 N b c) ds vs) : Dat.HoldVals (w.setCell ⟨b, o, none⟩ u) (S9 N b c) ds vs :=
 Dat.HoldVals.keep (by simp) (fun _ _ hb _ => World.cell?_of_block (set_block o u (fun e => hb.2.1 e.symm))) (fun _ h => h) _ _ h
def Dat.HoldFl (w : World) (S : Nat → Prop) (k : Nat) : List (List Dat) → List Value → Prop
 | [], vs => vs = []
 | d :: r, vs => ∃ v1 v2, vs = v1 ++ v2 ∧ v1.length = k ∧ Dat.HoldVals w S d v1 ∧ Dat.HoldFl w S k r v2
theorem Dat.HoldFl.rows {w : World} {S : Nat → Prop} {k g : Nat} : ∀ {ds : List (List Dat)} {vs : List Value} {o : Nat}, Dat.HoldFl w S k ds vs → (∀ j, j < vs.length → w.cell? ⟨g, o + j, none⟩ = vs[j]?) → Dat.HoldRows w S k g o ds
 | [], vs, o, h, _ => by simp only [Dat.HoldRows]
 | d :: r, vs, o, ⟨v1, v2, hv, hl, h1, h2⟩, hc => by
  subst hv
  simp only [Dat.HoldRows]
  refine ⟨Dat.HoldCells.of_vals h1 (fun j hj => ?_), by rw [← h1.length]; exact hl, Dat.HoldFl.rows h2 (fun j hj => ?_)⟩
  ·
   rw [hc j (by rw [List.length_append]; omega), List.getElem?_append_left hj]
  ·
   rw [show o + k + j = o + (k + j) by omega, hc (k + j) (by rw [List.length_append]; omega), List.getElem?_append_right (by omega), hl, Nat.add_sub_cancel_left]
theorem hold_obj {w : World} {S : Nat → Prop} {k g : Nat} {t : TypeId} {ds : List (List Dat)} {vs : List Value} (hg : w.heap[g]? = some (.cells vs.toArray t)) (hS : S g) (hf : Dat.HoldFl w S k ds vs) (hl : ds.length ≤ maxLen) : Dat.Holds w S (.row k ds) (.slice (some ⟨g, 0, none⟩) ds.length ds.length) := by
 refine Dat.holds_row.2 ⟨_, _, rfl, Nat.le_refl _, hl, fun _ => ⟨g, 0, rfl, hS, (Array.getElem?_eq_some_iff.1 hg).1, hf.rows (fun j hj => ?_)⟩⟩
 unfold World.cell?
 simp [hg]
theorem fl_one {w : World} {S : Nat → Prop} {k : Nat} {d : List Dat} {v : List Value} (hl : v.length = k) (h : Dat.HoldVals w S d v) : Dat.HoldFl w S k [d] v := ⟨v, [], by simp, hl, h, rfl⟩
theorem fl_two {w : World} {S : Nat → Prop} {k : Nat} {d e : List Dat} {v u : List Value} (hl : v.length = k) (hu : u.length = k) (h : Dat.HoldVals w S d v) (h' : Dat.HoldVals w S e u) : Dat.HoldFl w S k [d, e] (v ++ u) := ⟨v, u, rfl, hl, h, u, [], by simp, hu, h', rfl⟩
theorem fl_strs {w : World} {S : Nat → Prop} : ∀ (l : List ByteArray), (∀ x ∈ l, x.size ≤ maxLen) → Dat.HoldFl w S 1 (strsD l) (l.map Value.string)
 | [], _ => rfl
 | x :: r, h => ⟨[.string x], r.map Value.string, rfl, rfl, ⟨Dat.holds_str.2 ⟨rfl, h x (by simp)⟩, trivial⟩, fl_strs r (fun y hy => h y (by simp [hy]))⟩
theorem i0E : InI 0 := by unfold InI; omega
theorem hold_expr {w : World} {S : Nat → Prop} {k : Int} {ks : List TExpr} {v : Value} (hk : InI k) (h : Dat.Holds w S (.row 5 (ks.map TExpr.D)) v) : Dat.HoldVals w S (TExpr.mk k ByteArray.empty 0 0 ks).D [.int .i64 k, .string ByteArray.empty, .int .i64 0, .int .i64 0, v] := by
 rw [TExpr.D_mk]
 exact ⟨Dat.holds_int.2 ⟨rfl, hk⟩, Dat.holds_str.2 ⟨rfl, by decide⟩, Dat.holds_int.2 ⟨rfl, i0E⟩, Dat.holds_int.2 ⟨rfl, i0E⟩, h, trivial⟩
theorem hold_nil {w : World} {S : Nat → Prop} {k : Nat} : Dat.Holds w S (.row k []) (.slice none 0 0) := Dat.holds_row.2 ⟨none, 0, rfl, by simp, by unfold maxLen; omega, fun h => absurd rfl h⟩
theorem hold_proc {w : World} {S : Nat → Prop} {x : ByteArray} {ps ls : List ByteArray} {ks : List TExpr} {v1 v2 v7 : Value} (hx : x.size ≤ maxLen) (h1 : Dat.Holds w S (.row 1 (strsD ps)) v1) (h2 : Dat.Holds w S (.row 1 (strsD ls)) v2) (h7 : Dat.Holds w S (.row 5 (ks.map TExpr.D)) v7) :
  Dat.HoldVals w S (TProcedure.mk x ps ls 14 ByteArray.empty 0 0 ks 0).D [.string x, v1, v2, .int .i64 14, .string ByteArray.empty, .int .i64 0, .int .i64 0, v7, .int .i64 0] := by
 rw [TProcedure.D_mk]
 exact ⟨Dat.holds_str.2 ⟨rfl, hx⟩, h1, h2, Dat.holds_int.2 ⟨rfl, by unfold InI; omega⟩, Dat.holds_str.2 ⟨rfl, by decide⟩, Dat.holds_int.2 ⟨rfl, i0E⟩, Dat.holds_int.2 ⟨rfl, i0E⟩, h7, Dat.holds_int.2 ⟨rfl, i0E⟩, trivial⟩
structure U9 (w wx : World) (c : Nat) (A : Option Addr) (n cap b : Nat) (v0 v1 v2 : Value) (ds : List Dat) (vs : List Value) : Prop where
 box : TB wx b v0 v1 v2
 res : TB wx w.heap.size (.slice none 0 0) (.slice none 0 0) (.slice none 0 0)
 cur : Cur wx c A n cap
 oth : Oth c w wx
 val : Dat.HoldVals wx (S9 w.heap.size b c) ds vs
structure U9q (w wx : World) (c : Nat) (A : Option Addr) (n cap b : Nat) (v0 v1 v2 : Value) (ds : List Dat) (vs : List Value) (q : Nat) (E0 : TExpr) (v4 : Value) : Prop where
 u : U9 w wx c A n cap b v0 v1 v2 ds vs
 bx : EB wx q (.int .i64 16) (.string ByteArray.empty) (.int .i64 0) (.int .i64 0) v4
 ex : Dat.HoldVals wx (S9 w.heap.size b c) E0.D [.int .i64 16, .string ByteArray.empty, .int .i64 0, .int .i64 0, v4]
 ne : q ≠ c
section
variable {w wx wy : World} {c : Nat} {A : Option Addr} {n cap b q : Nat} {v0 v1 v2 v4 : Value} {ds : List Dat} {vs : List Value} {E0 : TExpr}
theorem U9.on (h : U9 w wx c A n cap b v0 v1 v2 ds vs) (hc : c < w.heap.size) (hb : b ≠ c) (k : Oth c wx wy) (hC : Cur wy c A n cap) : U9 w wy c A n cap b v0 v1 v2 ds vs :=
 ⟨h.box.oth k hb, h.res.oth k (by omega), hC, h.oth.trans k, holds_oth k h.val⟩
theorem U9.bel (h : U9 w wx c A n cap b v0 v1 v2 ds vs) (hc : c < w.heap.size) (hb : b ≠ c) (k : Bel wx wy) : U9 w wy c A n cap b v0 v1 v2 ds vs := h.on hc hb (Oth.of_bel k) (h.cur.bel k)
theorem U9q.on (h : U9q w wx c A n cap b v0 v1 v2 ds vs q E0 v4) (hc : c < w.heap.size) (hb : b ≠ c) (k : Oth c wx wy) (hC : Cur wy c A n cap) : U9q w wy c A n cap b v0 v1 v2 ds vs q E0 v4 :=
 ⟨h.u.on hc hb k hC, h.bx.oth k h.ne, holds_oth k h.ex, h.ne⟩
theorem U9q.bel (h : U9q w wx c A n cap b v0 v1 v2 ds vs q E0 v4) (hc : c < w.heap.size) (hb : b ≠ c) (k : Bel wx wy) : U9q w wy c A n cap b v0 v1 v2 ds vs q E0 v4 := h.on hc hb (Oth.of_bel k) (h.u.cur.bel k)
theorem U9q.cur (h : U9q w wx c A n cap b v0 v1 v2 ds vs q E0 v4) : Cur wx c A n cap := h.u.cur
theorem U9.put (h0 : Cur w c A n cap) (h : U9 w wx c A n cap b v0 v1 v2 ds vs) (hw : w.heap.size < b) (o : Nat) (u : Value) {y0 y1 y2 : Value} {es : List Dat} {us : List Value} (hbx : TB (wx.setCell ⟨b, o, none⟩ u) b y0 y1 y2) (hv : Dat.HoldVals wx (S9 w.heap.size b c) es us) : U9 w (wx.setCell ⟨b, o, none⟩ u) c A n cap b y0 y1 y2 es us := by
 have hc := h0.1
 have O := h.oth.put (b := b) (by omega) o u
 exact ⟨hbx, h.res.far o _ (by omega), h0.back h.cur O (set_block o _ (by omega)), O, holds_set o u hv⟩
end
def UnitQ (w : World) (c : Nat) (A : Option Addr) (n cap : Nat) (e : Ending) (w' : World) : Prop :=
 ∃ (t : TUnit) (x0 x1 x2 : Value), e = .returned (.agg #[x0, x1, x2]) ∧ Dat.HoldVals w' (fun k => w.heap.size ≤ k ∧ k ≠ c) t.D [x0, x1, x2] ∧ Dat.wtL t.D ≤ 1000000 ∧ Cur w' c A n cap ∧ Oth c w w'
theorem U9.fin {w wx : World} {c : Nat} {A : Option Addr} {n cap b : Nat} {v0 v1 v2 : Value} {t : TUnit} (h0 : Cur w c A n cap) (h : U9 w wx c A n cap b v0 v1 v2 t.D [v0, v1, v2]) (hw : Dat.wtL t.D ≤ 1000000) :
  ∀ wz, wz = ((wx.setCell ⟨w.heap.size, 0, none⟩ v0).setCell ⟨w.heap.size, 1, none⟩ v1).setCell ⟨w.heap.size, 2, none⟩ v2 → TB wz w.heap.size v0 v1 v2 ∧ UnitQ w c A n cap (.returned (.agg #[v0, v1, v2])) wz := by
 intro wz hwz
 have hc := h0.1
 have hsame : ∀ k, w.heap.size ≠ k → wz.heap[k]? = wx.heap[k]? := fun k hk => by
  rw [hwz, set_block 2 _ hk, set_block 1 _ hk, set_block 0 _ hk]
 have hO : Oth c w wz := by
  rw [hwz]
  exact ((h.oth.put (Nat.le_refl _) 0 _).put (Nat.le_refl _) 1 _).put (Nat.le_refl _) 2 _
 refine ⟨by rw [hwz]; exact ((h.res.put0 _).put1 _).put2 _, t, _, _, _, rfl, ?_, hw, h0.back h.cur hO (hsame c (by omega)), hO⟩
 refine Dat.HoldVals.keep (by rw [hwz]; simp) (fun x o hb _ => World.cell?_of_block (hsame x (by have := hb.1; omega))) (fun x hx => ⟨by have := hx.1; omega, hx.2.2⟩) _ _ h.val
theorem unit_slices {w : World} {S : Nat → Prop} {t : TUnit} {v0 v1 v2 : Value} (h : Dat.HoldVals w S t.D [v0, v1, v2]) : ∃ A0 n0 c0 A1 n1 c1 A2 n2 c2, v0 = .slice A0 n0 c0 ∧ v1 = .slice A1 n1 c1 ∧ v2 = .slice A2 n2 c2 := by
 obtain ⟨R, G, Q⟩ := t
 rw [TUnit.D_mk] at h
 obtain ⟨h0, h1, h2, -⟩ := h
 obtain ⟨A0, c0, e0, -⟩ := Dat.holds_row.1 h0
 obtain ⟨A1, c1, e1, -⟩ := Dat.holds_row.1 h1
 obtain ⟨A2, c2, e2, -⟩ := Dat.holds_row.1 h2
 exact ⟨A0, _, c0, A1, _, c1, A2, _, c2, e0, e1, e2⟩
theorem ExprP.hold {w w' : World} {c : Nat} {A : Option Addr} {n cap B N b : Nat} {e : Ending} (h : ExprP w c A n cap B e w') (hN : N < w.heap.size) (hb : b < w.heap.size) : ∃ (k : Int) (tx : ByteArray) (m l : Int) (ks : List TExpr) (A5 : Option Addr) (c5 : Nat), e = .returned (.agg #[.int .i64 k, .string tx, .int .i64 m, .int .i64 l, .slice A5 ks.length c5]) ∧ Dat.HoldVals w' (S9 N b c) (TExpr.mk k tx m l ks).D [.int .i64 k, .string tx, .int .i64 m, .int .i64 l, .slice A5 ks.length c5] ∧ Dat.wtL (TExpr.mk k tx m l ks).D ≤ B ∧ Cur w' c A n cap ∧ Oth c w w' := by
 obtain ⟨⟨k, tx, m, l, ks⟩, us, L, rfl, hown, -, hL, hwt, hC, hO⟩ := h
 have hv := Dat.OwnVals.vals (S := S9 N b c) (fun x hx => by have := hL x hx; exact ⟨by omega, by omega, this.2⟩) hown
 obtain ⟨A5, c5, L5, rfl, rfl, -⟩ := TExpr.vals_own hown
 exact ⟨k, tx, m, l, ks, A5, c5, rfl, hv, hwt, hC, hO⟩
theorem wE3 : wE 3 = 54880 := by unfold wE; simp
theorem wE2 : wE 2 = 7840 := by unfold wE; simp
theorem wt_rec (x : ByteArray) (l : List ByteArray) (k : Int) : Dat.wtL (TRecordType.mk x l k).D = x.size + (l.length + Dat.wtR (l.map fun x => [Dat.str x])) := by
 rw [TRecordType.D_mk]
 simp only [Dat.wtL, Dat.wt, List.length_map]
 omega
theorem wt_prc (x : ByteArray) (ps ls : List ByteArray) (t : ByteArray) (a b c d : Int) (ks : List TExpr) : Dat.wtL (TProcedure.mk x ps ls a t b c ks d).D = x.size + (ps.length + Dat.wtR (ps.map fun x => [Dat.str x])) + (ls.length + Dat.wtR (ls.map fun x => [Dat.str x])) + t.size + (ks.length + Dat.wtR (ks.map TExpr.D)) := by
 rw [TProcedure.D_mk]
 simp only [Dat.wtL, Dat.wt, List.length_map]
 omega
theorem wt_exp (t : ByteArray) (a b c : Int) (ks : List TExpr) : Dat.wtL (TExpr.mk a t b c ks).D = t.size + (ks.length + Dat.wtR (ks.map TExpr.D)) := by
 rw [TExpr.D_mk]
 simp only [Dat.wtL, Dat.wt, List.length_map]
 omega
theorem wt_unit (R : List TRecordType) (G : List ByteArray) (P : List TProcedure) : Dat.wtL (TUnit.mk R G P).D = (R.length + Dat.wtR (R.map TRecordType.D)) + (G.length + Dat.wtR (G.map fun x => [Dat.str x])) + (P.length + Dat.wtR (P.map TProcedure.D)) := by
 rw [TUnit.D_mk]
 simp only [Dat.wtL, Dat.wt, List.length_map]
 omega
theorem wt_s1 (x : ByteArray) : Dat.wtL [Dat.str x] = x.size := by simp [Dat.wtL, Dat.wt]
theorem unit9_wt {ea eb ec ed : TExpr} {x1 x2 x3 x4 x5 x6 x7 x8 : ByteArray} (h1 : x1.size ≤ 20) (h2 : x2.size ≤ 20) (h3 : x3.size ≤ 20) (h4 : x4.size ≤ 20) (h5 : x5.size ≤ 20) (h6 : x6.size ≤ 20) (h7 : x7.size ≤ 20) (h8 : x8.size ≤ 20) (ha : Dat.wtL ea.D ≤ wE 3) (hb : Dat.wtL eb.D ≤ wE 3) (hc : Dat.wtL ec.D ≤ wE 2) (hd : Dat.wtL ed.D ≤ wE 3) :
  Dat.wtL (TUnit.mk [.mk x1 [x2, x3] 0] [x4] [.mk x5 [x6] [] 14 ByteArray.empty 0 0 [.mk 16 ByteArray.empty 0 0 [ea, eb]] 0, .mk x7 [] [x8] 14 ByteArray.empty 0 0 [ec, .mk 19 ByteArray.empty 0 0 [ed]] 0]).D ≤ 1000000 := by
 rw [wE2] at hc
 rw [wE3] at ha hb hd
 have z0 : ByteArray.empty.size = 0 := rfl
 rw [wt_unit]
 simp only [List.map_cons, List.map_nil, Dat.wtR, wt_rec, wt_prc, wt_exp, wt_s1, List.length_cons, List.length_nil, z0]
 omega
end Go.Proofs.YtdacpljinffnaaaDoor
