/- Rows of the call's own that grow: each with slices in blocks of its own. -/
import Derived.Test.YtdacpljinffnaaaDoorPOw
import Derived.Test.YtdacpljinffnaaaDoorPTk
import Derived.OwnWalk
import Derived.Deep.RegionHeld3
import Derived.Test.YtdacpljinffnaaaDoorPF1
import Derived.Test.YtdacpljinffnaaaDoorPMExpr
namespace Go.Proofs.YtdacpljinffnaaaDoor
set_option linter.unusedVariables false
set_option linter.unusedSimpArgs false
set_option maxRecDepth 100000
open Go.RowKit
theorem run_append_none {P : Program} {w : World} (base : Nat) (t ty e : TypeId) (i : TypeInfo) (size : Nat) (ht : P.underlying t = some (.slice e)) (hi : P.info? e = some i) (v : Value) (n : Nat) (xs : List Value) (hown : w.ownsRow base e size v n xs) (A : Option Addr) (c : Nat) :
  (Builtin.append_ #[t, t] ty #[v, .slice A 0 c]).run P w = .ok v w := by
 rcases hown.2 with ⟨rfl, -⟩ | ⟨g, cap, cur, rfl, -, -, hn, -⟩
 all_goals cases A
 all_goals simp [Builtin.append_, run_underlying ht, sizeOf, typeInfo, hi, Builtin.lenOf, Builtin.firstCells, loadCells, loadCellsFrom, storeCells, *]
theorem append_where {P : Program} {w w' : World} (t ty e : TypeId) (i : TypeInfo) (z : Value) (ht : P.underlying t = some (.slice e)) (hi : P.info? e = some i) (hz : i.zero = some z)
  {v v' : Value} {n : Nat} {xs : List Value} (hown : w.ownsRow 0 e i.size v n xs) (a : Addr) (m c : Nat) {news : List Value} (hl : news.length = m * i.size) (hnews : ∀ j u, news[j]? = some u → w.cell? (a.add j) = some u) (h1 : ∀ u ∈ news, u.oneCell' = true)
  (h63 : n + m ≤ maxLen) (hbytes : (n + m) * i.bytes ≤ 140737488355328) (hr : (Builtin.append_ #[t, t] ty #[v, .slice (some a) m c]).run P w = .ok v' w') : ∀ k, v'.ownBlock = some k → v.ownBlock = some k ∨ w.heap.size ≤ k := by
 intro k hk
 have hsm := h63
 unfold maxLen at hsm
 rcases hown.2 with ⟨rfl, rfl⟩ | ⟨g, cap, cur, rfl, -, hg, hnc, hcm, hcs, htake⟩
 ·
  rcases Nat.eq_zero_or_pos m with rfl | hm
  ·
   rw [run_append_none 0 t ty e i i.size ht hi _ 0 xs hown] at hr
   injection hr with hv
   subst hv
   cases hk
  ·
   rw [run_append_nil (P := P) w t ty e i z ht hi hz a m c news hl hnews hm (by omega) (by simp only [Nat.zero_add] at hbytes; omega)] at hr
   injection hr with hv
   subst hv
   injection hk with hk
   exact Or.inr (Nat.le_of_eq hk)
 ·
  rcases Nat.lt_or_ge cap (n + m) with hc | hc
  ·
   rw [run_append_grow (P := P) w t ty e i z ht hi hz ⟨g, 0, none⟩ n cap xs hown.1 (hown.cells (g := g) rfl) a m c news hl hnews hc (by omega) (growslice_fits hc hbytes)] at hr
   injection hr with hv
   subst hv
   injection hk with hk
   exact Or.inr (Nat.le_of_eq hk)
  ·
   rw [run_append_room (P := P) w t ty e i ht hi g n cap cur hg a m c news hl hnews h1 hc (by rw [hl, hcs, ← Nat.add_mul]; exact Nat.mul_le_mul_right _ hc)] at hr
   injection hr with hv
   subst hv
   exact Or.inl hk
theorem wp_append_all {P : Program} {w : World} {o : Oper} {a : Act} {K : Act → World → Prop} {Q : Exit → Act → World → Prop} (s x : Operand) (t : TypeId) (ho : o.op = .call { callee := .builtin .append, args := #[s, x], argTypes := #[t, t] })
  (e : TypeId) (i : TypeInfo) (z : Value) (size bytes : Nat) (ht : P.underlying t = some (.slice e)) (hi : P.info? e = some i) (hz : i.zero = some z) (hsize : i.size = size) (hby : i.bytes = bytes) (hzs : z.cells.size = size) (hsz : 0 < size)
  (v : Value) (n : Nat) (xs : List Value) (hs : a.eval s = v) (hown : w.ownsRow 0 e size v n xs) (A : Option Addr) (m c : Nat) (news : List Value) (hx : a.eval x = .slice A m c) (hl : news.length = m * size) (hA : A = none → m = 0)
  (hnews : ∀ ad, A = some ad → ∀ j u, news[j]? = some u → w.cell? (ad.add j) = some u) (h1 : ∀ u ∈ news, u.oneCell' = true) (h63 : n + m ≤ maxLen) (hbytes : (n + m) * bytes ≤ 140737488355328)
  (h : ∀ v' w', w'.ownsRow 0 e size v' (n + m) (xs ++ news) → w.grownBy w' v.ownBlock → (∀ k, v'.ownBlock = some k → v.ownBlock = some k ∨ w.heap.size ≤ k) → K (a.put o.dst v') w') : o.wp P a w K Q := by
 cases A with
 | none =>
  obtain rfl := hA rfl
  obtain rfl : news = [] := List.eq_nil_of_length_eq_zero (by simpa using hl)
  have hrun := run_append_none (P := P) 0 t o.type e i size ht hi v n xs hown none c
  unfold Oper.wp
  simp [execOp, ho, resolve, invoke, builtin, hs, hx, hrun, Result.andThen]
  exact h v w (by simpa using hown) (World.grownBy.refl _ _) (fun k hk => Or.inl hk)
 | some ad =>
  subst hsize hby
  obtain ⟨v', w', hr, h2, h3, -⟩ := run_append_own (P := P) w 0 t o.type e i z i.size i.bytes ht hi hz rfl rfl hzs hsz v n xs hown ad m c news hl (hnews ad rfl) h1 h63 hbytes (Nat.zero_le _)
  have h5 := append_where t o.type e i z ht hi hz hown ad m c hl (hnews ad rfl) h1 h63 hbytes hr
  unfold Oper.wp
  simp [execOp, ho, resolve, invoke, builtin, hs, hx, hr, Result.andThen]
  exact h v' w' h2 h3 h5
def Dat.OwnFl (w : World) (k : Nat) : List Nat → List (List Dat) → List Value → Prop
 | L, [], vs => L = [] ∧ vs = []
 | L, d :: r, vs => ∃ L1 L2 v1 v2, L = L1 ++ L2 ∧ vs = v1 ++ v2 ∧ v1.length = k ∧ Dat.OwnVals w L1 d v1 ∧ Dat.OwnFl w k L2 r v2
section
variable {w w' : World} {k : Nat}
theorem Dat.OwnFl.lt : ∀ {ds : List (List Dat)} {L : List Nat} {vs : List Value}, Dat.OwnFl w k L ds vs → ∀ b, b ∈ L → b < w.heap.size
 | [], L, vs, h, b, hb => by rw [h.1] at hb; cases hb
 | d :: r, L, vs, ⟨L1, L2, v1, v2, hL, hv, hl, h1, h2⟩, b, hb => by
  subst hL
  rcases List.mem_append.1 hb with hb | hb
  ·
   exact h1.lt _ _ _ b hb
  ·
   exact Dat.OwnFl.lt h2 b hb
theorem Dat.OwnFl.keep (hs : w.heap.size ≤ w'.heap.size) : ∀ {ds : List (List Dat)} {L : List Nat} {vs : List Value}, (∀ b, b ∈ L → SameB w w' b) → Dat.OwnFl w k L ds vs → Dat.OwnFl w' k L ds vs
 | [], L, vs, _, h => h
 | d :: r, L, vs, hb, ⟨L1, L2, v1, v2, hL, hv, hl, h1, h2⟩ => by
  subst hL
  exact ⟨L1, L2, v1, v2, rfl, hv, hl, Dat.OwnVals.keep hs d L1 v1 (fun b h => hb b (by simp [h])) h1, Dat.OwnFl.keep hs (fun b h => hb b (by simp [h])) h2⟩
theorem Dat.OwnFl.append : ∀ {ds es : List (List Dat)} {L M : List Nat} {vs us : List Value}, Dat.OwnFl w k L ds vs → Dat.OwnFl w k M es us → Dat.OwnFl w k (L ++ M) (ds ++ es) (vs ++ us)
 | [], es, L, M, vs, us, h, g => by rw [h.1, h.2]; exact g
 | d :: r, es, L, M, vs, us, ⟨L1, L2, v1, v2, hL, hv, hl, h1, h2⟩, g => by
  subst hL hv
  exact ⟨L1, L2 ++ M, v1, v2 ++ us, by simp, by simp, hl, h1, Dat.OwnFl.append h2 g⟩
theorem Dat.OwnFl.len : ∀ {ds : List (List Dat)} {L : List Nat} {vs : List Value}, Dat.OwnFl w k L ds vs → vs.length = ds.length * k
 | [], L, vs, h => by rw [h.2]; simp
 | d :: r, L, vs, ⟨L1, L2, v1, v2, hL, hv, hl, h1, h2⟩ => by
  rw [hv, List.length_append, hl, Dat.OwnFl.len h2, List.length_cons, Nat.succ_mul, Nat.add_comm]
theorem Dat.Own.oneCell {d : Dat} {L : List Nat} {v : Value} (h : d.Own w L v) : v.oneCell' = true := by
 cases d with
 | int n => rw [(Dat.own_int.1 h).2.1]; rfl
 | str s => rw [(Dat.own_str.1 h).2.1]; rfl
 | bool b => rw [(Dat.own_bool.1 h).2]; rfl
 | row n xs => obtain ⟨A, c, rfl, _⟩ := Dat.own_row.1 h; rfl
theorem Dat.OwnVals.oneCell : ∀ {ds : List Dat} {L : List Nat} {vs : List Value}, Dat.OwnVals w L ds vs → ∀ u ∈ vs, u.oneCell' = true
 | [], _, [], _, u, hu => by cases hu
 | d :: r, _, v :: vs, ⟨L1, L2, _, h1, h2⟩, u, hu => by
  rcases List.mem_cons.1 hu with rfl | hu
  ·
   exact h1.oneCell
  ·
   exact Dat.OwnVals.oneCell h2 u hu
 | [], _, _ :: _, h, _, _ => h.elim
 | _ :: _, _, [], h, _, _ => h.elim
theorem Dat.OwnFl.oneCell : ∀ {ds : List (List Dat)} {L : List Nat} {vs : List Value}, Dat.OwnFl w k L ds vs → ∀ u ∈ vs, u.oneCell' = true
 | [], L, vs, h, u, hu => by rw [h.2] at hu; cases hu
 | d :: r, L, vs, ⟨L1, L2, v1, v2, hL, hv, hl, h1, h2⟩, u, hu => by
  rw [hv] at hu
  rcases List.mem_append.1 hu with hu | hu
  ·
   exact h1.oneCell u hu
  ·
   exact Dat.OwnFl.oneCell h2 u hu
theorem Dat.OwnFl.rows {g : Nat} : ∀ {ds : List (List Dat)} {L : List Nat} {vs : List Value} {o : Nat}, Dat.OwnFl w k L ds vs → (∀ j, j < vs.length → w.cell? ⟨g, o + j, none⟩ = vs[j]?) → Dat.OwnRows w k g o L ds
 | [], L, vs, o, h, _ => by simp only [Dat.OwnRows]; exact h.1
 | d :: r, L, vs, o, ⟨L1, L2, v1, v2, hL, hv, hl, h1, h2⟩, hc => by
  subst hL hv
  simp only [Dat.OwnRows]
  refine ⟨L1, L2, rfl, Dat.OwnCells.of_vals h1 (fun j hj => ?_), by rw [← h1.length]; exact hl, Dat.OwnFl.rows h2 (fun j hj => ?_)⟩
  ·
   rw [hc j (by rw [List.length_append]; omega), List.getElem?_append_left hj]
  ·
   rw [show o + k + j = o + (k + j) by omega, hc (k + j) (by rw [List.length_append]; omega), List.getElem?_append_right (by omega), hl, Nat.add_sub_cancel_left]
def Blk (v : Value) (L : List Nat) (b : Nat) : Prop := v.ownBlock = some b ∨ b ∈ L
def OwnD (w : World) (E : TypeId) (k : Nat) (v : Value) (L : List Nat) (ds : List (List Dat)) : Prop :=
 ∃ cs, w.ownsRow 0 E k v ds.length cs ∧ Dat.OwnFl w k L ds cs ∧ L.Nodup ∧ ∀ b, v.ownBlock = some b → b ∉ L
variable {E : TypeId} {v : Value} {L : List Nat} {ds : List (List Dat)}
theorem OwnD.lt (h : OwnD w E k v L ds) : ∀ b, Blk v L b → b < w.heap.size := by
 obtain ⟨cs, h1, h2, -⟩ := h
 rintro b (hb | hb)
 ·
  exact (h1.lt b hb).2
 ·
  exact h2.lt b hb
theorem OwnD.keep (h : OwnD w E k v L ds) (hs : w.heap.size ≤ w'.heap.size) (hb : ∀ b, Blk v L b → w'.heap[b]? = w.heap[b]?) : OwnD w' E k v L ds := by
 obtain ⟨cs, h1, h2, h3, h4⟩ := h
 refine ⟨cs, ⟨h1.1, ?_⟩, h2.keep hs (fun b hm => ⟨fun o => World.cell?_of_block (hb b (Or.inr hm)), fun o => World.frozen?_of_block (hb b (Or.inr hm))⟩), h3, h4⟩
 rcases h1.2 with hn | ⟨g, cap, cur, rfl, hz, hg, r⟩
 ·
  exact Or.inl hn
 ·
  exact Or.inr ⟨g, cap, cur, rfl, hz, (hb g (Or.inl rfl)).trans hg, r⟩
theorem OwnD.bel (h : OwnD w E k v L ds) (hb : Bel w w') : OwnD w' E k v L ds := h.keep hb.size fun b hm => Below.block hb b (h.lt b hm)
theorem OwnD.nil (w : World) (E : TypeId) (k : Nat) : OwnD w E k (.slice none 0 0) [] [] := ⟨[], World.ownsRow_nil w 0 E k, ⟨rfl, rfl⟩, List.nodup_nil, fun b h => by cases h⟩
theorem OwnD.lit1 {M : List Nat} {d : List Dat} {vs : List Value} (w : World) (E : TypeId) (hv : Dat.OwnVals w M d vs) (hk : vs.length = k) (hn : M.Nodup) : OwnD (w.alloc (.cells vs.toArray E)) E k (.slice (some ⟨w.heap.size, 0, none⟩) 1 1) M [d] := by
 refine ⟨vs, ⟨by simp [hk], Or.inr ⟨w.heap.size, 1, vs.toArray, rfl, Nat.zero_le _, heap_alloc_new w _, by simp, by unfold maxLen; omega, by simp [hk], by simp [← hk]⟩⟩, ⟨M, [], vs, [], by simp, by simp, hk, Dat.OwnVals.bel bl hv, rfl, rfl⟩, hn, fun b hb hm => ?_⟩
 have := hv.lt _ _ _ b hm
 simp only [Value.ownBlock, Option.some.injEq] at hb
 omega
theorem OwnD.ownRow (h : OwnD w E k v L ds) : ∃ A c L', v = .slice A ds.length c ∧ OwnRow w L' k A c ds ∧ L'.Nodup ∧ ∀ b, b ∈ L' → Blk v L b := by
 obtain ⟨cs, h1, h2, h3, h4⟩ := h
 have hl := h2.len
 rcases h1.2 with ⟨rfl, h0⟩ | ⟨g, cap, cur, rfl, hz, hg, hn, hm, hsz, ht⟩
 ·
  obtain rfl : ds = [] := List.eq_nil_of_length_eq_zero h0
  exact ⟨none, 0, [], rfl, OwnRow.nil w k none 0 (by unfold maxLen; omega), List.nodup_nil, fun b hb => by cases hb⟩
 ·
  by_cases he : ds = []
  ·
   subst he
   exact ⟨_, cap, [], rfl, OwnRow.nil w k _ cap hm, List.nodup_nil, fun b hb => by cases hb⟩
  ·
   refine ⟨_, cap, g :: L, rfl, ⟨hn, hm, Or.inr ⟨he, g, 0, L, rfl, (Array.getElem?_eq_some_iff.1 hg).1, fun i => ?_, rfl, h2.rows fun j hj => ?_⟩⟩, List.nodup_cons.2 ⟨h4 g rfl, h3⟩, fun b hb => ?_⟩
   ·
    exact (World.ownsRow.frozenAt h1 i)
   ·
    rw [Nat.zero_add]
    exact World.ownsRow.cellAt h1 j (by omega)
   ·
    rcases List.mem_cons.1 hb with rfl | hb
    ·
     exact Or.inl rfl
    ·
     exact Or.inr hb
theorem OwnD.row {S : Nat → Prop} (h : OwnD w E k v L ds) (hS : ∀ b, Blk v L b → S b) : ∃ A c, v = .slice A ds.length c ∧ Row w S k A c ds := by
 obtain ⟨A, c, L', h1, h2, -, h4⟩ := h.ownRow
 exact ⟨A, c, h1, OwnRow.row (fun b hb => hS b (h4 b hb)) h2⟩
def Src (w : World) (k : Nat) (A : Option Addr) (m : Nat) (M : List Nat) (es : List (List Dat)) (news : List Value) : Prop :=
 m = es.length ∧ (A = none → m = 0) ∧ Dat.OwnFl w k M es news ∧ M.Nodup ∧ ∀ ad, A = some ad → ∀ j u, news[j]? = some u → w.cell? (ad.add j) = some u
theorem OwnD.src {A : Option Addr} {m c : Nat} (h : OwnD w E k (.slice A m c) L ds) : ∃ news, Src w k A m L ds news := by
 obtain ⟨cs, h1, h2, h3, h4⟩ := h
 refine ⟨cs, ?_, ?_, h2, h3, ?_⟩
 all_goals rcases h1.2 with ⟨hv, h0⟩ | ⟨g, cap, cur, hv, hz, hg, hn, hm, hsz, ht⟩
 all_goals (simp only [Value.slice.injEq] at hv; obtain ⟨rfl, rfl, rfl⟩ := hv)
 ·
  omega
 ·
  rfl
 ·
  intro _; rfl
 ·
  intro hA; cases hA
 ·
  intro ad hA; cases hA
 ·
  intro ad hA
  obtain rfl := Option.some.inj hA
  exact h1.cells (g := g) rfl
def Dat.flat : Dat → Prop
 | .row _ _ => False
 | _ => True
theorem Dat.HoldVals.flat {S : Nat → Prop} : ∀ {ds : List Dat} {vs : List Value}, (∀ d ∈ ds, d.flat) → Dat.HoldVals w S ds vs → Dat.OwnVals w [] ds vs
 | [], [], _, _ => rfl
 | d :: r, v :: vs, hf, h => by
  refine ⟨[], [], rfl, ?_, Dat.HoldVals.flat (fun d hd => hf d (by simp [hd])) h.2⟩
  have hd := hf d (by simp)
  have h1 := h.1
  cases d with
  | int n => exact Dat.own_int.2 ⟨rfl, Dat.holds_int.1 h1⟩
  | str s => exact Dat.own_str.2 ⟨rfl, Dat.holds_str.1 h1⟩
  | bool b => exact Dat.own_bool.2 ⟨rfl, Dat.holds_bool.1 h1⟩
  | row n xs => exact hd.elim
 | [], _ :: _, _, h => h.elim
 | _ :: _, [], _, h => h.elim
theorem Dat.HoldRows.flat {S : Nat → Prop} {b : Nat} : ∀ {xs : List (List Dat)} {o : Nat}, (∀ ds ∈ xs, ∀ d ∈ ds, d.flat) → Dat.HoldRows w S k b o xs → ∃ news, Dat.OwnFl w k [] xs news ∧ ∀ j, j < news.length → w.cell? ⟨b, o + j, none⟩ = news[j]?
 | [], o, _, _ => ⟨[], ⟨rfl, rfl⟩, fun j hj => by cases hj⟩
 | ds :: r, o, hf, h => by
  simp only [Dat.HoldRows] at h
  obtain ⟨h1, h2, h3⟩ := h
  obtain ⟨vs, g1, g2, g3⟩ := h1.to_vals
  obtain ⟨us, e1, e2⟩ := Dat.HoldRows.flat (fun d hd => hf d (by simp [hd])) h3
  refine ⟨vs ++ us, ⟨[], [], vs, us, rfl, rfl, by omega, Dat.HoldVals.flat (hf ds (by simp)) g1, e1⟩, fun j hj => ?_⟩
  rcases Nat.lt_or_ge j vs.length with hl | hl
  ·
   rw [g3 j hl, List.getElem?_append_left hl]
  ·
   rw [List.getElem?_append_right hl, ← e2 (j - vs.length) (by rw [List.length_append] at hj; omega)]
   congr 2
   omega
theorem Row.src {S : Nat → Prop} {A : Option Addr} {c : Nat} {xs : List (List Dat)} (hf : ∀ ds ∈ xs, ∀ d ∈ ds, d.flat) (h : Row w S k A c xs) : ∃ news, Src w k A xs.length [] xs news := by
 by_cases he : xs = []
 ·
  subst he
  exact ⟨[], rfl, fun _ => rfl, ⟨rfl, rfl⟩, List.nodup_nil, fun ad _ j u hu => by simp at hu⟩
 ·
  obtain ⟨b, o, rfl, -, -, hr⟩ := h.2.2 he
  obtain ⟨news, h1, h2⟩ := hr.flat hf
  refine ⟨news, rfl, fun hA => (by cases hA), h1, List.nodup_nil, fun ad hA j u hu => ?_⟩
  obtain rfl := Option.some.inj hA
  have hj : j < news.length := (List.getElem?_eq_some_iff.1 hu).1
  rw [addr_add, h2 j hj]
  exact hu
theorem Src.bel {A : Option Addr} {m : Nat} {M : List Nat} {es : List (List Dat)} {news : List Value} (h : Src w k A m M es news) (hb : Bel w w') : Src w' k A m M es news := by
 obtain ⟨h1, h2, h3, h4, h5⟩ := h
 exact ⟨h1, h2, h3.keep hb.size (fun b hm => hb.same (h3.lt b hm)), h4, fun ad hA j u hu => (Below.cell hb (cell_in' (h5 ad hA j u hu)).2).trans (h5 ad hA j u hu)⟩
end
theorem wp_append_D {P : Program} {w : World} {o : Oper} {a : Act} {K : Act → World → Prop} {Q : Exit → Act → World → Prop} (s x : Operand) (t : TypeId) (ho : o.op = .call { callee := .builtin .append, args := #[s, x], argTypes := #[t, t] })
  (E : TypeId) (i : TypeInfo) (z : Value) (k bytes : Nat) (ht : P.underlying t = some (.slice E)) (hi : P.info? E = some i) (hz : i.zero = some z) (hsize : i.size = k) (hby : i.bytes = bytes) (hzs : z.cells.size = k) (hsz : 0 < k)
  {v : Value} {L : List Nat} {ds : List (List Dat)} (hD : OwnD w E k v L ds) {A : Option Addr} {m : Nat} {M : List Nat} {es : List (List Dat)} {news : List Value} (hS : Src w k A m M es news) (c : Nat) (hs : a.eval s = v) (hx : a.eval x = .slice A m c)
  (hLM : ∀ b, Blk v L b → b ∉ M) (hlen : (ds.length + m) * bytes ≤ 140737488355328) (hmax : ds.length + m ≤ maxLen)
  (h : ∀ v' w', OwnD w' E k v' (L ++ M) (ds ++ es) → w.grownBy w' v.ownBlock → (∀ b, v'.ownBlock = some b → v.ownBlock = some b ∨ w.heap.size ≤ b) → K (a.put o.dst v') w') : o.wp P a w K Q := by
 obtain ⟨cs, h1, h2, h3, h4⟩ := hD
 obtain ⟨rfl, g2, g3, g4, g5⟩ := hS
 refine wp_append_all s x t ho E i z k bytes ht hi hz hsize hby hzs hsz v ds.length cs hs h1 A es.length c news hx g3.len g2 g5 g3.oneCell hmax hlen fun v' w' q1 q2 q3 => h v' w' ⟨cs ++ news, by rw [List.length_append]; exact q1, ?_, nodup_app h3 g4 (fun b hb => hLM b (Or.inr hb)), fun b hb hm => ?_⟩ q2 q3
 ·
  have same : ∀ b, b < w.heap.size → v.ownBlock ≠ some b → SameB w w' b := fun b hb hne => by
   have e := q2.block b hb (fun q => hne q.symm)
   exact ⟨fun o => World.cell?_of_block e, fun o => World.frozen?_of_block e⟩
  exact Dat.OwnFl.append (h2.keep q2.size fun b hb => same b (h2.lt b hb) (fun q => h4 b q hb)) (g3.keep q2.size fun b hb => same b (g3.lt b hb) (fun q => hLM b (Or.inl q) hb))
 ·
  rcases q3 b hb with q | q
  ·
   rcases List.mem_append.1 hm with hm | hm
   ·
    exact h4 b q hm
   ·
    exact hLM b (Or.inl q) hm
  ·
   have : b < w.heap.size := by
    rcases List.mem_append.1 hm with hm | hm
    ·
     exact h2.lt b hm
    ·
     exact g3.lt b hm
   omega
end Go.Proofs.YtdacpljinffnaaaDoor
namespace Go.Proofs.YtdacpljinffnaaaDoor
set_option linter.unusedVariables false
set_option linter.unusedSimpArgs false
set_option maxRecDepth 100000
open Go.RowKit
def EB (w : World) (b : Nat) (v0 v1 v2 v3 v4 : Value) : Prop := b < w.heap.size ∧ (∀ o, w.frozen? ⟨b, o, none⟩ = false) ∧ w.cell? ⟨b, 0, none⟩ = some v0 ∧ w.cell? ⟨b, 1, none⟩ = some v1 ∧ w.cell? ⟨b, 2, none⟩ = some v2 ∧ w.cell? ⟨b, 3, none⟩ = some v3 ∧ w.cell? ⟨b, 4, none⟩ = some v4
section
variable {w w' : World} {b c : Nat} {v0 v1 v2 v3 v4 : Value}
theorem EB.block (h : EB w b v0 v1 v2 v3 v4) (hs : w.heap.size ≤ w'.heap.size) (hb : w'.heap[b]? = w.heap[b]?) : EB w' b v0 v1 v2 v3 v4 := by
 obtain ⟨l, f, c0, c1, c2, c3, c4⟩ := h
 have e : ∀ o, w'.cell? ⟨b, o, none⟩ = w.cell? ⟨b, o, none⟩ := fun o => World.cell?_of_block hb
 exact ⟨by omega, fun o => (World.frozen?_of_block hb).trans (f o), (e 0).trans c0, (e 1).trans c1, (e 2).trans c2, (e 3).trans c3, (e 4).trans c4⟩
theorem EB.on (h : EB w b v0 v1 v2 v3 v4) (k : Bel w w') : EB w' b v0 v1 v2 v3 v4 := h.block k.size (Below.block k b h.1)
theorem EB.oth (h : EB w b v0 v1 v2 v3 v4) (k : Oth c w w') (hn : b ≠ c) : EB w' b v0 v1 v2 v3 v4 := h.block k.size (k.block b h.1 hn)
theorem EB.new (w : World) (t : TypeId) : EB (w.alloc (.cells #[v0, v1, v2, v3, v4] t)) w.heap.size v0 v1 v2 v3 v4 :=
 ⟨by simp, fun o => by simp, by simp, by simp, by simp, by simp, by simp⟩
theorem set_block {b' : Nat} (o : Nat) (u : Value) (hn : b' ≠ b) : (w.setCell ⟨b', o, none⟩ u).heap[b]? = w.heap[b]? := by
 unfold World.setCell
 split
 all_goals
  show (w.heap.modify b' _)[b]? = _
  rw [Array.getElem?_modify, if_neg hn]
theorem EB.far (h : EB w b v0 v1 v2 v3 v4) {b' : Nat} (o : Nat) (u : Value) (hn : b' ≠ b) : EB (w.setCell ⟨b', o, none⟩ u) b v0 v1 v2 v3 v4 :=
 h.block (by simp) (set_block o u hn)
theorem EB.put0 (h : EB w b v0 v1 v2 v3 v4) (u : Value) : EB (w.setCell ⟨b, 0, none⟩ u) b u v1 v2 v3 v4 := by
 obtain ⟨l, f, c0, c1, c2, c3, c4⟩ := h
 exact ⟨by simpa using l, fun o => by simp [f], by simp [c0, go_sem], by simp [c1, go_sem], by simp [c2, go_sem], by simp [c3, go_sem], by simp [c4, go_sem]⟩
theorem EB.put1 (h : EB w b v0 v1 v2 v3 v4) (u : Value) : EB (w.setCell ⟨b, 1, none⟩ u) b v0 u v2 v3 v4 := by
 obtain ⟨l, f, c0, c1, c2, c3, c4⟩ := h
 exact ⟨by simpa using l, fun o => by simp [f], by simp [c0, go_sem], by simp [c1, go_sem], by simp [c2, go_sem], by simp [c3, go_sem], by simp [c4, go_sem]⟩
theorem EB.put2 (h : EB w b v0 v1 v2 v3 v4) (u : Value) : EB (w.setCell ⟨b, 2, none⟩ u) b v0 v1 u v3 v4 := by
 obtain ⟨l, f, c0, c1, c2, c3, c4⟩ := h
 exact ⟨by simpa using l, fun o => by simp [f], by simp [c0, go_sem], by simp [c1, go_sem], by simp [c2, go_sem], by simp [c3, go_sem], by simp [c4, go_sem]⟩
theorem EB.put3 (h : EB w b v0 v1 v2 v3 v4) (u : Value) : EB (w.setCell ⟨b, 3, none⟩ u) b v0 v1 v2 u v4 := by
 obtain ⟨l, f, c0, c1, c2, c3, c4⟩ := h
 exact ⟨by simpa using l, fun o => by simp [f], by simp [c0, go_sem], by simp [c1, go_sem], by simp [c2, go_sem], by simp [c3, go_sem], by simp [c4, go_sem]⟩
theorem EB.put4 (h : EB w b v0 v1 v2 v3 v4) (u : Value) : EB (w.setCell ⟨b, 4, none⟩ u) b v0 v1 v2 v3 u := by
 obtain ⟨l, f, c0, c1, c2, c3, c4⟩ := h
 exact ⟨by simpa using l, fun o => by simp [f], by simp [c0, go_sem], by simp [c1, go_sem], by simp [c2, go_sem], by simp [c3, go_sem], by simp [c4, go_sem]⟩
theorem EB.there (h : EB w b v0 v1 v2 v3 v4) : w.there b 0 5 := by
 obtain ⟨l, f, c0, c1, c2, c3, c4⟩ := h
 intro j hj
 rcases (show j = 0 ∨ j = 1 ∨ j = 2 ∨ j = 3 ∨ j = 4 by omega) with rfl | rfl | rfl | rfl | rfl
 all_goals exact ⟨by simp [c0, c1, c2, c3, c4], f _⟩
theorem Oth.put (h : Oth c w w') (hb : w.heap.size ≤ b) (o : Nat) (u : Value) : Oth c w (w'.setCell ⟨b, o, none⟩ u) :=
 ⟨by rw [← h.os]; exact (Below.setCell (Below.refl b w') (Nat.le_refl b) u).os, by rw [← h.tape]; exact (Below.setCell (Below.refl b w') (Nat.le_refl b) u).tape, by rw [← h.output]; exact (Below.setCell (Below.refl b w') (Nat.le_refl b) u).output, by have := h.size; simpa using this, fun k hk hc => (set_block o u (by omega)).trans (h.block k hk hc)⟩
theorem Cur.far {A : Option Addr} {n cap : Nat} (h : Cur w c A n cap) (hn : b ≠ c) (hA : ∀ d o, A = some ⟨d, o, none⟩ → b ≠ d) (o : Nat) (u : Value) : Cur (w.setCell ⟨b, o, none⟩ u) c A n cap := by
 obtain ⟨l, f, hB, i, x, hi, c0, c1, c2⟩ := h
 have e := set_block (w := w) (b := c) o u hn
 refine ⟨by simpa using l, fun q => (World.frozen?_of_block e).trans (f q), ⟨hB.1, fun h0 => ?_⟩, i, x, hi, (World.cell?_of_block e).trans c0, (World.cell?_of_block e).trans c1, (World.cell?_of_block e).trans c2⟩
 obtain ⟨b1, o1, hA1, h1, h2, h3⟩ := hB.2 h0
 refine ⟨b1, o1, hA1, by simpa using h1, h2, fun j hj => ?_⟩
 obtain ⟨y, y1, y2⟩ := h3 j hj
 exact ⟨y, y1, (World.cell?_of_block (set_block o u (hA _ _ hA1))).trans y2⟩
end
theorem Cur.back {w0 w w' : World} {c : Nat} {A : Option Addr} {n cap : Nat} (h0 : Cur w0 c A n cap) (h : Cur w c A n cap) (k : Oth c w0 w') (hb : w'.heap[c]? = w.heap[c]?) : Cur w' c A n cap := by
 obtain ⟨l, f, hB, i, x, hi, c0, c1, c2⟩ := h
 exact h0.put k (fun o => (World.frozen?_of_block hb).trans (f o)) i x hi ((World.cell?_of_block hb).trans c0) ((World.cell?_of_block hb).trans c1) ((World.cell?_of_block hb).trans c2)
def DrewP (P : Int → Prop) (w : World) (c : Nat) (A : Option Addr) (n cap : Nat) (e : Ending) (w' : World) : Prop :=
 ∃ x : Int, P x ∧ e = .returned (.int .i64 x) ∧ Cur w' c A n cap ∧ Oth c w w'
def RowP (P : Int → Prop) (w : World) (g : Nat) (m : Nat) : Prop := g < w.heap.size ∧ ∀ j, j < m → ∃ x : Int, P x ∧ w.cell? ⟨g, j, none⟩ = some (.int .i64 x)
theorem RowP.on {P : Int → Prop} {w w' : World} {c g m : Nat} (h : RowP P w g m) (k : Oth c w w') (hg : g ≠ c) : RowP P w' g m :=
 ⟨Nat.lt_of_lt_of_le h.1 k.size, fun j hj => by obtain ⟨x, hx, hc⟩ := h.2 j hj; exact ⟨x, hx, (k.cell h.1 hg).trans hc⟩⟩
theorem rowP_new {P : Int → Prop} {w : World} {t : TypeId} (xs : List Int) (h : ∀ x ∈ xs, P x) : RowP P (w.alloc (.cells (xs.map (Value.int .i64)).toArray t)) w.heap.size xs.length := by
 refine ⟨by simp, fun j hj => ⟨xs[j], h _ (List.getElem_mem hj), ?_⟩⟩
 unfold World.cell?
 show (match (w.alloc _).heap[w.heap.size]? with | some (.cells c _ _) => _ | _ => _) = _
 rw [heap_alloc_new]
 simp [hj]
set_option maxHeartbeats 400000 in
theorem l1PickInt_P (P : Int → Prop) (g m cap' : Nat) (c : Nat) (A : Option Addr) (n cap : Nat) (w : World) (hc : Cur w c A n cap) (hr : RowP P w g m) (hg : g ≠ c) (h0 : 0 < m) (h1 : m ≤ 1000) :
  Calls Tryd.prog 38 #[.pointer (some ⟨c, 0, none⟩), .slice (some ⟨g, 0, none⟩) m cap'] w (DrewP P w c A n cap) := by
 have HC := hide hc
 have HR := hide hr
 clear hc hr
 have hb := hide (show belowHi (m : Int) = m - 1 by unfold belowHi; rw [if_neg (by omega)])
 go_enter Tryd.func38, Tryd.ntmps38
 go_wp2_with (go_at_call 12; refine (l1Below_any m c A n cap _ HC.out (by unfold InI; omega)).mono ?_; rintro e w1 ⟨x, x1, x2, rfl, hC1, hO1⟩; have HC1 := hide hC1; have HO1 := hide hO1; clear hC1 hO1; rw [hb.out] at x2; obtain ⟨j, rfl⟩ := Int.eq_ofNat_of_zero_le x1; obtain ⟨y, hy, hcell⟩ := (HR.out.on HO1.out hg).2 j (by omega); have i1 : (j : Int) < (m : Int) := (by omega); have i2 : j < m := (by omega); have hy' := hide hy; clear hy)
 all_goals
  go_returns
  exact ⟨y, hy'.out, rfl, HC1.out, HO1.out⟩
end Go.Proofs.YtdacpljinffnaaaDoor
namespace Go.Proofs.YtdacpljinffnaaaDoor
set_option linter.unusedVariables false
set_option linter.unusedSimpArgs false
set_option maxRecDepth 100000
open Go.RowKit
def wE (d : Nat) : Nat := 160 * 7 ^ d
def ExprP (w : World) (c : Nat) (A : Option Addr) (n cap B : Nat) (e : Ending) (w' : World) : Prop :=
 ∃ t vs L, e = .returned (.agg vs.toArray) ∧ Dat.OwnVals w' L (TExpr.D t) vs ∧ L.Nodup ∧ (∀ k, k ∈ L → w.heap.size ≤ k ∧ k ≠ c) ∧ Dat.wtL t.D ≤ B ∧ Cur w' c A n cap ∧ Oth c w w'
abbrev ExprC (c : Nat) (A : Option Addr) (n cap : Nat) (d : Nat) : Prop := ∀ (w : World) (deep : Int), Cur w c A n cap → deep ≤ (d : Int) + 1 → -100 ≤ deep → deep ≤ 100 →
 Calls Tryd.prog 26 #[.pointer (some ⟨c, 0, none⟩), .int .i64 deep] w (ExprP w c A n cap (wE d))
theorem infoExpr : (Tryd.prog.info? 42).map (fun i => (i.zero, i.size, i.bytes)) = some (some (.agg #[.int .i64 0, .string ByteArray.empty, .int .i64 0, .int .i64 0, .slice none 0 0]), 5, 64) := by kernel_rfl
structure ErL (w wx : World) (c : Nat) (A : Option Addr) (n cap b : Nat) (kd : Int) (t : ByteArray) (m : Int) (v : Value) (L : List Nat) (ts : List TExpr) (d : Nat) : Prop where
 box : EB wx b (.int .i64 kd) (.string t) (.int .i64 m) (.int .i64 0) v
 res : EB wx w.heap.size (.int .i64 0) (.string ByteArray.empty) (.int .i64 0) (.int .i64 0) (.slice none 0 0)
 cur : Cur wx c A n cap
 oth : Oth c w wx
 own : OwnD wx 42 5 v L (ts.map TExpr.D)
 blk : ∀ k, Blk v L k → w.heap.size < k ∧ k ≠ b
 wgt : ∀ x ∈ ts, Dat.wtL (TExpr.D x) ≤ wE d
section
variable {w wx wy : World} {c : Nat} {A : Option Addr} {n cap b : Nat} {kd m : Int} {t : ByteArray} {v : Value} {L : List Nat} {ts : List TExpr} {d : Nat}
theorem ErL.on (h : ErL w wx c A n cap b kd t m v L ts d) (hc : c < w.heap.size) (k : Oth c wx wy) (hC : Cur wy c A n cap) (hw : w.heap.size ≠ c) (hb : b ≠ c) : ErL w wy c A n cap b kd t m v L ts d :=
 ⟨h.box.oth k hb, h.res.oth k hw, hC, h.oth.trans k, h.own.keep k.size (fun x hx => k.block x (h.own.lt x hx) (by have := (h.blk x hx).1; omega)), h.blk, h.wgt⟩
theorem ErL.bel (h : ErL w wx c A n cap b kd t m v L ts d) (hc : c < w.heap.size) (k : Bel wx wy) (hw : w.heap.size ≠ c) (hb : b ≠ c) : ErL w wy c A n cap b kd t m v L ts d := h.on hc (Oth.of_bel k) (h.cur.bel k) hw hb
theorem ErL.grow (h0 : Cur w c A n cap) (h : ErL w wx c A n cap b kd t m v L ts d) (hw : w.heap.size < b) (hb : b ≠ c) (hg : wx.grownBy wy v.ownBlock) {v9 : Value} {M : List Nat} {q : TExpr} (hO : OwnD wy 42 5 v9 (L ++ M) (ts.map TExpr.D ++ [q.D]))
  (h9 : ∀ k, v9.ownBlock = some k → v.ownBlock = some k ∨ wx.heap.size ≤ k) (hM : ∀ x, x ∈ M → x ≠ b ∧ w.heap.size < x ∧ ¬ Blk v L x) (hq : Dat.wtL q.D ≤ wE d) :
  EB wy b (.int .i64 kd) (.string t) (.int .i64 m) (.int .i64 0) v ∧ ErL w (wy.setCell ⟨b, 4, none⟩ v9) c A n cap b kd t m v9 (L ++ M) (ts ++ [q]) d := by
 have hc := h0.1
 have hs := hg.size
 have hoz := h.oth.size
 have hbx := h.box.1
 have hrx := h.res.1
 have same : ∀ k, k < wx.heap.size → (v.ownBlock = some k → False) → wy.heap[k]? = wx.heap[k]? := fun k hk hn => hg.block k hk (fun e => hn e.symm)
 have B9 := h.box.block hs (same b hbx (fun e => (h.blk b (Or.inl e)).2 rfl))
 have R9 := h.res.block hs (same _ hrx (fun e => by have := (h.blk _ (Or.inl e)).1; omega))
 have O9 : Oth c w wy := ⟨hg.os.trans h.oth.os, hg.tape.trans h.oth.tape, hg.output.trans h.oth.output, by omega, fun k hk hkc => (same k (by omega) (fun e => by have := (h.blk _ (Or.inl e)).1; omega)).trans (h.oth.block k hk hkc)⟩
 have C9 := h0.back h.cur O9 (same c (by omega) (fun e => by have := (h.blk _ (Or.inl e)).1; omega))
 have hblk : ∀ k, Blk v9 (L ++ M) k → w.heap.size < k ∧ k ≠ b := by
  rintro k (hk | hk)
  ·
   rcases h9 k hk with e | e
   ·
    exact h.blk k (Or.inl e)
   ·
    omega
  ·
   rcases List.mem_append.1 hk with hk | hk
   ·
    exact h.blk k (Or.inr hk)
   ·
    exact ⟨(hM k hk).2.1, (hM k hk).1⟩
 refine ⟨B9, B9.put4 _, R9.far 4 _ (by omega), h0.back C9 (O9.put (by omega) 4 _) (set_block 4 _ hb), O9.put (by omega) 4 _, ?_, hblk, ?_⟩
 ·
  rw [List.map_append, List.map_cons, List.map_nil]
  exact hO.keep (by simp) (fun x hx => set_block 4 _ (fun e => (hblk x hx).2 e.symm))
 ·
  intro x hx
  rcases List.mem_append.1 hx with hx | hx
  ·
   exact h.wgt x hx
  ·
   rw [List.mem_singleton.1 hx]; exact hq
theorem wts_le {B : Nat} : ∀ (l : List TExpr), (∀ x ∈ l, Dat.wtL (TExpr.D x) ≤ B) → Dat.wtR (l.map TExpr.D) ≤ l.length * B
 | [], _ => by simp [Dat.wtR]
 | x :: r, h => by
  have h1 := h x (by simp)
  have h2 := wts_le r (fun y hy => h y (by simp [hy]))
  simp only [List.map_cons, Dat.wtR, List.length_cons, Nat.succ_mul]
  omega
theorem wt_le (h : ∀ x ∈ ts, Dat.wtL (TExpr.D x) ≤ wE d) (hl : ts.length ≤ 6) (ht : t.size ≤ 20) : Dat.wtL (TExpr.mk kd t m 0 ts).D ≤ wE (d + 1) := by
 have h1 := wts_le ts h
 have h2 : 0 < 7 ^ d := Nat.pow_pos (by decide)
 have h3 : ts.length * wE d ≤ 6 * wE d := Nat.mul_le_mul_right _ hl
 rw [TExpr.D_mk]
 simp only [Dat.wtL, Dat.wt, List.length_map]
 unfold wE at *
 rw [Nat.pow_succ]
 generalize 7 ^ d = B at *
 generalize ts.length * (160 * B) = X at *
 omega
theorem ErL.fin (h0 : Cur w c A n cap) (h : ErL w wx c A n cap b kd t m v L ts d) (hw : w.heap.size < b) (hb : b ≠ c) (ik : InI kd) (ht : t.size ≤ 20) (im : InI m) (hl : ts.length ≤ 6) :
  ∀ wz, wz = ((((wx.setCell ⟨w.heap.size, 0, none⟩ (.int .i64 kd)).setCell ⟨w.heap.size, 1, none⟩ (.string t)).setCell ⟨w.heap.size, 2, none⟩ (.int .i64 m)).setCell ⟨w.heap.size, 3, none⟩ (.int .i64 0)).setCell ⟨w.heap.size, 4, none⟩ v →
   EB wz w.heap.size (.int .i64 kd) (.string t) (.int .i64 m) (.int .i64 0) v ∧ ExprP w c A n cap (wE (d + 1)) (.returned (.agg #[.int .i64 kd, .string t, .int .i64 m, .int .i64 0, v])) wz := by
 intro wz hwz
 have hc := h0.1
 have i0 : InI 0 := by unfold InI; omega
 have hsz : wz.heap.size = wx.heap.size := by rw [hwz]; simp
 have hsame : ∀ k, w.heap.size ≠ k → wz.heap[k]? = wx.heap[k]? := fun k hk => by
  rw [hwz, set_block 4 _ hk, set_block 3 _ hk, set_block 2 _ hk, set_block 1 _ hk, set_block 0 _ hk]
 have hO : Oth c w wz := by
  rw [hwz]
  exact ((((h.oth.put (Nat.le_refl _) 0 _).put (Nat.le_refl _) 1 _).put (Nat.le_refl _) 2 _).put (Nat.le_refl _) 3 _).put (Nat.le_refl _) 4 _
 refine ⟨by rw [hwz]; exact ((((h.res.put0 _).put1 _).put2 _).put3 _).put4 _, ?_⟩
 have hown := h.own.keep (w' := wz) (by omega) (fun x hx => hsame x (by have := (h.blk x hx).1; omega))
 obtain ⟨A', c', L', hv, hr, hn, hm⟩ := hown.ownRow
 rw [List.length_map] at hv
 subst hv
 exact ⟨.mk kd t m 0 ts, _, L', rfl, TExpr.own_mk ik (by unfold maxLen; omega) im i0 hr, hn, fun k hk => by have := (h.blk k (hm k hk)).1; omega, wt_le h.wgt hl ht, h0.back h.cur hO (hsame c (by omega)), hO⟩
end
end Go.Proofs.YtdacpljinffnaaaDoor
