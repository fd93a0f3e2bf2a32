/- Draws: a pattern of any depth. -/
import Derived.Test.YtdjbfneniohaaaaPFp2
namespace Go.Proofs.Ytdjbfneniohaaaa
set_option linter.unusedVariables false
set_option linter.unusedSimpArgs false
set_option maxRecDepth 100000
open Go.RowKit
theorem l18Tree_any (c : Nat) (A : Option Addr) (n cap : Nat) : ∀ d, TreeC c A n cap d
 | 0 => fun w deep vars hc hd h1 h2 h3 h4 => tree_step c A n cap 0 w deep vars hc hd h1 h2 h3 h4 (hide fun h => absurd h (by omega))
 | d + 1 => fun w deep vars hc hd h1 h2 h3 h4 => tree_step c A n cap (d + 1) w deep vars hc hd h1 h2 h3 h4 (hide fun _ => ⟨d, rfl, l18Tree_any c A n cap d⟩)
end Go.Proofs.Ytdjbfneniohaaaa
namespace Go.Proofs.Ytdjbfneniohaaaa
set_option linter.unusedVariables false
set_option linter.unusedSimpArgs false
set_option maxRecDepth 100000
open Go.RowKit
theorem l1Size_any (A : Option Addr) (n cap : Nat) (w : World) (hn : n ≤ 1048576) :
  Calls Try.prog 47 #[.slice A n cap, .int .i64 4] w fun e w' => (∃ x : Int, 0 ≤ x ∧ x ≤ 4 ∧ e = .returned (.int .i64 x)) ∧ w = w' := by
 have hq : (n : Int).tdiv 20 = ((n / 20 : Nat) : Int) := by rw [Int.tdiv_eq_ediv_of_nonneg (by omega)]; omega
 have hw : IntKind.i64.wrap ((n / 20 : Nat) : Int) = ((n / 20 : Nat) : Int) := by rw [IntKind.wrap_i64]; omega
 have hw2 : IntKind.i64.wrap (2 + ((n / 20 : Nat) : Int)) = 2 + ((n / 20 : Nat) : Int) := by rw [IntKind.wrap_i64]; omega
 go_enter Try.func47, Try.ntmps47
 go_wp2_with (fail)
 all_goals
  go_returns
  refine ⟨⟨_, ?_, ?_, rfl⟩, rfl⟩
  all_goals omega
def MatchP (w : World) (e : Ending) (w' : World) : Prop :=
 ∃ (ds : List TPattern) (v : Value) (vs : List Value) (L M : List Nat) (t : TPattern) (s : ByteArray), e = .returned (.tuple #[v, .agg vs.toArray, .string s]) ∧ OwnD w' 28 6 v L (ds.map TPattern.D) ∧ Dat.OwnVals w' M t.D vs ∧
  (∀ k, Blk v L k → w.heap.size ≤ k) ∧ (∀ k, k ∈ M → w.heap.size ≤ k) ∧ ds.length ≤ 3 ∧ (∀ x ∈ ds, TPattern.cnt x < 8) ∧ t.cnt < 64 ∧ s.size ≤ 20 ∧ Bel w w'
structure MaL (w1 wx : World) (c : Nat) (A : Option Addr) (n cap : Nat) (v : Value) (L : List Nat) (ts : List TPattern) : Prop where
 cur : Cur wx c A n cap
 oth : Oth c w1 wx
 own : OwnD wx 28 6 v L (ts.map TPattern.D)
 blk : ∀ k, Blk v L k → w1.heap.size ≤ k
 cnt : ∀ x ∈ ts, TPattern.cnt x < 8
section
variable {w1 wx wy : World} {c : Nat} {A : Option Addr} {n cap : Nat} {v : Value} {L : List Nat} {ts : List TPattern}
theorem MaL.on (h : MaL w1 wx c A n cap v L ts) (hc : c < w1.heap.size) (k : Oth c wx wy) (hC : Cur wy c A n cap) : MaL w1 wy c A n cap v L ts :=
 ⟨hC, h.oth.trans k, h.own.keep k.size (fun x hx => k.block x (h.own.lt x hx) (by have := h.blk x hx; omega)), h.blk, h.cnt⟩
theorem MaL.bel (h : MaL w1 wx c A n cap v L ts) (hc : c < w1.heap.size) (k : Bel wx wy) : MaL w1 wy c A n cap v L ts := h.on hc (Oth.of_bel k) (h.cur.bel k)
theorem MaL.grow (h0 : Cur w1 c A n cap) (h : MaL w1 wx c A n cap v L ts) (hg : wx.grownBy wy v.ownBlock) {v9 : Value} {M : List Nat} {q : TPattern} (hO : OwnD wy 28 6 v9 (L ++ M) (ts.map TPattern.D ++ [q.D]))
  (h9 : ∀ k, v9.ownBlock = some k → v.ownBlock = some k ∨ wx.heap.size ≤ k) (hM : ∀ x, x ∈ M → w1.heap.size ≤ x) (hq : q.cnt < 8) : MaL w1 wy c A n cap v9 (L ++ M) (ts ++ [q]) := by
 have hc := h0.1
 have hs := hg.size
 have hoz := h.oth.size
 have same : ∀ k, k < w1.heap.size → wy.heap[k]? = wx.heap[k]? := fun k hk => hg.block k (by omega) (fun e => by have := h.blk k (Or.inl e.symm); omega)
 have O9 : Oth c w1 wy := ⟨hg.os.trans h.oth.os, hg.tape.trans h.oth.tape, hg.output.trans h.oth.output, by omega, fun k hk hkc => (same k hk).trans (h.oth.block k hk hkc)⟩
 refine ⟨h0.back h.cur O9 (same c hc), O9, by rw [List.map_append, List.map_cons, List.map_nil]; exact hO, ?_, ?_⟩
 ·
  rintro k (hk | hk)
  ·
   rcases h9 k hk with e | e
   ·
    exact h.blk k (Or.inl e)
   ·
    omega
  ·
   rcases List.mem_append.1 hk with hk | hk
   ·
    exact h.blk k (Or.inr hk)
   ·
    exact hM k hk
 ·
  intro x hx
  rcases List.mem_append.1 hx with hx | hx
  ·
   exact h.cnt x hx
  ·
   rw [List.mem_singleton.1 hx]; exact hq
end
end Go.Proofs.Ytdjbfneniohaaaa
