/- The names of a procedure: plain. -/
import Derived.Test.YtdacpljinffnaaaDoorPYd
import Derived.Laws.OwnMore
namespace Go.Proofs.YtdacpljinffnaaaDoor
set_option linter.unusedVariables false
set_option linter.unusedSimpArgs false
set_option maxRecDepth 100000
open Go.RowKit
def locL (R : List TRecordType) (G : List ByteArray) (P : List TProcedure) (q : TProcedure) : List ByteArray := q.body.col (outO R G P) (q.pars ++ q.locs)
theorem proc_ok {R : List TRecordType} {G : List ByteArray} {P : List TProcedure} (h : unitB (.mk R G P) = true) {m : Nat} (hm : m < P.length) : procB P[m] = true := by
 cases hq : procB P[m]
 ·
  rw [unit_proc m hm hq] at h; cases h
 ·
  rfl
theorem proc_parts {q : TProcedure} (h : procB q = true) : q.pars.length ≤ 6 ∧ q.locs.length ≤ 8 ∧ q.body.vld = true ∧ q.body.cnt ≤ 600 ∧ q.pars.all nameB = true ∧ q.locs.all nameB = true := by
 unfold procB exprB at h
 simp only [Bool.and_eq_true, decide_eq_true_eq] at h
 exact ⟨h.1.1.1.1.1.2, h.1.1.1.2, h.2.2, h.2.1.1, h.1.1.1.1.1.1.2, h.1.1.1.1.2⟩
theorem name_size {s : ByteArray} (h : nameB s = true) : s.size ≤ maxLen := by
 unfold nameB at h
 simp only [Bool.and_eq_true, decide_eq_true_eq] at h
 unfold maxLen
 omega
theorem row_news {w : World} {S : Nat → Prop} {ad : Addr} {c : Nat} {l : List ByteArray} (h : Row w S 1 (some ad) c (strsD l)) : ∀ (j : Nat) (u : Value), (l.map Value.string)[j]? = some u → w.cell? (ad.add j) = some u := by
 intro j u hu
 obtain ⟨hj, rfl⟩ := List.getElem?_eq_some_iff.1 hu
 have hj' : j < l.length := by simpa using hj
 obtain ⟨b, oo, he, -, -⟩ := Row.addr h (by simp; omega)
 obtain rfl := Option.some.inj he
 have hc := Row.strs h j hj'
 rw [getD_lt2 l j hj'] at hc
 rw [List.getElem_map, Addr.add_lit]
 exact hc
theorem run_append_zero {P : Program} {w : World} (base : Nat) (t ty e : TypeId) (i : TypeInfo) (size : Nat) (ht : P.underlying t = some (.slice e)) (hi : P.info? e = some i) (v : Value) (n : Nat) (xs : List Value) (hown : w.ownsRow base e size v n xs) (A : Option Addr) (c : Nat) :
  (Builtin.append_ #[t, t] ty #[v, .slice A 0 c]).run P w = .ok v w := by
 rcases hown.2 with ⟨rfl, rfl⟩ | ⟨g, cap, cur, rfl, -, -, hnc, -⟩
 all_goals cases A
 all_goals simp [Builtin.append_, run_underlying ht, sizeOf, typeInfo, hi, Builtin.lenOf, Builtin.firstCells, loadCells, loadCellsFrom, storeCells, *]
theorem wp_append_zero {P : Program} {w : World} {o : Oper} {a : Act} {K : Act → World → Prop} {Q : Exit → Act → World → Prop} (s x : Operand) (t : TypeId) (ho : o.op = .call { callee := .builtin .append, args := #[s, x], argTypes := #[t, t] })
  (base : Nat) (e : TypeId) (i : TypeInfo) (size : Nat) (ht : P.underlying t = some (.slice e)) (hi : P.info? e = some i) (v : Value) (n : Nat) (xs : List Value) (hs : a.eval s = v) (hown : w.ownsRow base e size v n xs) (A : Option Addr) (n0 c : Nat) (hx : a.eval x = .slice A n0 c) (hn : n0 = 0) (h : K (a.put o.dst v) w) : o.wp P a w K Q := by
 subst hn
 have hrun := run_append_zero (P := P) (w := w) base t o.type e i size ht hi v n xs hown A c
 unfold Oper.wp
 simp [execOp, ho, resolve, invoke, builtin, hs, hx, hrun, Result.andThen]
 exact h
def LocPost (w : World) (xs : List ByteArray) (e : Ending) (w' : World) : Prop := ∃ v', e = .returned v' ∧ OwnS w w' v' xs ∧ Bel w w'
abbrev LocC (f : FuncId) : Prop := ∀ (R : List TRecordType) (G : List ByteArray) (P : List TProcedure) (m : Nat) (hm : m < P.length) (S : Nat → Prop) (w : World) (us : List Value),
 Sp w → Dat.HoldVals w S (TUnit.mk R G P).D us → Dat.wtL (TUnit.mk R G P).D ≤ 1048576 → unitB (TUnit.mk R G P) = true →
 Calls Tryd.prog f #[.agg us.toArray, .int .i64 m] w (LocPost w (locL R G P P[m]))
end Go.Proofs.YtdacpljinffnaaaDoor
