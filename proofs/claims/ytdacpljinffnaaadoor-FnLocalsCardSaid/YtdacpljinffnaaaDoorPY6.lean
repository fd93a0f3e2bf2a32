/- Valid units: plain. -/
import Derived.Test.YtdacpljinffnaaaDoorPY4
import Derived.Test.YtdacpljinffnaaaDoorPTV
namespace Go.Proofs.YtdacpljinffnaaaDoor
set_option linter.unusedVariables false
set_option linter.unusedSimpArgs false
set_option maxRecDepth 100000
open Go.RowKit
def TRecordType.name : TRecordType → ByteArray | .mk x _ _ => x
def TRecordType.fields : TRecordType → List ByteArray | .mk _ x _ => x
def TRecordType.line : TRecordType → Int | .mk _ _ x => x
def TProcedure.nm : TProcedure → ByteArray | .mk x _ _ _ _ _ _ _ _ => x
def TProcedure.pars : TProcedure → List ByteArray | .mk _ x _ _ _ _ _ _ _ => x
def TProcedure.locs : TProcedure → List ByteArray | .mk _ _ x _ _ _ _ _ _ => x
def TProcedure.body : TProcedure → TExpr | .mk _ _ _ k t n li ks _ => .mk k t n li ks
def TProcedure.line : TProcedure → Int | .mk _ _ _ _ _ _ _ _ x => x
def recV (r : TRecordType) : Bool := nameB r.name && r.fields.all nameB && decide (r.fields.length ≤ 6) && decide (0 ≤ r.line)
def procB (q : TProcedure) : Bool := nameB q.nm && q.pars.all nameB && decide (q.pars.length ≤ 6) && q.locs.all nameB && decide (q.locs.length ≤ 8) && decide (0 ≤ q.line) && decide (q.body.kind = 14) && exprB q.body
abbrev headU (R : List TRecordType) (G : List ByteArray) (P : List TProcedure) : Bool := decide (R.length ≤ 8) && decide (G.length ≤ 12) && decide (P.length ≤ 12) && G.all nameB
def unitB : TUnit → Bool
 | .mk R G P => headU R G P && R.all recV && P.all procB
theorem unit_head {R : List TRecordType} {G : List ByteArray} {P : List TProcedure} (h : headU R G P = false) : unitB (.mk R G P) = false := by simp only [unitB, h, Bool.false_and]
theorem unit_rec {R : List TRecordType} {G : List ByteArray} {P : List TProcedure} (m : Nat) (hm : m < R.length) (h : recV R[m] = false) : unitB (.mk R G P) = false := by
 have : R.all recV = false := List.all_eq_false.2 ⟨_, List.getElem_mem hm, by rw [h]; simp⟩
 simp only [unitB, this, Bool.false_and, Bool.and_false]
theorem unit_proc {R : List TRecordType} {G : List ByteArray} {P : List TProcedure} (m : Nat) (hm : m < P.length) (h : procB P[m] = false) : unitB (.mk R G P) = false := by
 have : P.all procB = false := List.all_eq_false.2 ⟨_, List.getElem_mem hm, by rw [h]; simp⟩
 simp only [unitB, this, Bool.and_false]
theorem unit_yes {R : List TRecordType} {G : List ByteArray} {P : List TProcedure} (h1 : headU R G P = true) (h2 : ∀ j (hj : j < R.length), recV R[j] = true) (h3 : ∀ j (hj : j < P.length), procB P[j] = true) : unitB (.mk R G P) = true := by
 have a2 : R.all recV = true := List.all_eq_true.2 fun x hx => by
  obtain ⟨k, hk, rfl⟩ := List.mem_iff_getElem.1 hx
  exact h2 k hk
 have a3 : P.all procB = true := List.all_eq_true.2 fun x hx => by
  obtain ⟨k, hk, rfl⟩ := List.mem_iff_getElem.1 hx
  exact h3 k hk
 simp only [unitB, h1, a2, a3, Bool.true_and]
theorem head_g {R : List TRecordType} {G : List ByteArray} {P : List TProcedure} (h : (G.all nameB && decide ((G.length : Int) ≤ 12)) = false) : headU R G P = false := by
 unfold headU
 rw [Bool.and_eq_false_iff, decide_eq_false_iff_not] at h
 rcases h with h | h
 ·
  rw [h]; simp
 ·
  rw [decide_eq_false (show ¬ G.length ≤ 12 by omega)]; simp
theorem names_split {G : List ByteArray} {b : Nat} (h : (G.all nameB && decide ((G.length : Int) ≤ (b : Int))) = false) : (G.all nameB && decide (G.length ≤ b)) = false := by
 rw [Bool.and_eq_false_iff, decide_eq_false_iff_not] at h ⊢
 rcases h with h | h
 ·
  exact Or.inl h
 ·
  exact Or.inr (by omega)
theorem wtR_getU : ∀ (l : List (List Dat)) (i : Nat) (h : i < l.length), Dat.wtL l[i] ≤ Dat.wtR l
 | x :: r, 0, _ => by simp only [Dat.wtR, List.getElem_cons_zero]; omega
 | x :: r, i + 1, h => by
  have := wtR_getU r i (by simpa using h)
  simp only [Dat.wtR, List.getElem_cons_succ]; omega
theorem proc_wt {l : List TProcedure} {m : Nat} (h : m < l.length) {b : Nat} (hw : Dat.wtR (l.map TProcedure.D) ≤ b) : l[m].body.cnt ≤ b + 1 := by
 have h1 := wtR_getU (l.map TProcedure.D) m (by simpa using h)
 rw [List.getElem_map] at h1
 have h2 := l[m].body.cnt_le
 have h3 : Dat.wtL l[m].body.D ≤ Dat.wtL l[m].D := by
  cases hq : l[m]
  simp only [TProcedure.body, TProcedure.D_mk, TExpr.D_mk, Dat.wtL]
  omega
 omega
abbrev UnitC (f : FuncId) (t : TUnit) : Prop := ∀ (S : Nat → Prop) (w : World) (vs : List Value), Sp w → Dat.HoldVals w S t.D vs → Dat.wtL t.D ≤ 1048576 → Calls Tryd.prog f #[.agg vs.toArray] w fun e w' => e = .returned (.bool (unitB t)) ∧ Bel w w'
end Go.Proofs.YtdacpljinffnaaaDoor
