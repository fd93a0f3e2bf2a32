/- A unit checked: plain. -/
import Derived.Test.YtdacpljinffnaaaDoorPYr
import Derived.Test.YtdacpljinffnaaaDoorPHExpr
import Derived.Deep.RegionHeld3
namespace Go.Proofs.YtdacpljinffnaaaDoor
set_option linter.unusedVariables false
set_option linter.unusedSimpArgs false
set_option maxRecDepth 100000
open Go.RowKit
mutual
/-- How many case expressions lie in an expression. -/
def TExpr.cas : TExpr → Nat
 | .mk k _ _ _ ks => (if k = 20 then 1 else 0) + TExpr.cass ks
def TExpr.cass : List TExpr → Nat
 | [] => 0
 | x :: r => TExpr.cas x + TExpr.cass r
end
mutual
theorem TExpr.cas_le : ∀ t : TExpr, t.cas ≤ t.cnt
 | .mk k _ _ _ ks => by
  have := TExpr.cass_le ks
  simp only [TExpr.cas, TExpr.cnt]
  split <;> omega
theorem TExpr.cass_le : ∀ l : List TExpr, TExpr.cass l ≤ TExpr.cnts l
 | [] => by simp [TExpr.cass]
 | x :: r => by
  have h1 := TExpr.cas_le x
  have h2 := TExpr.cass_le r
  simp only [TExpr.cass, TExpr.cnts]; omega
end
theorem TExpr.cass_take : ∀ (l : List TExpr) (k : Nat) (h : k < l.length), TExpr.cass (l.take (k + 1)) = TExpr.cass (l.take k) + l[k].cas
 | x :: r, 0, _ => by simp [TExpr.cass]
 | x :: r, k + 1, h => by
  have := TExpr.cass_take r k (by simpa using h)
  simp only [List.take_succ_cons, TExpr.cass, List.getElem_cons_succ, this]
  omega
theorem TExpr.cass_some : ∀ (l : List TExpr) (k : Nat), TExpr.cass (l.take k) ≤ TExpr.cass l
 | [], k => by simp
 | x :: r, 0 => by simp [TExpr.cass]
 | x :: r, k + 1 => by
  have := TExpr.cass_some r k
  simp only [List.take_succ_cons, TExpr.cass]; omega
def hereC (L G F : ByteArray → Bool) (k : Int) (t : ByteArray) (li : Int) (loop made : Bool) : Int × Int :=
 if ((k = 24 ∨ k = 25) ∧ loop = false) ∨ ((k = 21 ∨ k = 22 ∨ k = 23) ∧ made = true) then (4, li)
 else if k = 13 ∧ F t = false then (5, li) else if k = 28 ∧ L t = false ∧ G t = false then (6, li) else (0, 0)
def inC (k : Int) (i : Nat) (loop : Bool) : Bool := if k = 16 ∨ k = 17 ∨ k = 18 then decide (i = 1) else if k = 19 then true else if k = 24 ∨ k = 26 then false else loop
mutual
/-- The first fault of an expression. -/
def TExpr.chk (L G F : ByteArray → Bool) : TExpr → Bool → Bool → Int × Int
 | .mk k t _ li ks, loop, made => if (hereC L G F k t li loop made).1 = 0 then TExpr.chks L G F k loop (made || decide (k = 26)) 0 ks else hereC L G F k t li loop made
def TExpr.chks (L G F : ByteArray → Bool) (k : Int) (loop made : Bool) : Nat → List TExpr → Int × Int
 | _, [] => (0, 0)
 | i, x :: r => if (TExpr.chk L G F x (inC k i loop) made).1 = 0 then TExpr.chks L G F k loop made (i + 1) r else TExpr.chk L G F x (inC k i loop) made
end
theorem TExpr.chks_at {L G F : ByteArray → Bool} {k : Int} {loop made : Bool} {ks : List TExpr} {m : Nat} (h : m < ks.length) :
  TExpr.chks L G F k loop made m (ks.drop m) = if (TExpr.chk L G F ks[m] (inC k m loop) made).1 = 0 then TExpr.chks L G F k loop made (m + 1) (ks.drop (m + 1)) else TExpr.chk L G F ks[m] (inC k m loop) made := by
 rw [List.drop_eq_getElem_cons h, TExpr.chks]
theorem TExpr.chks_end {L G F : ByteArray → Bool} {k : Int} {loop made : Bool} {ks : List TExpr} {m : Nat} (h : ks.length ≤ m) :
  TExpr.chks L G F k loop made m (ks.drop m) = (0, 0) := by
 rw [List.drop_eq_nil_of_le h, TExpr.chks]
def takB (seen : List ByteArray) (x : ByteArray) : Bool := decide (0 ≤ funNumber x) || Lib.containsS seen x
theorem takB_spec (seen : List ByteArray) (x : ByteArray) : decide (0 ≤ Lib.idxOfS (funL ++ seen) x) = takB seen x := by
 unfold takB funNumber
 rw [Bool.eq_iff_iff, Bool.or_eq_true, decide_eq_true_eq, decide_eq_true_eq, Lib.containsS_iff, Lib.idxOfS_nonneg_iff, Lib.idxOfS_nonneg_iff, List.mem_append]
def nmP : List ByteArray → List TProcedure → Int × Int
 | _, [] => (0, 0)
 | seen, q :: r => if takB seen q.nm || twiceB (q.pars ++ q.locs) then (2, q.line) else nmP (seen ++ [q.nm]) r
def nmG (P : List TProcedure) : List ByteArray → List ByteArray → Int × Int
 | seen, [] => nmP seen P
 | seen, g :: r => if takB seen g then (2, 0) else nmG P (seen ++ [g]) r
def nmR (G : List ByteArray) (P : List TProcedure) : List ByteArray → List TRecordType → Int × Int
 | seen, [] => nmG P seen G
 | seen, x :: r => if takB seen x.name || twiceB x.fields then (2, x.line) else nmR G P (seen ++ [x.name]) r
theorem nmP_at {seen : List ByteArray} {P : List TProcedure} {m : Nat} (h : m < P.length) : nmP seen (P.drop m) = if takB seen P[m].nm || twiceB (P[m].pars ++ P[m].locs) then (2, P[m].line) else nmP (seen ++ [P[m].nm]) (P.drop (m + 1)) := by
 rw [List.drop_eq_getElem_cons h, nmP]
theorem nmP_end {seen : List ByteArray} {P : List TProcedure} {m : Nat} (h : P.length ≤ m) : nmP seen (P.drop m) = (0, 0) := by
 rw [List.drop_eq_nil_of_le h, nmP]
theorem nmG_at {P : List TProcedure} {seen G : List ByteArray} {m : Nat} (h : m < G.length) : nmG P seen (G.drop m) = if takB seen G[m] then (2, 0) else nmG P (seen ++ [G[m]]) (G.drop (m + 1)) := by
 rw [List.drop_eq_getElem_cons h, nmG]
theorem nmG_end {P : List TProcedure} {seen G : List ByteArray} {m : Nat} (h : G.length ≤ m) : nmG P seen (G.drop m) = nmP seen (P.drop 0) := by
 rw [List.drop_eq_nil_of_le h, nmG, List.drop_zero]
theorem nmR_at {G : List ByteArray} {P : List TProcedure} {seen : List ByteArray} {R : List TRecordType} {m : Nat} (h : m < R.length) : nmR G P seen (R.drop m) = if takB seen R[m].name || twiceB R[m].fields then (2, R[m].line) else nmR G P (seen ++ [R[m].name]) (R.drop (m + 1)) := by
 rw [List.drop_eq_getElem_cons h, nmR]
theorem nmR_end {G : List ByteArray} {P : List TProcedure} {seen : List ByteArray} {R : List TRecordType} {m : Nat} (h : R.length ≤ m) : nmR G P seen (R.drop m) = nmG P seen (G.drop 0) := by
 rw [List.drop_eq_nil_of_le h, nmR, List.drop_zero]
def isL (R : List TRecordType) (G : List ByteArray) (P : List TProcedure) (q : TProcedure) (x : ByteArray) : Bool := decide (0 ≤ Lib.idxOfS (locL R G P q) x)
def isG (R : List TRecordType) (G : List ByteArray) (P : List TProcedure) (x : ByteArray) : Bool := decide ((outP R G P x).1 = 2)
def isF (R : List TRecordType) (x : ByteArray) : Bool := R.any fun r => Lib.containsS r.fields x
def chkQ (R : List TRecordType) (G : List ByteArray) (P : List TProcedure) (q : TProcedure) : Int × Int := q.body.chk (isL R G P q) (isG R G P) (isF R) false false
def mainS : ByteArray := ⟨#[109, 97, 105, 110]⟩
def mainQ (q : TProcedure) : Bool := decide (q.nm = mainS) && decide (q.pars.length = 0)
def chQ (R : List TRecordType) (G : List ByteArray) (P : List TProcedure) : List TProcedure → Int × Int
 | [] => if P.any mainQ then (0, 0) else (3, 0)
 | q :: r => if (chkQ R G P q).1 = 0 then (if (locL R G P q).length + q.body.cas > 24 then (7, q.line) else chQ R G P r) else chkQ R G P q
theorem chQ_at {R : List TRecordType} {G : List ByteArray} {P Q : List TProcedure} {m : Nat} (h : m < Q.length) : chQ R G P (Q.drop m) = if (chkQ R G P Q[m]).1 = 0 then (if (locL R G P Q[m]).length + Q[m].body.cas > 24 then (7, Q[m].line) else chQ R G P (Q.drop (m + 1))) else chkQ R G P Q[m] := by
 rw [List.drop_eq_getElem_cons h, chQ]
theorem chQ_end {R : List TRecordType} {G : List ByteArray} {P Q : List TProcedure} {m : Nat} (h : Q.length ≤ m) : chQ R G P (Q.drop m) = if P.any mainQ then (0, 0) else (3, 0) := by
 rw [List.drop_eq_nil_of_le h, chQ]
def chkU (R : List TRecordType) (G : List ByteArray) (P : List TProcedure) : Int × Int :=
 if unitB (.mk R G P) = true then (if (nmR G P [] R).1 = 0 then chQ R G P P else nmR G P [] R) else (1, 0)
theorem any_take_succ {α : Type} (f : α → Bool) (l : List α) (m : Nat) (h : m < l.length) : (l.take (m + 1)).any f = ((l.take m).any f || f l[m]) := by
 rw [List.take_succ_eq_append_getElem h, List.any_append]; simp
end Go.Proofs.YtdacpljinffnaaaDoor
namespace Go.Proofs.YtdacpljinffnaaaDoor
set_option linter.unusedVariables false
set_option linter.unusedSimpArgs false
set_option maxRecDepth 100000
open Go.RowKit
def chkOfT : TUnit → Int × Int
 | ⟨R, G, P⟩ => chkU R G P
end Go.Proofs.YtdacpljinffnaaaDoor
namespace Go.Proofs.YtdacpljinffnaaaDoor
set_option linter.unusedVariables false
set_option linter.unusedSimpArgs false
set_option maxRecDepth 100000
open Go.RowKit
theorem nodup_twice {l : List ByteArray} (h : twiceB l = false) : l.Nodup := by
 have hh : ∀ i (hi : i < l.length), Lib.containsS (l.take i) l[i] = false := fun i hi => by
  cases hc : Lib.containsS (l.take i) l[i] with
  | false => rfl
  | true => rw [twice_yes i hi hc] at h; cases h
 refine List.pairwise_iff_getElem.2 fun i j hi hj hij he => ?_
 have h1 := hh j hj
 rw [← Bool.not_eq_true, Lib.containsS_iff] at h1
 refine h1 ?_
 rw [← he]
 exact List.mem_iff_getElem.2 ⟨i, by simp; omega, by simp⟩
theorem idx_self {l : List ByteArray} (h : l.Nodup) {i : Nat} (hi : i < l.length) : Lib.idxOfS l l[i] = i :=
 idx_hit hi rfl (fun j hj hji he => List.pairwise_iff_getElem.1 h j i hj hi hji he)
mutual
theorem TExpr.col_nodup (O : ByteArray → Bool) : ∀ (t : TExpr) (xs : List ByteArray), xs.Nodup → (t.col O xs).Nodup
 | .mk k t _ _ ks, xs, h => by
  simp only [TExpr.col]
  refine TExpr.cols_nodup O ks _ ?_
  split
  ·
   rename_i hc
   have hn : t ∉ xs := fun hm => by
    have := hc.2.2
    rw [(Lib.containsS_iff _ _).2 hm] at this
    cases this
   exact List.nodup_append.2 ⟨h, by simp, fun a ha b hb he => hn (by rw [List.mem_singleton.1 hb] at he; rw [← he]; exact ha)⟩
  ·
   exact h
theorem TExpr.cols_nodup (O : ByteArray → Bool) : ∀ (l : List TExpr) (xs : List ByteArray), xs.Nodup → (TExpr.cols O l xs).Nodup
 | [], xs, h => by simpa [TExpr.cols] using h
 | x :: r, xs, h => by
  simp only [TExpr.cols]
  exact TExpr.cols_nodup O r _ (TExpr.col_nodup O x xs h)
end
theorem nmP_ok : ∀ {P : List TProcedure} {seen : List ByteArray}, (nmP seen P).1 = 0 → ∀ q ∈ P, twiceB (q.pars ++ q.locs) = false
 | [], _, _, q, hq => by cases hq
 | p :: r, seen, h, q, hq => by
  unfold nmP at h
  split at h
  ·
   cases h
  ·
   rename_i hc
   rcases List.mem_cons.1 hq with rfl | hq
   ·
    cases ht : twiceB (q.pars ++ q.locs) with
    | false => rfl
    | true => exact absurd (by rw [ht, Bool.or_true]) hc
   ·
    exact nmP_ok h q hq
theorem nmG_ok {P : List TProcedure} : ∀ {G seen : List ByteArray}, (nmG P seen G).1 = 0 → ∃ s, (nmP s P).1 = 0
 | [], seen, h => ⟨seen, by unfold nmG at h; exact h⟩
 | g :: r, seen, h => by
  unfold nmG at h
  split at h
  ·
   cases h
  ·
   exact nmG_ok h
theorem nmR_ok {G : List ByteArray} {P : List TProcedure} : ∀ {R : List TRecordType} {seen : List ByteArray}, (nmR G P seen R).1 = 0 → ∃ s, (nmP s P).1 = 0
 | [], seen, h => by unfold nmR at h; exact nmG_ok h
 | g :: r, seen, h => by
  unfold nmR at h
  split at h
  ·
   cases h
  ·
   exact nmR_ok h
theorem loc_nodup {R : List TRecordType} {G : List ByteArray} {P : List TProcedure} (h : (chkU R G P).1 = 0) {q : TProcedure} (hq : q ∈ P) : (locL R G P q).Nodup := by
 unfold chkU at h
 split at h
 ·
  split at h
  ·
   rename_i hn
   obtain ⟨s, hs⟩ := nmR_ok hn
   exact TExpr.col_nodup _ _ _ (nodup_twice (nmP_ok hs q hq))
  ·
   rename_i hn
   exact absurd h hn
 ·
  cases h
theorem locals_law {t : TUnit} {k : Int} (h : (chkOfT t).1 = 0) : ∀ (i : Nat) (hi : i < (locT t k).length), resT t k (locT t k)[i] = (1, (i : Int)) := by
 obtain ⟨R, G, P⟩ := t
 have key : ∀ (l : List ByteArray), locF R G P k = l → ∀ (i : Nat) (hi : i < l.length), resF R G P k l[i] = (1, (i : Int)) := by
  intro l hl i hi
  unfold locF at hl
  unfold resF
  split at hl
  ·
   rename_i hc
   rw [if_pos hc]
   cases hq : P[k.toNat]? with
   | none => simp only [hq] at hl; subst hl; cases hi
   | some q =>
    simp only [hq] at hl ⊢
    subst hl
    have hn := loc_nodup h (List.mem_of_getElem? hq)
    have hx := idx_self hn hi
    unfold resV
    rw [hx, if_pos (by omega)]
  ·
   subst hl; cases hi
 exact key _ rfl
end Go.Proofs.YtdacpljinffnaaaDoor
