/- CheckUnit: the program. -/
import Derived.Test.YtdacpljinffnaaaDoorPYx
import Derived.Test.YtdacpljinffnaaaDoorPYt
import Derived.Test.YtdacpljinffnaaaDoorPYr
namespace Go.Proofs.YtdacpljinffnaaaDoor
set_option linter.unusedVariables false
set_option linter.unusedSimpArgs false
set_option maxRecDepth 100000
open Go.RowKit
abbrev ChkC (f : FuncId) : Prop := ∀ (R : List TRecordType) (G : List ByteArray) (P : List TProcedure) (S : Nat → Prop) (w : World) (us : List Value), Sp w → Dat.HoldVals w S (TUnit.mk R G P).D us → Dat.wtL (TUnit.mk R G P).D ≤ 1048576 →
 Calls Tryd.prog f #[.agg us.toArray] w fun e w' => e = .returned (.tuple #[.int .i64 (chkU R G P).1, .int .i64 (chkU R G P).2]) ∧ Bel w w'
theorem chkU_no {R : List TRecordType} {G : List ByteArray} {P : List TProcedure} (h : unitB (.mk R G P) = false) : chkU R G P = (1, 0) := by unfold chkU; rw [h, if_neg (by simp)]
theorem chkU_nm {R : List TRecordType} {G : List ByteArray} {P : List TProcedure} (h : unitB (.mk R G P) = true) {a b : Int} (hn : nmR G P [] R = (a, b)) (ha : a ≠ 0) : chkU R G P = (a, b) := by unfold chkU; rw [h, if_pos rfl, hn, if_neg ha]
theorem chkU_go {R : List TRecordType} {G : List ByteArray} {P : List TProcedure} (h : unitB (.mk R G P) = true) {b : Int} (hn : nmR G P [] R = (0, b)) : chkU R G P = chQ R G P (P.drop 0) := by unfold chkU; rw [h, if_pos rfl, hn, if_pos rfl, List.drop_zero]
theorem mainS_list : mainS.toList = [109, 97, 105, 110] := by decide +kernel
theorem mainQ_eq {q : TProcedure} {nm : ByteArray} {ps : List ByteArray} (h1 : q.nm = nm) (h2 : q.pars = ps) : mainQ q = (decide (nm = mainS) && decide (ps.length = 0)) := by unfold mainQ; rw [h1, h2]
end Go.Proofs.YtdacpljinffnaaaDoor
