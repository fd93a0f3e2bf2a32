/- FormatInt of the program. -/
import Derived.Test.YtpcimcamjlbagaaDoorE0
namespace Go.Proofs.YtpcimcamjlbagaaDoor
set_option linter.unusedVariables false
set_option linter.unusedSimpArgs false
set_option maxRecDepth 100000
open Go.RowKit

open Go.Sort in
theorem bel_itoa (w : World) (q : Nat) (os : Array Obj) : Bel w (grow (w.drewN q) os) :=
  ⟨rfl, rfl, rfl, by simp [grow], fun i hi => by
    show ((w.drewN q).heap ++ os)[i]? = _
    rw [Array.getElem?_append_left (by show i < w.heap.size; omega)]
    rfl⟩
theorem implFormatInt_any (n : Int) (w : World) (hn : InI n) (ht : P10 w) :
    Calls Tryd.prog 19 #[.int .i64 n] w fun e w' => e = .returned (.string ⟨(Lib.itoa n).toArray⟩) ∧ Bel w w' := by
  have hI := Tryd.strconv_Itoa n hn.1 hn.2 w ht
  go_enter Tryd.func19, Tryd.ntmps19
  go_wp2_with (go_at_call 28; refine hI.mono ?_; rintro e w1 ⟨rfl, k, os, hw1⟩; have hb1 : Bel w w1 := (by rw [hw1]; exact bel_itoa w k os); clear hw1)
  all_goals
    go_returns
    exact ⟨rfl, bl⟩
end Go.Proofs.YtpcimcamjlbagaaDoor
