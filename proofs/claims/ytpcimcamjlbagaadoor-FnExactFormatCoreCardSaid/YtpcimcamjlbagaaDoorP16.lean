/- The text of a pattern. -/
import Derived.Test.YtpcimcamjlbagaaDoorQc
import Derived.Test.YtpcimcamjlbagaaDoorHPattern
import Derived.Test.YtpcimcamjlbagaaDoorP5
import Derived.Test.YtpcimcamjlbagaaDoorE7
import Derived.Test.YtpcimcamjlbagaaDoorEi
import Derived.Lib.ItoaLen
import Derived.Laws.Concat
namespace Go.Proofs.YtpcimcamjlbagaaDoor
set_option linter.unusedVariables false
set_option linter.unusedSimpArgs false
set_option maxRecDepth 100000
open Go.RowKit

/-- The text of a node. -/
def fmtB (op : Int) (t : ByteArray) (n lo hi : Int) (f0 f1 : ByteArray) : ByteArray :=
  if op = 1 then qt 34 t else
  if op = 2 then (⟨#[76, 101, 110]⟩ : ByteArray) ++ (⟨#[40]⟩ : ByteArray) ++ (⟨(Lib.itoa n).toArray⟩ : ByteArray) ++ (⟨#[41]⟩ : ByteArray) else
  if op = 3 then (⟨#[80, 111, 115]⟩ : ByteArray) ++ (⟨#[40]⟩ : ByteArray) ++ (⟨(Lib.itoa n).toArray⟩ : ByteArray) ++ (⟨#[41]⟩ : ByteArray) else
  if op = 4 then (⟨#[82, 80, 111, 115]⟩ : ByteArray) ++ (⟨#[40]⟩ : ByteArray) ++ (⟨(Lib.itoa n).toArray⟩ : ByteArray) ++ (⟨#[41]⟩ : ByteArray) else
  if op = 5 then (⟨#[84, 97, 98]⟩ : ByteArray) ++ (⟨#[40]⟩ : ByteArray) ++ (⟨(Lib.itoa n).toArray⟩ : ByteArray) ++ (⟨#[41]⟩ : ByteArray) else
  if op = 6 then (⟨#[82, 84, 97, 98]⟩ : ByteArray) ++ (⟨#[40]⟩ : ByteArray) ++ (⟨(Lib.itoa n).toArray⟩ : ByteArray) ++ (⟨#[41]⟩ : ByteArray) else
  if op = 7 then (⟨#[65, 110, 121]⟩ : ByteArray) ++ (⟨#[40]⟩ : ByteArray) ++ qt 39 (csT lo hi) ++ (⟨#[41]⟩ : ByteArray) else
  if op = 8 then (⟨#[78, 111, 116, 65, 110, 121]⟩ : ByteArray) ++ (⟨#[40]⟩ : ByteArray) ++ qt 39 (csT lo hi) ++ (⟨#[41]⟩ : ByteArray) else
  if op = 9 then (⟨#[83, 112, 97, 110]⟩ : ByteArray) ++ (⟨#[40]⟩ : ByteArray) ++ qt 39 (csT lo hi) ++ (⟨#[41]⟩ : ByteArray) else
  if op = 10 then (⟨#[66, 114, 101, 97, 107]⟩ : ByteArray) ++ (⟨#[40]⟩ : ByteArray) ++ qt 39 (csT lo hi) ++ (⟨#[41]⟩ : ByteArray) else
  if op = 11 then (⟨#[65, 114, 98]⟩ : ByteArray) ++ (⟨#[40, 41]⟩ : ByteArray) else
  if op = 12 then (⟨#[82, 101, 109]⟩ : ByteArray) ++ (⟨#[40, 41]⟩ : ByteArray) else
  if op = 13 then (⟨#[65, 114, 98, 110, 111]⟩ : ByteArray) ++ (⟨#[40]⟩ : ByteArray) ++ f0 ++ (⟨#[41]⟩ : ByteArray) else
  if op = 14 then (⟨#[40]⟩ : ByteArray) ++ f0 ++ (⟨#[32, 124, 124, 32]⟩ : ByteArray) ++ f1 ++ (⟨#[41]⟩ : ByteArray) else
  if op = 15 then (⟨#[40]⟩ : ByteArray) ++ f0 ++ (⟨#[32, 46, 124, 32]⟩ : ByteArray) ++ f1 ++ (⟨#[41]⟩ : ByteArray) else
  if op = 16 then (⟨#[40]⟩ : ByteArray) ++ f0 ++ (⟨#[32, 45, 62, 32]⟩ : ByteArray) ++ (⟨#[118]⟩ : ByteArray) ++ (⟨(Lib.itoa n).toArray⟩ : ByteArray) ++ (⟨#[41]⟩ : ByteArray) else
  if op = 17 then (⟨#[40]⟩ : ByteArray) ++ f0 ++ (⟨#[32, 61, 62, 32]⟩ : ByteArray) ++ (⟨#[118]⟩ : ByteArray) ++ (⟨(Lib.itoa n).toArray⟩ : ByteArray) ++ (⟨#[41]⟩ : ByteArray) else
  if op = 18 then (⟨#[46, 62]⟩ : ByteArray) ++ (⟨#[118]⟩ : ByteArray) ++ (⟨(Lib.itoa n).toArray⟩ : ByteArray) else
  if op = 19 then (⟨#[70, 101, 110, 99, 101]⟩ : ByteArray) ++ (⟨#[40, 41]⟩ : ByteArray) else
  if op = 20 then (⟨#[100, 101, 102, 101, 114, 32]⟩ : ByteArray) ++ (⟨#[118]⟩ : ByteArray) ++ (⟨(Lib.itoa n).toArray⟩ : ByteArray) else
  if op = 21 then (⟨#[65, 98, 111, 114, 116]⟩ : ByteArray) ++ (⟨#[40, 41]⟩ : ByteArray) else
  if op = 22 then (⟨#[69, 109, 112, 116, 121]⟩ : ByteArray) ++ (⟨#[40, 41]⟩ : ByteArray) else
  if op = 23 then (⟨#[70, 97, 105, 108]⟩ : ByteArray) ++ (⟨#[40, 41]⟩ : ByteArray) else
  ⟨#[63]⟩
theorem fmtB_1 (t : ByteArray) (n lo hi : Int) (f0 f1 : ByteArray) : fmtB 1 t n lo hi f0 f1 = qt 34 t := by
  unfold fmtB; simp only [if_true]
theorem fmtB_2 (t : ByteArray) (n lo hi : Int) (f0 f1 : ByteArray) : fmtB 2 t n lo hi f0 f1 = (⟨#[76, 101, 110]⟩ : ByteArray) ++ (⟨#[40]⟩ : ByteArray) ++ (⟨(Lib.itoa n).toArray⟩ : ByteArray) ++ (⟨#[41]⟩ : ByteArray) := by
  unfold fmtB; simp only [show ((2 : Int) = 1) = False from by simp, if_false, if_true]
theorem fmtB_3 (t : ByteArray) (n lo hi : Int) (f0 f1 : ByteArray) : fmtB 3 t n lo hi f0 f1 = (⟨#[80, 111, 115]⟩ : ByteArray) ++ (⟨#[40]⟩ : ByteArray) ++ (⟨(Lib.itoa n).toArray⟩ : ByteArray) ++ (⟨#[41]⟩ : ByteArray) := by
  unfold fmtB; simp only [show ((3 : Int) = 1) = False from by simp, show ((3 : Int) = 2) = False from by simp, if_false, if_true]
theorem fmtB_4 (t : ByteArray) (n lo hi : Int) (f0 f1 : ByteArray) : fmtB 4 t n lo hi f0 f1 = (⟨#[82, 80, 111, 115]⟩ : ByteArray) ++ (⟨#[40]⟩ : ByteArray) ++ (⟨(Lib.itoa n).toArray⟩ : ByteArray) ++ (⟨#[41]⟩ : ByteArray) := by
  unfold fmtB; simp only [show ((4 : Int) = 1) = False from by simp, show ((4 : Int) = 2) = False from by simp, show ((4 : Int) = 3) = False from by simp, if_false, if_true]
theorem fmtB_5 (t : ByteArray) (n lo hi : Int) (f0 f1 : ByteArray) : fmtB 5 t n lo hi f0 f1 = (⟨#[84, 97, 98]⟩ : ByteArray) ++ (⟨#[40]⟩ : ByteArray) ++ (⟨(Lib.itoa n).toArray⟩ : ByteArray) ++ (⟨#[41]⟩ : ByteArray) := by
  unfold fmtB; simp only [show ((5 : Int) = 1) = False from by simp, show ((5 : Int) = 2) = False from by simp, show ((5 : Int) = 3) = False from by simp, show ((5 : Int) = 4) = False from by simp, if_false, if_true]
theorem fmtB_6 (t : ByteArray) (n lo hi : Int) (f0 f1 : ByteArray) : fmtB 6 t n lo hi f0 f1 = (⟨#[82, 84, 97, 98]⟩ : ByteArray) ++ (⟨#[40]⟩ : ByteArray) ++ (⟨(Lib.itoa n).toArray⟩ : ByteArray) ++ (⟨#[41]⟩ : ByteArray) := by
  unfold fmtB; simp only [show ((6 : Int) = 1) = False from by simp, show ((6 : Int) = 2) = False from by simp, show ((6 : Int) = 3) = False from by simp, show ((6 : Int) = 4) = False from by simp, show ((6 : Int) = 5) = False from by simp, if_false, if_true]
theorem fmtB_7 (t : ByteArray) (n lo hi : Int) (f0 f1 : ByteArray) : fmtB 7 t n lo hi f0 f1 = (⟨#[65, 110, 121]⟩ : ByteArray) ++ (⟨#[40]⟩ : ByteArray) ++ qt 39 (csT lo hi) ++ (⟨#[41]⟩ : ByteArray) := by
  unfold fmtB; simp only [show ((7 : Int) = 1) = False from by simp, show ((7 : Int) = 2) = False from by simp, show ((7 : Int) = 3) = False from by simp, show ((7 : Int) = 4) = False from by simp, show ((7 : Int) = 5) = False from by simp, show ((7 : Int) = 6) = False from by simp, if_false, if_true]
theorem fmtB_8 (t : ByteArray) (n lo hi : Int) (f0 f1 : ByteArray) : fmtB 8 t n lo hi f0 f1 = (⟨#[78, 111, 116, 65, 110, 121]⟩ : ByteArray) ++ (⟨#[40]⟩ : ByteArray) ++ qt 39 (csT lo hi) ++ (⟨#[41]⟩ : ByteArray) := by
  unfold fmtB; simp only [show ((8 : Int) = 1) = False from by simp, show ((8 : Int) = 2) = False from by simp, show ((8 : Int) = 3) = False from by simp, show ((8 : Int) = 4) = False from by simp, show ((8 : Int) = 5) = False from by simp, show ((8 : Int) = 6) = False from by simp, show ((8 : Int) = 7) = False from by simp, if_false, if_true]
theorem fmtB_9 (t : ByteArray) (n lo hi : Int) (f0 f1 : ByteArray) : fmtB 9 t n lo hi f0 f1 = (⟨#[83, 112, 97, 110]⟩ : ByteArray) ++ (⟨#[40]⟩ : ByteArray) ++ qt 39 (csT lo hi) ++ (⟨#[41]⟩ : ByteArray) := by
  unfold fmtB; simp only [show ((9 : Int) = 1) = False from by simp, show ((9 : Int) = 2) = False from by simp, show ((9 : Int) = 3) = False from by simp, show ((9 : Int) = 4) = False from by simp, show ((9 : Int) = 5) = False from by simp, show ((9 : Int) = 6) = False from by simp, show ((9 : Int) = 7) = False from by simp, show ((9 : Int) = 8) = False from by simp, if_false, if_true]
theorem fmtB_10 (t : ByteArray) (n lo hi : Int) (f0 f1 : ByteArray) : fmtB 10 t n lo hi f0 f1 = (⟨#[66, 114, 101, 97, 107]⟩ : ByteArray) ++ (⟨#[40]⟩ : ByteArray) ++ qt 39 (csT lo hi) ++ (⟨#[41]⟩ : ByteArray) := by
  unfold fmtB; simp only [show ((10 : Int) = 1) = False from by simp, show ((10 : Int) = 2) = False from by simp, show ((10 : Int) = 3) = False from by simp, show ((10 : Int) = 4) = False from by simp, show ((10 : Int) = 5) = False from by simp, show ((10 : Int) = 6) = False from by simp, show ((10 : Int) = 7) = False from by simp, show ((10 : Int) = 8) = False from by simp, show ((10 : Int) = 9) = False from by simp, if_false, if_true]
theorem fmtB_11 (t : ByteArray) (n lo hi : Int) (f0 f1 : ByteArray) : fmtB 11 t n lo hi f0 f1 = (⟨#[65, 114, 98]⟩ : ByteArray) ++ (⟨#[40, 41]⟩ : ByteArray) := by
  unfold fmtB; simp only [show ((11 : Int) = 1) = False from by simp, show ((11 : Int) = 2) = False from by simp, show ((11 : Int) = 3) = False from by simp, show ((11 : Int) = 4) = False from by simp, show ((11 : Int) = 5) = False from by simp, show ((11 : Int) = 6) = False from by simp, show ((11 : Int) = 7) = False from by simp, show ((11 : Int) = 8) = False from by simp, show ((11 : Int) = 9) = False from by simp, show ((11 : Int) = 10) = False from by simp, if_false, if_true]
theorem fmtB_12 (t : ByteArray) (n lo hi : Int) (f0 f1 : ByteArray) : fmtB 12 t n lo hi f0 f1 = (⟨#[82, 101, 109]⟩ : ByteArray) ++ (⟨#[40, 41]⟩ : ByteArray) := by
  unfold fmtB; simp only [show ((12 : Int) = 1) = False from by simp, show ((12 : Int) = 2) = False from by simp, show ((12 : Int) = 3) = False from by simp, show ((12 : Int) = 4) = False from by simp, show ((12 : Int) = 5) = False from by simp, show ((12 : Int) = 6) = False from by simp, show ((12 : Int) = 7) = False from by simp, show ((12 : Int) = 8) = False from by simp, show ((12 : Int) = 9) = False from by simp, show ((12 : Int) = 10) = False from by simp, show ((12 : Int) = 11) = False from by simp, if_false, if_true]
theorem fmtB_13 (t : ByteArray) (n lo hi : Int) (f0 f1 : ByteArray) : fmtB 13 t n lo hi f0 f1 = (⟨#[65, 114, 98, 110, 111]⟩ : ByteArray) ++ (⟨#[40]⟩ : ByteArray) ++ f0 ++ (⟨#[41]⟩ : ByteArray) := by
  unfold fmtB; simp only [show ((13 : Int) = 1) = False from by simp, show ((13 : Int) = 2) = False from by simp, show ((13 : Int) = 3) = False from by simp, show ((13 : Int) = 4) = False from by simp, show ((13 : Int) = 5) = False from by simp, show ((13 : Int) = 6) = False from by simp, show ((13 : Int) = 7) = False from by simp, show ((13 : Int) = 8) = False from by simp, show ((13 : Int) = 9) = False from by simp, show ((13 : Int) = 10) = False from by simp, show ((13 : Int) = 11) = False from by simp, show ((13 : Int) = 12) = False from by simp, if_false, if_true]
theorem fmtB_14 (t : ByteArray) (n lo hi : Int) (f0 f1 : ByteArray) : fmtB 14 t n lo hi f0 f1 = (⟨#[40]⟩ : ByteArray) ++ f0 ++ (⟨#[32, 124, 124, 32]⟩ : ByteArray) ++ f1 ++ (⟨#[41]⟩ : ByteArray) := by
  unfold fmtB; simp only [show ((14 : Int) = 1) = False from by simp, show ((14 : Int) = 2) = False from by simp, show ((14 : Int) = 3) = False from by simp, show ((14 : Int) = 4) = False from by simp, show ((14 : Int) = 5) = False from by simp, show ((14 : Int) = 6) = False from by simp, show ((14 : Int) = 7) = False from by simp, show ((14 : Int) = 8) = False from by simp, show ((14 : Int) = 9) = False from by simp, show ((14 : Int) = 10) = False from by simp, show ((14 : Int) = 11) = False from by simp, show ((14 : Int) = 12) = False from by simp, show ((14 : Int) = 13) = False from by simp, if_false, if_true]
theorem fmtB_15 (t : ByteArray) (n lo hi : Int) (f0 f1 : ByteArray) : fmtB 15 t n lo hi f0 f1 = (⟨#[40]⟩ : ByteArray) ++ f0 ++ (⟨#[32, 46, 124, 32]⟩ : ByteArray) ++ f1 ++ (⟨#[41]⟩ : ByteArray) := by
  unfold fmtB; simp only [show ((15 : Int) = 1) = False from by simp, show ((15 : Int) = 2) = False from by simp, show ((15 : Int) = 3) = False from by simp, show ((15 : Int) = 4) = False from by simp, show ((15 : Int) = 5) = False from by simp, show ((15 : Int) = 6) = False from by simp, show ((15 : Int) = 7) = False from by simp, show ((15 : Int) = 8) = False from by simp, show ((15 : Int) = 9) = False from by simp, show ((15 : Int) = 10) = False from by simp, show ((15 : Int) = 11) = False from by simp, show ((15 : Int) = 12) = False from by simp, show ((15 : Int) = 13) = False from by simp, show ((15 : Int) = 14) = False from by simp, if_false, if_true]
theorem fmtB_16 (t : ByteArray) (n lo hi : Int) (f0 f1 : ByteArray) : fmtB 16 t n lo hi f0 f1 = (⟨#[40]⟩ : ByteArray) ++ f0 ++ (⟨#[32, 45, 62, 32]⟩ : ByteArray) ++ (⟨#[118]⟩ : ByteArray) ++ (⟨(Lib.itoa n).toArray⟩ : ByteArray) ++ (⟨#[41]⟩ : ByteArray) := by
  unfold fmtB; simp only [show ((16 : Int) = 1) = False from by simp, show ((16 : Int) = 2) = False from by simp, show ((16 : Int) = 3) = False from by simp, show ((16 : Int) = 4) = False from by simp, show ((16 : Int) = 5) = False from by simp, show ((16 : Int) = 6) = False from by simp, show ((16 : Int) = 7) = False from by simp, show ((16 : Int) = 8) = False from by simp, show ((16 : Int) = 9) = False from by simp, show ((16 : Int) = 10) = False from by simp, show ((16 : Int) = 11) = False from by simp, show ((16 : Int) = 12) = False from by simp, show ((16 : Int) = 13) = False from by simp, show ((16 : Int) = 14) = False from by simp, show ((16 : Int) = 15) = False from by simp, if_false, if_true]
theorem fmtB_17 (t : ByteArray) (n lo hi : Int) (f0 f1 : ByteArray) : fmtB 17 t n lo hi f0 f1 = (⟨#[40]⟩ : ByteArray) ++ f0 ++ (⟨#[32, 61, 62, 32]⟩ : ByteArray) ++ (⟨#[118]⟩ : ByteArray) ++ (⟨(Lib.itoa n).toArray⟩ : ByteArray) ++ (⟨#[41]⟩ : ByteArray) := by
  unfold fmtB; simp only [show ((17 : Int) = 1) = False from by simp, show ((17 : Int) = 2) = False from by simp, show ((17 : Int) = 3) = False from by simp, show ((17 : Int) = 4) = False from by simp, show ((17 : Int) = 5) = False from by simp, show ((17 : Int) = 6) = False from by simp, show ((17 : Int) = 7) = False from by simp, show ((17 : Int) = 8) = False from by simp, show ((17 : Int) = 9) = False from by simp, show ((17 : Int) = 10) = False from by simp, show ((17 : Int) = 11) = False from by simp, show ((17 : Int) = 12) = False from by simp, show ((17 : Int) = 13) = False from by simp, show ((17 : Int) = 14) = False from by simp, show ((17 : Int) = 15) = False from by simp, show ((17 : Int) = 16) = False from by simp, if_false, if_true]
theorem fmtB_18 (t : ByteArray) (n lo hi : Int) (f0 f1 : ByteArray) : fmtB 18 t n lo hi f0 f1 = (⟨#[46, 62]⟩ : ByteArray) ++ (⟨#[118]⟩ : ByteArray) ++ (⟨(Lib.itoa n).toArray⟩ : ByteArray) := by
  unfold fmtB; simp only [show ((18 : Int) = 1) = False from by simp, show ((18 : Int) = 2) = False from by simp, show ((18 : Int) = 3) = False from by simp, show ((18 : Int) = 4) = False from by simp, show ((18 : Int) = 5) = False from by simp, show ((18 : Int) = 6) = False from by simp, show ((18 : Int) = 7) = False from by simp, show ((18 : Int) = 8) = False from by simp, show ((18 : Int) = 9) = False from by simp, show ((18 : Int) = 10) = False from by simp, show ((18 : Int) = 11) = False from by simp, show ((18 : Int) = 12) = False from by simp, show ((18 : Int) = 13) = False from by simp, show ((18 : Int) = 14) = False from by simp, show ((18 : Int) = 15) = False from by simp, show ((18 : Int) = 16) = False from by simp, show ((18 : Int) = 17) = False from by simp, if_false, if_true]
theorem fmtB_19 (t : ByteArray) (n lo hi : Int) (f0 f1 : ByteArray) : fmtB 19 t n lo hi f0 f1 = (⟨#[70, 101, 110, 99, 101]⟩ : ByteArray) ++ (⟨#[40, 41]⟩ : ByteArray) := by
  unfold fmtB; simp only [show ((19 : Int) = 1) = False from by simp, show ((19 : Int) = 2) = False from by simp, show ((19 : Int) = 3) = False from by simp, show ((19 : Int) = 4) = False from by simp, show ((19 : Int) = 5) = False from by simp, show ((19 : Int) = 6) = False from by simp, show ((19 : Int) = 7) = False from by simp, show ((19 : Int) = 8) = False from by simp, show ((19 : Int) = 9) = False from by simp, show ((19 : Int) = 10) = False from by simp, show ((19 : Int) = 11) = False from by simp, show ((19 : Int) = 12) = False from by simp, show ((19 : Int) = 13) = False from by simp, show ((19 : Int) = 14) = False from by simp, show ((19 : Int) = 15) = False from by simp, show ((19 : Int) = 16) = False from by simp, show ((19 : Int) = 17) = False from by simp, show ((19 : Int) = 18) = False from by simp, if_false, if_true]
theorem fmtB_20 (t : ByteArray) (n lo hi : Int) (f0 f1 : ByteArray) : fmtB 20 t n lo hi f0 f1 = (⟨#[100, 101, 102, 101, 114, 32]⟩ : ByteArray) ++ (⟨#[118]⟩ : ByteArray) ++ (⟨(Lib.itoa n).toArray⟩ : ByteArray) := by
  unfold fmtB; simp only [show ((20 : Int) = 1) = False from by simp, show ((20 : Int) = 2) = False from by simp, show ((20 : Int) = 3) = False from by simp, show ((20 : Int) = 4) = False from by simp, show ((20 : Int) = 5) = False from by simp, show ((20 : Int) = 6) = False from by simp, show ((20 : Int) = 7) = False from by simp, show ((20 : Int) = 8) = False from by simp, show ((20 : Int) = 9) = False from by simp, show ((20 : Int) = 10) = False from by simp, show ((20 : Int) = 11) = False from by simp, show ((20 : Int) = 12) = False from by simp, show ((20 : Int) = 13) = False from by simp, show ((20 : Int) = 14) = False from by simp, show ((20 : Int) = 15) = False from by simp, show ((20 : Int) = 16) = False from by simp, show ((20 : Int) = 17) = False from by simp, show ((20 : Int) = 18) = False from by simp, show ((20 : Int) = 19) = False from by simp, if_false, if_true]
theorem fmtB_21 (t : ByteArray) (n lo hi : Int) (f0 f1 : ByteArray) : fmtB 21 t n lo hi f0 f1 = (⟨#[65, 98, 111, 114, 116]⟩ : ByteArray) ++ (⟨#[40, 41]⟩ : ByteArray) := by
  unfold fmtB; simp only [show ((21 : Int) = 1) = False from by simp, show ((21 : Int) = 2) = False from by simp, show ((21 : Int) = 3) = False from by simp, show ((21 : Int) = 4) = False from by simp, show ((21 : Int) = 5) = False from by simp, show ((21 : Int) = 6) = False from by simp, show ((21 : Int) = 7) = False from by simp, show ((21 : Int) = 8) = False from by simp, show ((21 : Int) = 9) = False from by simp, show ((21 : Int) = 10) = False from by simp, show ((21 : Int) = 11) = False from by simp, show ((21 : Int) = 12) = False from by simp, show ((21 : Int) = 13) = False from by simp, show ((21 : Int) = 14) = False from by simp, show ((21 : Int) = 15) = False from by simp, show ((21 : Int) = 16) = False from by simp, show ((21 : Int) = 17) = False from by simp, show ((21 : Int) = 18) = False from by simp, show ((21 : Int) = 19) = False from by simp, show ((21 : Int) = 20) = False from by simp, if_false, if_true]
theorem fmtB_22 (t : ByteArray) (n lo hi : Int) (f0 f1 : ByteArray) : fmtB 22 t n lo hi f0 f1 = (⟨#[69, 109, 112, 116, 121]⟩ : ByteArray) ++ (⟨#[40, 41]⟩ : ByteArray) := by
  unfold fmtB; simp only [show ((22 : Int) = 1) = False from by simp, show ((22 : Int) = 2) = False from by simp, show ((22 : Int) = 3) = False from by simp, show ((22 : Int) = 4) = False from by simp, show ((22 : Int) = 5) = False from by simp, show ((22 : Int) = 6) = False from by simp, show ((22 : Int) = 7) = False from by simp, show ((22 : Int) = 8) = False from by simp, show ((22 : Int) = 9) = False from by simp, show ((22 : Int) = 10) = False from by simp, show ((22 : Int) = 11) = False from by simp, show ((22 : Int) = 12) = False from by simp, show ((22 : Int) = 13) = False from by simp, show ((22 : Int) = 14) = False from by simp, show ((22 : Int) = 15) = False from by simp, show ((22 : Int) = 16) = False from by simp, show ((22 : Int) = 17) = False from by simp, show ((22 : Int) = 18) = False from by simp, show ((22 : Int) = 19) = False from by simp, show ((22 : Int) = 20) = False from by simp, show ((22 : Int) = 21) = False from by simp, if_false, if_true]
theorem fmtB_23 (t : ByteArray) (n lo hi : Int) (f0 f1 : ByteArray) : fmtB 23 t n lo hi f0 f1 = (⟨#[70, 97, 105, 108]⟩ : ByteArray) ++ (⟨#[40, 41]⟩ : ByteArray) := by
  unfold fmtB; simp only [show ((23 : Int) = 1) = False from by simp, show ((23 : Int) = 2) = False from by simp, show ((23 : Int) = 3) = False from by simp, show ((23 : Int) = 4) = False from by simp, show ((23 : Int) = 5) = False from by simp, show ((23 : Int) = 6) = False from by simp, show ((23 : Int) = 7) = False from by simp, show ((23 : Int) = 8) = False from by simp, show ((23 : Int) = 9) = False from by simp, show ((23 : Int) = 10) = False from by simp, show ((23 : Int) = 11) = False from by simp, show ((23 : Int) = 12) = False from by simp, show ((23 : Int) = 13) = False from by simp, show ((23 : Int) = 14) = False from by simp, show ((23 : Int) = 15) = False from by simp, show ((23 : Int) = 16) = False from by simp, show ((23 : Int) = 17) = False from by simp, show ((23 : Int) = 18) = False from by simp, show ((23 : Int) = 19) = False from by simp, show ((23 : Int) = 20) = False from by simp, show ((23 : Int) = 21) = False from by simp, show ((23 : Int) = 22) = False from by simp, if_false, if_true]
mutual
def TPattern.fmt : TPattern → ByteArray
  | .mk op t n lo hi ks => if 1 ≤ op ∧ op ≤ 23 ∧ ks.length = kidsN op then fmtB op t n lo hi ((TPattern.fmts ks).getD 0 ByteArray.empty) ((TPattern.fmts ks).getD 1 ByteArray.empty) else ⟨#[63]⟩
def TPattern.fmts : List TPattern → List ByteArray
  | [] => []
  | x :: r => TPattern.fmt x :: TPattern.fmts r
end
theorem itoa_size {n : Int} (h : InI n) : (⟨(Lib.itoa n).toArray⟩ : ByteArray).size ≤ 21 := by
  have := Lib.itoa_length_le n h.1 h.2
  simpa [ByteArray.size] using this
theorem fmtB_size {op n lo hi : Int} {t f0 f1 : ByteArray} (h : InI n) : (fmtB op t n lo hi f0 f1).size ≤ 600 + 4 * t.size + f0.size + f1.size := by
  have h1 : (Lib.itoa n).length ≤ 21 := Lib.itoa_length_le n h.1 h.2
  have l : ∀ (x : Array UInt8), (⟨x⟩ : ByteArray).size = x.size := fun _ => rfl
  have h2 := qt_size 34 t
  have h3 := qt_size 39 (csT lo hi)
  have h4 := csT_size lo hi
  by_cases e1 : op = 1
  · subst e1; rw [fmtB_1]; (try simp only [ByteArray.size_append])
    simp only [l, List.size_toArray, List.length_cons, List.length_nil] at h2 h3 h4 ⊢; omega
  by_cases e2 : op = 2
  · subst e2; rw [fmtB_2]; (try simp only [ByteArray.size_append])
    simp only [l, List.size_toArray, List.length_cons, List.length_nil] at h2 h3 h4 ⊢; omega
  by_cases e3 : op = 3
  · subst e3; rw [fmtB_3]; (try simp only [ByteArray.size_append])
    simp only [l, List.size_toArray, List.length_cons, List.length_nil] at h2 h3 h4 ⊢; omega
  by_cases e4 : op = 4
  · subst e4; rw [fmtB_4]; (try simp only [ByteArray.size_append])
    simp only [l, List.size_toArray, List.length_cons, List.length_nil] at h2 h3 h4 ⊢; omega
  by_cases e5 : op = 5
  · subst e5; rw [fmtB_5]; (try simp only [ByteArray.size_append])
    simp only [l, List.size_toArray, List.length_cons, List.length_nil] at h2 h3 h4 ⊢; omega
  by_cases e6 : op = 6
  · subst e6; rw [fmtB_6]; (try simp only [ByteArray.size_append])
    simp only [l, List.size_toArray, List.length_cons, List.length_nil] at h2 h3 h4 ⊢; omega
  by_cases e7 : op = 7
  · subst e7; rw [fmtB_7]; (try simp only [ByteArray.size_append])
    simp only [l, List.size_toArray, List.length_cons, List.length_nil] at h2 h3 h4 ⊢; omega
  by_cases e8 : op = 8
  · subst e8; rw [fmtB_8]; (try simp only [ByteArray.size_append])
    simp only [l, List.size_toArray, List.length_cons, List.length_nil] at h2 h3 h4 ⊢; omega
  by_cases e9 : op = 9
  · subst e9; rw [fmtB_9]; (try simp only [ByteArray.size_append])
    simp only [l, List.size_toArray, List.length_cons, List.length_nil] at h2 h3 h4 ⊢; omega
  by_cases e10 : op = 10
  · subst e10; rw [fmtB_10]; (try simp only [ByteArray.size_append])
    simp only [l, List.size_toArray, List.length_cons, List.length_nil] at h2 h3 h4 ⊢; omega
  by_cases e11 : op = 11
  · subst e11; rw [fmtB_11]; (try simp only [ByteArray.size_append])
    simp only [l, List.size_toArray, List.length_cons, List.length_nil] at h2 h3 h4 ⊢; omega
  by_cases e12 : op = 12
  · subst e12; rw [fmtB_12]; (try simp only [ByteArray.size_append])
    simp only [l, List.size_toArray, List.length_cons, List.length_nil] at h2 h3 h4 ⊢; omega
  by_cases e13 : op = 13
  · subst e13; rw [fmtB_13]; (try simp only [ByteArray.size_append])
    simp only [l, List.size_toArray, List.length_cons, List.length_nil] at h2 h3 h4 ⊢; omega
  by_cases e14 : op = 14
  · subst e14; rw [fmtB_14]; (try simp only [ByteArray.size_append])
    simp only [l, List.size_toArray, List.length_cons, List.length_nil] at h2 h3 h4 ⊢; omega
  by_cases e15 : op = 15
  · subst e15; rw [fmtB_15]; (try simp only [ByteArray.size_append])
    simp only [l, List.size_toArray, List.length_cons, List.length_nil] at h2 h3 h4 ⊢; omega
  by_cases e16 : op = 16
  · subst e16; rw [fmtB_16]; (try simp only [ByteArray.size_append])
    simp only [l, List.size_toArray, List.length_cons, List.length_nil] at h2 h3 h4 ⊢; omega
  by_cases e17 : op = 17
  · subst e17; rw [fmtB_17]; (try simp only [ByteArray.size_append])
    simp only [l, List.size_toArray, List.length_cons, List.length_nil] at h2 h3 h4 ⊢; omega
  by_cases e18 : op = 18
  · subst e18; rw [fmtB_18]; (try simp only [ByteArray.size_append])
    simp only [l, List.size_toArray, List.length_cons, List.length_nil] at h2 h3 h4 ⊢; omega
  by_cases e19 : op = 19
  · subst e19; rw [fmtB_19]; (try simp only [ByteArray.size_append])
    simp only [l, List.size_toArray, List.length_cons, List.length_nil] at h2 h3 h4 ⊢; omega
  by_cases e20 : op = 20
  · subst e20; rw [fmtB_20]; (try simp only [ByteArray.size_append])
    simp only [l, List.size_toArray, List.length_cons, List.length_nil] at h2 h3 h4 ⊢; omega
  by_cases e21 : op = 21
  · subst e21; rw [fmtB_21]; (try simp only [ByteArray.size_append])
    simp only [l, List.size_toArray, List.length_cons, List.length_nil] at h2 h3 h4 ⊢; omega
  by_cases e22 : op = 22
  · subst e22; rw [fmtB_22]; (try simp only [ByteArray.size_append])
    simp only [l, List.size_toArray, List.length_cons, List.length_nil] at h2 h3 h4 ⊢; omega
  by_cases e23 : op = 23
  · subst e23; rw [fmtB_23]; (try simp only [ByteArray.size_append])
    simp only [l, List.size_toArray, List.length_cons, List.length_nil] at h2 h3 h4 ⊢; omega
  unfold fmtB; simp only [e1, e2, e3, e4, e5, e6, e7, e8, e9, e10, e11, e12, e13, e14, e15, e16, e17, e18, e19, e20, e21, e22, e23, if_false]
  show 1 ≤ _
  omega
/-- The texts of the kids together. -/
def sumS : List ByteArray → Nat
  | [] => 0
  | x :: r => x.size + sumS r
theorem sumS_01 : ∀ l : List ByteArray, (l.getD 0 ByteArray.empty).size + (l.getD 1 ByteArray.empty).size ≤ sumS l
  | [] => by simp [sumS]
  | [a] => by simp [sumS]
  | a :: b :: r => by simp [sumS]
mutual
theorem TPattern.fmt_size {w : World} {S : Nat → Prop} : ∀ (t : TPattern) (vs : List Value), Dat.HoldVals w S t.D vs → t.fmt.size ≤ 600 * t.cnt + 4 * Dat.wtL t.D
  | .mk op t n lo hi ks, vs, hv => by
    obtain ⟨A, c, -, -, -, hn, -, -, hR⟩ := TPattern.vals hv
    have h0 := TPattern.fmts_size ks A c hR
    have h1 := sumS_01 (TPattern.fmts ks)
    have h2 := fmtB_size (op := op) (t := t) (lo := lo) (hi := hi) (f0 := (TPattern.fmts ks).getD 0 ByteArray.empty) (f1 := (TPattern.fmts ks).getD 1 ByteArray.empty) hn
    rw [TPattern.D_mk]
    simp only [TPattern.fmt, TPattern.cnt, Dat.wtL, Dat.wt, List.length_map]
    split
    · omega
    · show 1 ≤ _
      omega
theorem TPattern.fmts_size {w : World} {S : Nat → Prop} : ∀ (l : List TPattern) (A : Option Addr) (c : Nat), Row w S 6 A c (l.map TPattern.D) → sumS (TPattern.fmts l) ≤ 600 * TPattern.cnts l + 4 * Dat.wtR (l.map TPattern.D)
  | [], _, _, _ => by simp [TPattern.fmts, sumS]
  | x :: r, A, c, hR => by
    obtain ⟨b, o, vs, rfl, hS, hb, hv, -, -⟩ := Row.at hR 0 (by simp)
    have h1 := TPattern.fmt_size x vs hv
    have hR2 : Row w S 6 (some ⟨b, o + 6, none⟩) c (r.map TPattern.D) := by
      obtain ⟨hl, hc, hx⟩ := hR
      refine ⟨by simp at hl ⊢; omega, hc, fun hne => ?_⟩
      obtain ⟨b', o', hA, g1, g2, hr⟩ := hx (by simp)
      injection Option.some.inj hA with q1 q2 _
      subst q1 q2
      simp only [List.map_cons, Dat.HoldRows] at hr
      exact ⟨b, o + 6, rfl, g1, g2, hr.2.2⟩
    have h2 := TPattern.fmts_size r _ c hR2
    simp only [TPattern.fmts, sumS, TPattern.cnts, List.map_cons, Dat.wtR]
    omega
end
abbrev FmtC (f : FuncId) (t : TPattern) : Prop := ∀ (S : Nat → Prop) (w : World) (vs : List Value), P10 w → Dat.HoldVals w S t.D vs → 600 * t.cnt + 4 * Dat.wtL t.D ≤ 1000000000 →
  Calls Tryd.prog f #[.agg vs.toArray] w fun e w' => e = .returned (.string t.fmt) ∧ Bel w w'
theorem sz_app {a b : ByteArray} {m k : Nat} (ha : a.size ≤ m) (hb : b.size ≤ k) : (a ++ b).size ≤ m + k := by rw [ByteArray.size_append]; omega
theorem run_addS {a b : ByteArray} {m k : Nat} (ha : a.size ≤ m) (hb : b.size ≤ k) (h : m + k ≤ 9223372036854775807) (w : World) : (Op.stringOp .add a b).run Tryd.prog w = .ok (.string (a ++ b)) w := run_string_add_sum w a b (by omega)
theorem ret_str {a b : ByteArray} (h : a = b) : Ending.returned (.string a) = .returned (.string b) := by rw [h]
end Go.Proofs.YtpcimcamjlbagaaDoor
