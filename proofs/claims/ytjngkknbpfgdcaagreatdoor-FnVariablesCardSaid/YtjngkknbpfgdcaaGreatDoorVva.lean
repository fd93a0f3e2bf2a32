import Derived.BigQuiet
import Derived.Deep.CutBlock
import Derived.Deep.DeepWitnessRowRef
import Derived.Deep.Light
import Derived.Deep.RegionHeld3
import Derived.Handy
import Derived.LaidMore
import Derived.Lib.BufferOwn
import Derived.Lib.BufferRead
import Derived.Lib.ItoaLen
import Derived.Lib.SmallJoins
import Derived.StillTailTactics
import Derived.Stop.LaidErr
import Derived.Test.YtjngkknbpfgdcaaGreatDoorProg
import Derived.WalkLawsBesides
import Derived.WalkSpells
namespace Go.Proofs.YtjngkknbpfgdcaaGreatDoor
set_option linter.unusedVariables false
set_option maxRecDepth 100000
open Go.RowKit
theorem aa {α : Type _} (l : List α) (i : Nat) (a : α) : l.toArray.setIfInBounds i a = (l.set i a).toArray := List.setIfInBounds_toArray l i a
theorem ab {α : Type _} {x : α} {xs : List α} {a : α} : (x :: xs).set 0 a = a :: xs := rfl
theorem ae {α : Type _} {x : α} {xs : List α} {i : Nat} {a : α} : (x :: xs).set (i + 1) a = x :: xs.set i a := rfl
theorem af {α : Type _} {xs : List α} {i : Nat} (h : i < xs.toArray.size) : xs.toArray[i] = xs[i]'(by simpa using h) := rfl
theorem ag {α : Type _} (a : α) (l : List α) (h : 0 < (a :: l).length) : (a :: l)[0] = a := rfl
theorem aj {α : Type _} (a : α) (l : List α) (i : Nat) (h : i + 1 < (a :: l).length) : (a :: l)[i + 1] = l[i]'(Nat.lt_of_succ_lt_succ h) := rfl
theorem aq : false ≠ true := Bool.false_ne_true
theorem ar {α : Type _} {β : Type _} {l : List α} (f : α->β) : (l.map f).length = l.length := List.length_map f
theorem au {n m k : Nat} (h : n < m) (h2 : m<=k) : n < k := Nat.lt_of_lt_of_le h h2
theorem aw {n m k : Nat} (h : n<=m) (h2 : m<=k) : n<=k := Nat.le_trans h h2
theorem ax {p : Prop} [inst : Decidable p] (h : ¬p) : decide p = false := decide_eq_false h
theorem ay {p : Prop} [inst : Decidable p] (h : p) : decide p = true := decide_eq_true h
theorem az {α : Type _} [BEq α] [LawfulBEq α] {a b : α} : (a != b) = false ↔ a = b := bne_eq_false_iff_eq
theorem aA {α : Type _} [BEq α] [LawfulBEq α] {a b : α} : (a == b) = false ↔ a ≠ b := beq_eq_false_iff_ne
theorem aB {α : Type _} [BEq α] [LawfulBEq α] {a b : α} : (a == b) = true ↔ a = b := beq_iff_eq
theorem aC {α : Type _} [BEq α] [LawfulBEq α] {a b : α} : (a != b) = true ↔ a ≠ b := bne_iff_ne
theorem aD {α : Type _} {a : α} {l : List α} : (a :: l).length = l.length + 1 := rfl
theorem aE {α : Type _} : ([] : List α).length = 0 := rfl
theorem aF {p : Prop} (h : p := by omega) : p := h
theorem aG {p : Prop} (h : p := by kernel_rfl) : p := h
theorem aH {p : Prop} (h : p := by simp;omega) : p := h
theorem aI {p : Prop} (h : p := by decide) : p := h
theorem aJ {p : Prop} (h : p := by simp) : p := h
theorem aK {p : Prop} (h : p := by rw[aB];omega) : p := h
theorem aL {p : Prop} (h : p := by rw[az];omega) : p := h
theorem aM {p : Prop} (h : p := by rw[aC];omega) : p := h
theorem aN {p : Prop} (h : p := by rw[aA];omega) : p := h
theorem aO {p : Prop} (h : p := by unfold dT;omega) : p := h
theorem aP {p : Prop} (h : p := by first | (simp[si];done) | (simp[go_sem,si];done) | (simp[go_sem, * ];done)) : p := h
theorem aQ {p : Prop} (h : p := by simp[hk]) : p := h
theorem aR {p : Prop} (h : p := by simpa[O.gd]using jP) : p := h
theorem aS {p : Prop} (h : p := by simpa[O.gd]using Gn) : p := h
theorem aT {p : Prop} (h : p := by rw[hs];exact aq) : p := h
theorem aU {p : Prop} (h : p := by repeat' (first | exact ic.refl _ _ | refine ic.drewN ?_ _ | refine ic.drew ?_ | refine ic.set ?_ _ _)) : p := h
theorem aV {p : Prop} (h : p := by simp[h1]) : p := h
theorem aW {p : Prop} (h : p := by simp[Value.oneCell']) : p := h
theorem aX {p : Prop} (h : p := by simp[results,results24,d0,d1,d2,d3,d4,d5,go_sem];try rfl) : p := h
theorem aZ {p : Prop} (h : p := by rw[IntKind.wrap_i64];omega) : p := h
theorem bf {p : Prop} (h : p := by simp only[aE];unfold maxLen;omega) : p := h
theorem bg {p : Prop} (h : p := by simp[results,Tryz.results43,d0,d1,d2,d3,d4,d5,go_sem];try rfl) : p := h
theorem bm {p : Prop} (h : p := by simp[results,results81,d0,d1,d2,d3,d4,d5,go_sem];try rfl) : p := h
theorem bp {p : Prop} (h : p := by simp only[aE];omega) : p := h
theorem bs {p : Prop} (h : p := by rw[IntKind.wrap_i64] <;> omega) : p := h
theorem bu {p : Prop} (h : p := by simp[hb]) : p := h
theorem bw {p : Prop} (h : p := by simp only[List.mem_append]at hm;rcases hm with e | e | e | e <;> simp[e]) : p := h
theorem bA {p : Prop} (h : p := by simpa using hj) : p := h
theorem bB {p : Prop} (h : p := by simp[results,results7,go_sem, * ];try rfl) : p := h
theorem bC {p : Prop} (h : p := by simp[results,Tryz.results100,d0,d1,go_sem];try rfl) : p := h
theorem bD {p : Prop} (h : p := by simpa using hi) : p := h
theorem bE {p : Prop} (h : p := by unfold maxLen;omega) : p := h
theorem bF {p : Prop} (h : p := by simp[results,results36,go_sem] <;> rfl) : p := h
theorem bG {p : Prop} (h : p := by rw[Gj];exact fun h=>aq h.1) : p := h
theorem bH {p : Prop} (h : p := by cases o;rfl) : p := h
theorem bI {p : Prop} (h : p := by unfold Bd;rw[if_pos WI.out];exact mc.out) : p := h
theorem bJ {p : Prop} (h : p := by rw[IntKind.wrap_u8];omega) : p := h
theorem bK {p : Prop} (h : p := by rw[ar,List.length_take];unfold maxLen;omega) : p := h
theorem bL {p : Prop} (h : p := by simp[results,results25,d0,d1,d2,d3,d4,d5,go_sem];try rfl) : p := h
theorem bM {p : Prop} (h : p := by rw[hZ.out,HA.out];exact hv.out.symm.trans (aaP q1 q2)) : p := h
theorem bN {p : Prop} (h : p := by obtain⟨A9,c9,L9,tJ,-⟩:=ng.out.ownRow;exact⟨_,_,_,tJ⟩) : p := h
theorem bO {p : Prop} (h : p := by rw[hZ.out,HA.out];exact hv.out.symm.trans (aaO q1)) : p := h
theorem bP {p : Prop} (h : p := by decide +kernel) : p := h
theorem bQ {p : Prop} (h : p := by simp[nF]) : p := h
theorem bR {p : Prop} (h : p := by simpa using h) : p := h
theorem bU {p : Prop} (h : p := by simp[e]) : p := h
theorem bV {p : Prop} (h : p := by simp[hc]) : p := h
theorem bW {p : Prop} (h : p := by simpa[O.gd]using ha) : p := h
theorem bX {p : Prop} (h : p := by simp at hf |-;grind) : p := h
theorem bY {p : Prop} (h : p := by simp[results,results8,go_sem, * ];try rfl) : p := h
theorem bZ {p : Prop} (h : p := by rw[ar,List.length_take];omega) : p := h
theorem b8 {p : Prop} (h : p := by simp[hi]) : p := h
theorem b9 {p : Prop} (h : p := by rw[Gj];exact aq) : p := h
theorem ca {p : Prop} (h : p := by rw[HOK.out];simp) : p := h
theorem cd {p : Prop} (h : p := by simp[Gn]) : p := h
theorem cg {p : Prop} (h : p := by simp[h3]) : p := h
theorem ch {p : Prop} (h : p := by simp[Gk]) : p := h
abbrev cx := ByteArray
theorem cS {p : Prop} (h : false = true) : p := absurd h Bool.false_ne_true
end Go.Proofs.YtjngkknbpfgdcaaGreatDoor
