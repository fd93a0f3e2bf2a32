import Derived.ArgAppend
import Derived.Below
import Derived.BigQuiet
import Derived.ChangeOld
import Derived.Deep.Cut
import Derived.Deep.DeepHandedRow
import Derived.Deep.DeepWitnessRowRef
import Derived.Deep.Light
import Derived.Deep.MidRow
import Derived.Deep.QuietTactic
import Derived.Deep.RegionHeld3
import Derived.Deep.RegionWith
import Derived.Deep.Slices
import Derived.Handy
import Derived.LaidMore
import Derived.Laws.BitsAllLaws
import Derived.Laws.IdiomCopy
import Derived.Laws.IdiomStrings
import Derived.Laws.MakeOwn
import Derived.Laws.StructEq
import Derived.Lib.BufferRead
import Derived.Lib.Hide
import Derived.Lib.LaidTab
import Derived.Lib.SmallJoins
import Derived.Maps.OwnOps
import Derived.Maps.OwnSet
import Derived.OpenShut
import Derived.OwnWalk
import Derived.ProofKit
import Derived.ShutString
import Derived.StillTailTactics
import Derived.Stop.LaidErr
import Derived.Test.YtjngkknbpfgdcaaGreatDoorProg
import Derived.WalkKit
import Derived.WalkLawsBesides
import Derived.WalkSpells
namespace Go.Proofs.YtjngkknbpfgdcaaGreatDoor
set_option linter.unusedVariables false
set_option maxRecDepth 100000
open Go.RowKit
theorem aa {α : Type _} (l : List α) (i : Nat) (a : α) : l.toArray.setIfInBounds i a = (l.set i a).toArray := List.setIfInBounds_toArray l i a
theorem ab {α : Type _} {x : α} {xs : List α} {a : α} : (x :: xs).set 0 a = a :: xs := rfl
theorem ae {α : Type _} {x : α} {xs : List α} {i : Nat} {a : α} : (x :: xs).set (i + 1) a = x :: xs.set i a := rfl
theorem af {α : Type _} {xs : List α} {i : Nat} (h : i < xs.toArray.size) : xs.toArray[i] = xs[i]'(by simpa using h) := rfl
theorem ag {α : Type _} (a : α) (l : List α) (h : 0 < (a :: l).length) : (a :: l)[0] = a := rfl
theorem ah {α : Type _} (a : α) (l : List α) (i : Nat) (h : i + 1 < (a :: l).length) : (a :: l)[i + 1] = l[i]'(Nat.lt_of_succ_lt_succ h) := rfl
theorem ai : false ≠ true := Bool.false_ne_true
theorem aj {α : Type _} {β : Type _} {l : List α} (f : α->β) : (l.map f).length = l.length := List.length_map f
theorem ak {n m k : Nat} (h : n < m) (h2 : m<=k) : n < k := Nat.lt_of_lt_of_le h h2
theorem al {n m k : Nat} (h : n<=m) (h2 : m<=k) : n<=k := Nat.le_trans h h2
theorem aq {p : Prop} [inst : Decidable p] (h : ¬p) : decide p = false := decide_eq_false h
theorem ar {p : Prop} [inst : Decidable p] (h : p) : decide p = true := decide_eq_true h
theorem au {α : Type _} [BEq α] [LawfulBEq α] {a b : α} : (a != b) = false ↔ a = b := bne_eq_false_iff_eq
theorem aw {α : Type _} [BEq α] [LawfulBEq α] {a b : α} : (a == b) = false ↔ a ≠ b := beq_eq_false_iff_ne
theorem ax {α : Type _} [BEq α] [LawfulBEq α] {a b : α} : (a == b) = true ↔ a = b := beq_iff_eq
theorem ay {α : Type _} [BEq α] [LawfulBEq α] {a b : α} : (a != b) = true ↔ a ≠ b := bne_iff_ne
theorem az {α : Type _} {a : α} {l : List α} : (a :: l).length = l.length + 1 := rfl
theorem aA {α : Type _} : ([] : List α).length = 0 := rfl
theorem aB {p : Prop} (h : p := by omega) : p := h
theorem aC {p : Prop} (h : p := by kernel_rfl) : p := h
theorem aD {p : Prop} (h : p := by simp;omega) : p := h
theorem aE {p : Prop} (h : p := by rw[ax];omega) : p := h
theorem aF {p : Prop} (h : p := by decide) : p := h
theorem aG {p : Prop} (h : p := by rw[au];omega) : p := h
theorem aH {p : Prop} (h : p := by rw[ay];omega) : p := h
theorem aI {p : Prop} (h : p := by rw[aw];omega) : p := h
theorem aJ {p : Prop} (h : p := by first | (simp[* ];done) | (simp[go_sem, * ];done)) : p := h
theorem aK {p : Prop} (h : p := by simp) : p := h
theorem aL {p : Prop} (h : p := by simp[hk]) : p := h
theorem aM {p : Prop} (h : p := by first | (simp;done) | (simp;omega) | omega) : p := h
theorem aN {p : Prop} (h : p := by simpa using hlt) : p := h
theorem aO {p : Prop} (h : p := by simpa[cv.jz]using hlt) : p := h
theorem aP {p : Prop} (h : p := by simpa[cv.jz]using hge) : p := h
theorem aQ {p : Prop} (h : p := by rw[xQ (by omega)]) : p := h
theorem aR {p : Prop} (h : p := by (try simp only[World.size_alloc,World.size_setCell,World.size_drew,World.heap_drewN]);omega) : p := h
theorem aS {p : Prop} (h : p := by rw[<-hW1];simp[ff,go_sem] <;> rfl) : p := h
theorem aT {p : Prop} (h : p := by rw[<-hW1];simp[iM,go_sem] <;> rfl) : p := h
theorem aU {p : Prop} (h : p := by rw[<-hW1];simp[eA,go_sem] <;> rfl) : p := h
theorem aV {p : Prop} (h : p := by unfold maxLen;omega) : p := h
theorem aX {p : Prop} (h : p := by simp[h1]) : p := h
theorem aY {p : Prop} (h : p := by simp only[aA];unfold maxLen;omega) : p := h
theorem aZ {p : Prop} (h : p := by rw[hs];exact ai) : p := h
theorem bf {p : Prop} (h : p := by rw[IntKind.wrap_i64];omega) : p := h
theorem bh {p : Prop} (h : p := by rw[tK (by omega)];omega) : p := h
theorem bj {p : Prop} (h : p := by simp only[aA];omega) : p := h
theorem bm {p : Prop} (h : p := by simp[Value.oneCell']) : p := h
theorem bn {p : Prop} (h : p := by simp[go_sem,hk1,uA,z0,z1,z2,z3,z4,z5]) : p := h
theorem bp {p : Prop} (h : p := by simp[results,Tryz.results7,go_sem, * ];try rfl) : p := h
theorem bq {p : Prop} (h : p := by simp[go_sem,hk1,uA,hk2,Ey,z0,z1,z2,z3,z4]) : p := h
theorem br {p : Prop} (h : p := by simpa using hi) : p := h
theorem bu {p : Prop} (h : p := by simp[h2]) : p := h
theorem bw {p : Prop} (h : p := by simp[hb]) : p := h
theorem bz {p : Prop} (h : p := by simp only[List.mem_append]at hm;rcases hm with e | e | e | e <;> simp[e]) : p := h
theorem bB {p : Prop} (h : p := by rw[HE.out];first | done | go_num) : p := h
theorem bC {p : Prop} (h : p := by rw[hno];exact fun h=>ai h.1) : p := h
theorem bD {p : Prop} (h : p := by rw[Dat.BK];simpa using hlt) : p := h
theorem bF {p : Prop} (h : p := by simp[results,Tryz.results8,go_sem, * ];try rfl) : p := h
theorem bI {p : Prop} (h : p := by simpa using hj) : p := h
theorem bJ {p : Prop} (h : p := by rw[Dat.fP];simpa using hlt) : p := h
theorem bK {p : Prop} (h : p := by unfold BC;rw[if_pos TL.out];exact Mo.out) : p := h
theorem bL {p : Prop} (h : p := by rw[aj,List.length_take];unfold maxLen;omega) : p := h
theorem bM {p : Prop} (h : p := by simpa using h) : p := h
theorem bN {p : Prop} (h : p := by rw[hZ.out,HA.out];exact hv.out.symm.trans (YV q1 q2)) : p := h
theorem bO {p : Prop} (h : p := by obtain⟨A9,c9,L9,wM,-⟩:=mK.out.ownRow;exact⟨_,_,_,wM⟩) : p := h
theorem bP {p : Prop} (h : p := by rw[Dat.ET];exact HR.out) : p := h
theorem bQ {p : Prop} (h : p := by rw[hZ.out,HA.out];exact hv.out.symm.trans (YU q1)) : p := h
theorem bS {p : Prop} (h : p := by simp[hk2]) : p := h
theorem bZ {p : Prop} (h : p := by simp[e]) : p := h
theorem b7 {p : Prop} (h : p := by simp[hc]) : p := h
theorem b8 {p : Prop} (h : p := by simpa[cv.jz]using ha) : p := h
theorem b9 {p : Prop} (h : p := by rw[IntKind.wrap_u8];omega) : p := h
theorem ca {p : Prop} (h : p := by rw[IntKind.wrap_i64] <;> omega) : p := h
theorem cd {p : Prop} (h : p := by simp[go_sem,hk1,uA,hk2,Ey,z0,z1,z2]) : p := h
theorem cf {p : Prop} (h : p := by rw[aj,List.length_take];omega) : p := h
theorem ch {p : Prop} (h : p := by simp[hi]) : p := h
theorem cj {p : Prop} (h : p := by rw[hno];exact ai) : p := h
theorem cm {p : Prop} (h : p := by rw[HOK.out];simp) : p := h
theorem cp {p : Prop} (h : p := by rw[List.size_toArray,hlen];kernel_rfl) : p := h
theorem cq {p : Prop} (h : p := by simp[hge]) : p := h
theorem cr {p : Prop} (h : p := by with_reducible assumption) : p := h
theorem ct {p : Prop} (h : p := by simp[h3]) : p := h
theorem cu {p : Prop} (h : p := by simp[hix]) : p := h
end Go.Proofs.YtjngkknbpfgdcaaGreatDoor
