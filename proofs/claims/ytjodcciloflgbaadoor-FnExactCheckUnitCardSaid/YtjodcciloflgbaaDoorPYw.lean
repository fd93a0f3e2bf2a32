/- A unit's names: lists of the call's own; the closure that takes a name. -/
import Derived.Test.YtjodcciloflgbaaDoorPYv
import Derived.OneCell
namespace Go.Proofs.YtjodcciloflgbaaDoor
set_option linter.unusedVariables false
set_option linter.unusedSimpArgs false
set_option maxRecDepth 100000
open Go.RowKit
theorem OwnS.strs {wB w : World} (hb : Bel wB w) (l : List ByteArray) (hs : ∀ x ∈ l, x.size ≤ maxLen) (hl : l.length ≤ maxLen) : OwnS wB (w.alloc (.cells (l.map Value.string).toArray 9)) (.slice (some ⟨w.heap.size, 0, none⟩) l.length l.length) l :=
 ⟨⟨by simp, Or.inr ⟨w.heap.size, l.length, (l.map Value.string).toArray, rfl, hb.size, heap_alloc_new w _, Nat.le_refl _, hl, by simp, by simp; exact List.take_of_length_le (by simp)⟩⟩, hs⟩
theorem funL_len : funL.length = 55 := by decide +kernel
theorem funL_size : ∀ x ∈ funL, x.size ≤ maxLen := by
 have h : funL.all (fun x => decide (x.size ≤ 100)) = true := by decide +kernel
 intro x hx
 have := List.all_eq_true.1 h x hx
 rw [decide_eq_true_eq] at this
 unfold maxLen
 omega
theorem l9Twice_own {wB w : World} {v : Value} {xs : List ByteArray} (h : OwnS wB w v xs) : Calls Tryd.prog 35 #[v] w fun e w' => e = .returned (.bool (twiceB xs)) ∧ Bel w w' := by
 obtain ⟨A, c, rfl, hrow⟩ := OwnS.row h
 exact l9Twice_row xs _ w A c hrow
theorem repeated_own {wB w : World} {v : Value} {xs : List ByteArray} (h : OwnS wB w v xs) : Calls Tryd.prog 61 #[v] w fun e w' => e = .returned (.bool (twiceB xs)) ∧ Bel w w' := by
 obtain ⟨A, c, rfl, hrow⟩ := OwnS.row h
 exact repeated_row xs _ w A c hrow
theorem l9Find_own {wB w : World} {v : Value} {xs : List ByteArray} (h : OwnS wB w v xs) (x : ByteArray) : Calls Tryd.prog 23 #[v, .string x] w fun e w' => e = .returned (.int .i64 (Lib.idxOfS xs x)) ∧ w = w' := by
 obtain ⟨A, c, rfl, hrow⟩ := OwnS.row h
 exact l9Find_row xs x _ w A c hrow
theorem contains_own {wB w : World} {v : Value} {xs : List ByteArray} (h : OwnS wB w v xs) (x : ByteArray) : Calls Tryd.prog 60 #[v, .string x] w fun e w' => e = .returned (.bool (Lib.containsS xs x)) ∧ w = w' := by
 obtain ⟨A, c, rfl, hrow⟩ := OwnS.row h
 exact contains_row xs x _ w A c hrow
def KeptB (b : Nat) (w w' : World) : Prop := w.heap.size ≤ w'.heap.size ∧ ∀ (k : Nat) (ob : Obj), k ≠ b → w.heap[k]? = some ob → (∀ cur z, ob ≠ Obj.cells cur 9 z) → w'.heap[k]? = some ob
theorem KeptB.trans {b : Nat} {w1 w2 w3 : World} (h1 : KeptB b w1 w2) (h2 : KeptB b w2 w3) : KeptB b w1 w3 := ⟨Nat.le_trans h1.1 h2.1, fun k ob hn h hs => h2.2 k ob hn (h1.2 k ob hn h hs) hs⟩
theorem KeptB.ofKept {b : Nat} {w w' : World} (h : Kept w w') : KeptB b w w' := ⟨h.1, fun k ob _ hk hs => h.2 k ob hk hs⟩
theorem KeptB.ofBel {b : Nat} {w w' : World} (h : Bel w w') : KeptB b w w' := KeptB.ofKept (Kept.ofBel h)
theorem KeptB.set {b : Nat} (w : World) (v : Value) : KeptB b w (w.setCell ⟨b, 0, none⟩ v) := ⟨by simp, fun k ob hn hk _ => (heap_setCell_other w _ k v hn).trans hk⟩
theorem KeptB.box {q : Nat} {w w' : World} (h : KeptB q w w') {b : Nat} (hne : b ≠ q) {arr : Array Value} {T : TypeId} (hb : w.heap[b]? = some (Obj.cells arr T)) (hT : T ≠ 9) : ∀ i, w'.cell? ⟨b, i, none⟩ = w.cell? ⟨b, i, none⟩ := fun i =>
 World.cell?_of_block (by show w'.heap[b]? = w.heap[b]?; rw [h.2 b _ hne hb (fun cur z e => hT (by injection e)), hb])
theorem cell_of_obj {w : World} {b i : Nat} {arr : Array Value} {T : TypeId} (hb : w.heap[b]? = some (Obj.cells arr T)) : w.cell? ⟨b, i, none⟩ = arr[i]? := cell_of_row w b i arr T (0, 0) hb
def TakPost (wB w : World) (b : Nat) (seen : List ByteArray) (x : ByteArray) (e : Ending) (w' : World) : Prop := ∃ v', e = .returned (.bool (takB seen x)) ∧ OwnS wB w' v' (seen ++ [x]) ∧ w'.heap[b]? = some (Obj.cells #[v'] 23) ∧ Bel wB w' ∧ KeptB b w w'
set_option maxHeartbeats 2000000 in
theorem taken_any (wB w : World) (b : Nat) (v : Value) (seen : List ByteArray) (x : ByteArray) (hsp : Sp wB) (hbB : Bel wB w) (hown : OwnS wB w v seen) (hbox : w.heap[b]? = some (Obj.cells #[v] 23)) (hb : wB.heap.size ≤ b) (hx : x.size ≤ maxLen) (hl : seen.length ≤ 4000000) :
  Calls Tryd.prog 59 #[.string x, .pointer (some ⟨b, 0, none⟩)] w (TakPost wB w b seen x) := by
 have HT := hide hsp
 have HOWN := hide hown
 have HBOX := hide hbox
 have HX := hide hx
 have hbl := heap_lt hbox
 have hc : w.cell? ⟨b, 0, none⟩ = some v := by rw [cell_of_obj hbox]; rfl
 have hxm := hx
 unfold maxLen at hxm
 obtain ⟨i0, hi0, iz0, iz1, iz2⟩ := info_parts infoStr
 obtain ⟨fn, hfn⟩ : ∃ fn, funNumber x = fn := ⟨_, rfl⟩
 have HFN := hide hfn
 obtain ⟨bt, hbt⟩ : ∃ bt, takB seen x = bt := ⟨_, rfl⟩
 have HBT := hide hbt
 have HTB := hide (show (decide (0 ≤ fn) || Lib.containsS seen x) = bt by rw [← hfn, ← hbt]; rfl)
 clear hsp hown hbox hx hfn hbt
 go_enter Tryd.func59, Tryd.ntmps59
 go_upto_region 1 with (fail)
 go_cut [4] from 5 (fun r wx => r = .bool bt ∧ Bel w wx)
 case first =>
  by_cases hf : 0 ≤ fn
  case pos =>
   have hd : decide (0 ≤ fn) = true := by simpa using hf
   obtain rfl : true = bt := by rw [← HTB.out, hd]; rfl
   clear hf
   go_wp2_with (go_at_call 56; refine (implFunctionNumber_any x _ (HT.out.on bl)).mono ?_; rintro e w1 ⟨rfl, hb1⟩; rw [HFN.out])
   all_goals go_meet
   all_goals exact ⟨rfl, bl⟩
  case neg =>
   have hd : decide (0 ≤ fn) = false := by simpa using hf
   have HC := hide (show Lib.containsS seen x = bt by rw [← HTB.out, hd]; rfl)
   clear hf
   go_wp2_with (first | (go_at_call 56; refine (implFunctionNumber_any x _ (HT.out.on bl)).mono ?_; rintro e w1 ⟨rfl, hb1⟩; rw [HFN.out]; (have hz1 := hb1.sz; obtain ⟨hk1_0, hf1_0, hl1_0, hn1_0⟩ := hb1.lay (b))) | (go_at_call 60; refine (contains_own (OwnS.bel HOWN.out bl) x).mono ?_; rintro e w2 ⟨rfl, rfl⟩; rw [HC.out]))
   all_goals go_meet
   all_goals exact ⟨rfl, bl⟩
 case rest =>
 obtain ⟨rfl, hbc⟩ := hcut
 have hz0 := hbc.size
 have hcc : wc.cell? ⟨b, 0, none⟩ = some v := (hbc.box b hbl 0).trans hc
 have hlb : b < wc.heap.size := by omega
 have hnb : ¬ b = wc.heap.size := by omega
 have HOB := hide (show wc.heap[b]? = some (Obj.cells #[v] 23) from (Below.block hbc b hbl).trans HBOX.out)
 go_wp2_with (at_builtin; (refine wpList_append_own _ rfl _ _ 23 rfl wB.heap.size 9 i0 (.string ByteArray.empty) 1 16 Tryd.underlying23 hi0 iz0 iz1 iz2 rfl (by decide) _ _ _ rfl ((OwnS.bel HOWN.out bl).1) ⟨wc.heap.size, 0, none⟩ 1 1 [.string x] rfl rfl ?c1 ?c2 ?c3 ?c4 ?c5 ?_))
 case c1 => exact cell_one_new _ _ _
 case c2 => intro u hu; simp at hu; subst hu; rfl
 case c3 => unfold maxLen; omega
 case c4 => omega
 case c5 => have h2 := hbB.size; simp; omega
 intro v9 w9 hown9 hgrow9 _
 have hw1 : Bel w _ := (show Bel w (wc.alloc (.cells #[.string x] 9)) from bl)
 have hbB9 : Bel wB w9 := Below.grown (Bel.trans hbB hw1) hgrow9 (by have h1 := hw1.size; have h2 := hbB.size; omega) (OwnS.base HOWN.out)
 have hk9 : Kept w w9 := Kept.trans (Kept.ofBel hw1) (Kept.grown (OwnS.bel HOWN.out hw1) hgrow9)
 have ho9 := OwnS.snoc hown9 HOWN.out.2 HX.out
 have hob9 : w9.heap[b]? = some (Obj.cells #[v] 23) := hk9.2 b _ HBOX.out (fun cur z e => by injection e with e1 e2; exact absurd e2 (by decide))
 clear hown9 hgrow9
 have hne9 : v9.ownBlock ≠ some b := by
  intro q
  rcases ho9.1.2 with ⟨rfl, -⟩ | ⟨g, cap, cur, rfl, -, hh, -⟩
  ·
   cases q
  ·
   simp only [Value.ownBlock, Option.some.injEq] at q
   subst q
   rw [hob9] at hh
   have := Option.some.inj hh
   injection this with e1 e2
   exact absurd e2 (by decide)
 obtain ⟨LA9, lc9, hv9, -⟩ := OwnS.row ho9
 rw [List.length_append, List.length_cons, List.length_nil] at hv9
 subst hv9
 have HO9 := hide ho9
 have HOB9 := hide hob9
 have HK9 := hide hk9
 have HNE9 := hide hne9
 have hc9 : w9.cell? ⟨b, 0, none⟩ = some v := by rw [cell_of_obj hob9]; rfl
 have hl9 : b < w9.heap.size := heap_lt hob9
 have hf9 : w9.frozen? ⟨b, 0, none⟩ = false := by simp [World.frozen?, hob9]
 clear ho9 hob9 hk9 hne9
 go_wp2_with (fail)
 all_goals
  go_returns
  refine ⟨_, by rw [HBT.out]; first | done | rfl, OwnS.bel ⟨ownsRow_setCell_other HO9.out.1 HNE9.out _, HO9.out.2⟩ bl, ?_, ?_, ?_⟩
  ·
   exact one_setCell HOB9.out
  ·
   exact Bel.trans (Bel.set hbB9 hb _) bl
  ·
   exact KeptB.trans (KeptB.ofKept HK9.out) (KeptB.trans (KeptB.set w9 _) (KeptB.ofBel bl))
end Go.Proofs.YtjodcciloflgbaaDoor
