/- Draws: a pattern, any. -/
import Derived.Test.YtdjbfneniohaaaaPFp1
import Derived.Test.YtdjbfneniohaaaaPMPattern
import Derived.Deep.Cut
import Derived.Deep.MidRow
namespace Go.Proofs.Ytdjbfneniohaaaa
set_option linter.unusedVariables false
set_option linter.unusedSimpArgs false
set_option maxRecDepth 100000
open Go.RowKit
def TreeP (w : World) (c : Nat) (A : Option Addr) (n cap B : Nat) (e : Ending) (w' : World) : Prop :=
 ∃ t vs L, e = .returned (.agg vs.toArray) ∧ Dat.OwnVals w' L (TPattern.D t) vs ∧ L.Nodup ∧ (∀ k, k ∈ L → w.heap.size ≤ k ∧ k ≠ c) ∧ t.cnt < B ∧ Cur w' c A n cap ∧ Oth c w w'
abbrev TreeC (c : Nat) (A : Option Addr) (n cap : Nat) (d : Nat) : Prop := ∀ (w : World) (deep vars : Int), Cur w c A n cap → deep ≤ d → -100 ≤ deep → deep ≤ 100 → 0 ≤ vars → vars ≤ 100 →
 Calls Try.prog 46 #[.pointer (some ⟨c, 0, none⟩), .int .i64 deep, .int .i64 vars] w (TreeP w c A n cap (2 ^ (d + 1)))
theorem infoPat : (Try.prog.info? 28).map (fun i => (i.zero, i.size, i.bytes)) = some (some (.agg #[.int .i64 0, .string ByteArray.empty, .int .i64 0, .int .i64 0, .int .i64 0, .slice none 0 0]), 6, 72) := by kernel_rfl
structure TrL (w wx : World) (c : Nat) (A : Option Addr) (n cap b : Nat) (op : Int) (t : ByteArray) (m lo hi : Int) (v : Value) (L : List Nat) (ts : List TPattern) (d : Nat) : Prop where
 box : PB wx b (.int .i64 op) (.string t) (.int .i64 m) (.int .i64 lo) (.int .i64 hi) v
 res : PB wx w.heap.size (.int .i64 0) (.string ByteArray.empty) (.int .i64 0) (.int .i64 0) (.int .i64 0) (.slice none 0 0)
 cur : Cur wx c A n cap
 oth : Oth c w wx
 own : OwnD wx 28 6 v L (ts.map TPattern.D)
 blk : ∀ k, Blk v L k → w.heap.size < k ∧ k ≠ b
 cnt : ∀ x ∈ ts, TPattern.cnt x < 2 ^ d
section
variable {w wx wy : World} {c : Nat} {A : Option Addr} {n cap b : Nat} {op m lo hi : Int} {t : ByteArray} {v : Value} {L : List Nat} {ts : List TPattern} {d : Nat}
theorem TrL.on (h : TrL w wx c A n cap b op t m lo hi v L ts d) (hc : c < w.heap.size) (k : Oth c wx wy) (hC : Cur wy c A n cap) (hw : w.heap.size ≠ c) (hb : b ≠ c) : TrL w wy c A n cap b op t m lo hi v L ts d :=
 ⟨h.box.oth k hb, h.res.oth k hw, hC, h.oth.trans k, h.own.keep k.size (fun x hx => k.block x (h.own.lt x hx) (by have := (h.blk x hx).1; omega)), h.blk, h.cnt⟩
theorem TrL.bel (h : TrL w wx c A n cap b op t m lo hi v L ts d) (hc : c < w.heap.size) (k : Bel wx wy) (hw : w.heap.size ≠ c) (hb : b ≠ c) : TrL w wy c A n cap b op t m lo hi v L ts d := h.on hc (Oth.of_bel k) (h.cur.bel k) hw hb
theorem TrL.grow (h0 : Cur w c A n cap) (h : TrL w wx c A n cap b op t m lo hi v L ts d) (hw : w.heap.size < b) (hb : b ≠ c) (hg : wx.grownBy wy v.ownBlock) {v9 : Value} {M : List Nat} {q : TPattern} (hO : OwnD wy 28 6 v9 (L ++ M) (ts.map TPattern.D ++ [q.D]))
  (h9 : ∀ k, v9.ownBlock = some k → v.ownBlock = some k ∨ wx.heap.size ≤ k) (hM : ∀ x, x ∈ M → x ≠ b ∧ w.heap.size < x ∧ ¬ Blk v L x) (hq : q.cnt < 2 ^ d) :
  PB wy b (.int .i64 op) (.string t) (.int .i64 m) (.int .i64 lo) (.int .i64 hi) v ∧ TrL w (wy.setCell ⟨b, 5, none⟩ v9) c A n cap b op t m lo hi v9 (L ++ M) (ts ++ [q]) d := by
 have hc := h0.1
 have hs := hg.size
 have hoz := h.oth.size
 have hbx := h.box.1
 have hrx := h.res.1
 have same : ∀ k, k < wx.heap.size → (v.ownBlock = some k → False) → wy.heap[k]? = wx.heap[k]? := fun k hk hn => hg.block k hk (fun e => hn e.symm)
 have B9 := h.box.block hs (same b hbx (fun e => (h.blk b (Or.inl e)).2 rfl))
 have R9 := h.res.block hs (same _ hrx (fun e => by have := (h.blk _ (Or.inl e)).1; omega))
 have O9 : Oth c w wy := ⟨hg.os.trans h.oth.os, hg.tape.trans h.oth.tape, hg.output.trans h.oth.output, by omega, fun k hk hkc => (same k (by omega) (fun e => by have := (h.blk _ (Or.inl e)).1; omega)).trans (h.oth.block k hk hkc)⟩
 have C9 := h0.back h.cur O9 (same c (by omega) (fun e => by have := (h.blk _ (Or.inl e)).1; omega))
 have hblk : ∀ k, Blk v9 (L ++ M) k → w.heap.size < k ∧ k ≠ b := by
  rintro k (hk | hk)
  ·
   rcases h9 k hk with e | e
   ·
    exact h.blk k (Or.inl e)
   ·
    omega
  ·
   rcases List.mem_append.1 hk with hk | hk
   ·
    exact h.blk k (Or.inr hk)
   ·
    exact ⟨(hM k hk).2.1, (hM k hk).1⟩
 refine ⟨B9, B9.put5 _, R9.far 5 _ (by omega), h0.back C9 (O9.put (by omega) 5 _) (set_block 5 _ hb), O9.put (by omega) 5 _, ?_, hblk, ?_⟩
 ·
  rw [List.map_append, List.map_cons, List.map_nil]
  exact hO.keep (by simp) (fun x hx => set_block 5 _ (fun e => (hblk x hx).2 e.symm))
 ·
  intro x hx
  rcases List.mem_append.1 hx with hx | hx
  ·
   exact h.cnt x hx
  ·
   rw [List.mem_singleton.1 hx]; exact hq
theorem cnts_lt {B : Nat} : ∀ (l : List TPattern), (∀ x ∈ l, TPattern.cnt x < B) → TPattern.cnts l + l.length ≤ l.length * B
 | [], _ => by simp [TPattern.cnts]
 | x :: r, h => by
  have h1 := h x (by simp)
  have h2 := cnts_lt r (fun y hy => h y (by simp [hy]))
  simp only [TPattern.cnts, List.length_cons, Nat.succ_mul]
  omega
theorem cnt_lt {ts : List TPattern} (h : ∀ x ∈ ts, TPattern.cnt x < 2 ^ d) (hl : ts.length ≤ 2) : (TPattern.mk op t m lo hi ts).cnt < 2 ^ (d + 1) := by
 have h1 := cnts_lt ts h
 have h2 : 0 < 2 ^ d := Nat.pow_pos (by decide)
 rw [Nat.pow_succ]
 simp only [TPattern.cnt]
 generalize 2 ^ d = B at *
 generalize TPattern.cnts ts = C at *
 rcases (show ts.length = 0 ∨ ts.length = 1 ∨ ts.length = 2 by omega) with e | e | e <;> rw [e] at h1 <;> omega
theorem TrL.fin (h0 : Cur w c A n cap) (h : TrL w wx c A n cap b op t m lo hi v L ts d) (hw : w.heap.size < b) (hb : b ≠ c) (iop : InI op) (ht : t.size ≤ 20) (im : InI m) (il : InI lo) (ih : InI hi) (hl : ts.length ≤ 2) :
  ∀ wz, wz = (((((wx.setCell ⟨w.heap.size, 0, none⟩ (.int .i64 op)).setCell ⟨w.heap.size, 1, none⟩ (.string t)).setCell ⟨w.heap.size, 2, none⟩ (.int .i64 m)).setCell ⟨w.heap.size, 3, none⟩ (.int .i64 lo)).setCell ⟨w.heap.size, 4, none⟩ (.int .i64 hi)).setCell ⟨w.heap.size, 5, none⟩ v →
   PB wz w.heap.size (.int .i64 op) (.string t) (.int .i64 m) (.int .i64 lo) (.int .i64 hi) v ∧ TreeP w c A n cap (2 ^ (d + 1)) (.returned (.agg #[.int .i64 op, .string t, .int .i64 m, .int .i64 lo, .int .i64 hi, v])) wz := by
 intro wz hwz
 have hc := h0.1
 have hsz : wz.heap.size = wx.heap.size := by rw [hwz]; simp
 have hsame : ∀ k, w.heap.size ≠ k → wz.heap[k]? = wx.heap[k]? := fun k hk => by
  rw [hwz, set_block 5 _ hk, set_block 4 _ hk, set_block 3 _ hk, set_block 2 _ hk, set_block 1 _ hk, set_block 0 _ hk]
 have hO : Oth c w wz := by
  rw [hwz]
  exact ((((((h.oth.put (Nat.le_refl _) 0 _).put (Nat.le_refl _) 1 _).put (Nat.le_refl _) 2 _).put (Nat.le_refl _) 3 _).put (Nat.le_refl _) 4 _).put (Nat.le_refl _) 5 _)
 refine ⟨by rw [hwz]; exact (((((h.res.put0 _).put1 _).put2 _).put3 _).put4 _).put5 _, ?_⟩
 have hown := h.own.keep (w' := wz) (by omega) (fun x hx => hsame x (by have := (h.blk x hx).1; omega))
 obtain ⟨A', c', L', hv, hr, hn, hm⟩ := hown.ownRow
 rw [List.length_map] at hv
 subst hv
 exact ⟨.mk op t m lo hi ts, _, L', rfl, TPattern.own_mk iop (by unfold maxLen; omega) im il ih hr, hn, fun k hk => by have := (h.blk k (hm k hk)).1; omega, cnt_lt h.cnt hl, h0.back h.cur hO (hsame c (by omega)), hO⟩
end
theorem wpList_namedF {P : Program} {ops : Array Oper} {Q : Exit → Act → World → Prop} {l : List Oper} {a : Act} {W : World} (h : ∀ wz, wz = W → wpList P ops Q l a wz) : wpList P ops Q l a W := h W rfl
theorem PB.there {w : World} {b : Nat} {v0 v1 v2 v3 v4 v5 : Value} (h : PB w b v0 v1 v2 v3 v4 v5) : w.there b 0 6 := by
 obtain ⟨l, f, c0, c1, c2, c3, c4, c5⟩ := h
 intro j hj
 rcases (show j = 0 ∨ j = 1 ∨ j = 2 ∨ j = 3 ∨ j = 4 ∨ j = 5 by omega) with rfl | rfl | rfl | rfl | rfl | rfl
 all_goals exact ⟨by simp [c0, c1, c2, c3, c4, c5], f _⟩
theorem wp_namedF {P : Program} {c : Code} {Q : Exit → Act → World → Prop} {a : Act} {W : World} (h : ∀ wq, W = wq → Code.wp P c Q a wq) : Code.wp P c Q a W := h W rfl
theorem kidsN_two (op : Int) : 0 ≤ kidsN op ∧ kidsN op ≤ 2 := by
 unfold kidsN
 split
 ·
  omega
 ·
  split <;> omega
set_option maxHeartbeats 2000000 in
theorem tree_step (c : Nat) (A : Option Addr) (n cap d : Nat) (w : World) (deep vars : Int) (hc : Cur w c A n cap) (hd : deep ≤ d) (hd1 : -100 ≤ deep) (hd2 : deep ≤ 100) (hv1 : 0 ≤ vars) (hv2 : vars ≤ 100) (hrec : Hid (0 < deep → ∃ e, d = e + 1 ∧ TreeC c A n cap e)) :
  Calls Try.prog 46 #[.pointer (some ⟨c, 0, none⟩), .int .i64 deep, .int .i64 vars] w (TreeP w c A n cap (2 ^ (d + 1))) := by
 have HC := hide hc
 have hlt := hc.1
 have hne : w.heap.size ≠ c := by omega
 clear hc
 go_enter Try.func46, Try.ntmps46
 go_upto_region 2 with (go_at_call 45; refine (l1Below_any 23 c A n cap _ (HC.out.bel bl) (by unfold InI; omega)).mono ?_; rintro e w1 ⟨x, x1, x2, rfl, hC1, hO1⟩; have x3 : x ≤ 22 := x2; clear x2; have HC1 := hide hC1; have HO1 := hide (Oth.trans (Oth.of_bel (c := c) (w := w) bl) hO1); have hsz := hO1.size; rw [World.size_alloc] at hsz; have R1 := hide ((PB.new w 28 (v0 := .int .i64 0) (v1 := .string ByteArray.empty) (v2 := .int .i64 0) (v3 := .int .i64 0) (v4 := .int .i64 0) (v5 := .slice none 0 0)).oth hO1 hne); have hcl := hC1.1; clear hC1 hO1)
 refine wp_namedF fun w2 hw2 => ?_
 have hb12 : Bel w1 w2 := by rw [← hw2]; exact Bel.alloc (Bel.refl _) _
 have i0 : InI 0 := by unfold InI; omega
 have T2 := hide (show TrS w w2 c A n cap w1.heap.size (1 + x) ByteArray.empty 0 0 0 from ⟨by rw [← hw2]; exact PB.new _ _, R1.out.on hb12, HC1.out.bel hb12, HO1.out.trans (Oth.of_bel hb12), by unfold InI; omega, i0, i0, i0, by decide⟩)
 have hwb : w.heap.size < w1.heap.size := by omega
 have hbc : w1.heap.size ≠ c := by omega
 clear hw2 hb12 HC1 HO1 R1 hsz hcl
 generalize w1.heap.size = b at T2 hwb hbc ⊢
 clear w1
 have I0 := hide i0
 clear i0
 go_upto_if 14 with (go_at_call 48; refine (l1Once_any 3 c A n cap _ T2.out.cur (by unfold InI; omega)).mono ?_; rintro e w3 ⟨y, rfl, hC3, hO3⟩; have T3 := hide (T2.out.on hO3 hC3 hne hbc); clear hC3 hO3)
 go_cut [] from 9 (fun wx => ∃ op, TrS w wx c A n cap b op ByteArray.empty 0 0 0)
 case first =>
  go_wp2_with (go_at_call 66; refine (l1PickInt_P InI w3.heap.size 8 8 c A n cap _ (T3.out.cur.bel bl) (rowP_new [1, 2, 7, 14, 15, 14, 15, 11] (by unfold InI; decide)) (by have := T3.out.cur.1; omega) (by omega) (by omega)).mono ?_; rintro e w4 ⟨z, hz, rfl, hC4, hO4⟩; have T4 := hide (T3.out.on (Oth.trans (Oth.of_bel bl) hO4) hC4 hne hbc); have hz' := hide hz; have pb := T4.out.box; obtain ⟨hl4, f4, k40, k41, k42, k43, k44, k45⟩ := pb; clear hC4 hO4 hz)
  all_goals go_meet
  all_goals first
   | exact ⟨_, T3.out⟩
   | exact ⟨_, TrS.put0 HC.out T4.out hwb hbc hz'.out⟩
 case rest =>
  obtain ⟨op, T⟩ := hcut
  clear T2 T3
  have T5 := hide T
  clear T
  have pb := T5.out.box; obtain ⟨hl5, f5, k50, k51, k52, k53, k54, k55⟩ := pb
  rename_i wc
  have z5 : 0 ≤ kidsN op ∧ kidsN op ≤ 2 := kidsN_two op
  obtain ⟨z5a, z5b⟩ := z5
  go_upto_region 4 with (fail)
  go_cut [45] from 9 (fun v wx => TrS w wx c A n cap b op ByteArray.empty 0 0 0 ∧ ∃ q : Bool, v = .bool q ∧ (q = true ∨ (0 < kidsN op → 0 < deep)))
  case first =>
   go_wp2_with (go_at_call 67; refine (l18Kids_any op _).mono ?_; rintro e w6 ⟨rfl, rfl⟩)
   all_goals go_meet
   all_goals refine ⟨T5.out, _, rfl, ?_⟩
   all_goals first
    | exact Or.inl rfl
    | exact Or.inr (fun hk => by omega)
  case rest =>
   obtain ⟨T, q, rfl, hq⟩ := hcut
   clear T5 hl5 f5 k50 k51 k52 k53 k54 k55
   have T5 := hide T
   have HQ := hide hq
   clear T hq
   go_upto_if 45 with (fail)
   go_cut [] from 9 (fun wx => ∃ op, TrS w wx c A n cap b op ByteArray.empty 0 0 0 ∧ (0 < kidsN op → 0 < deep))
   case first =>
    rename_i wd _
    cases q
    ·
     go_wp2_with (fail)
     all_goals go_meet
     all_goals exact ⟨_, T5.out, HQ.out.resolve_left (by decide)⟩
    ·
     go_wp2_with (go_at_call 66; refine (l1PickInt_P (fun z => InI z ∧ kidsN z = 0) _ 5 5 c A n cap _ (T5.out.cur.bel bl) (rowP_new [1, 2, 9, 11, 7] (by unfold InI kidsN; decide)) (by have := T5.out.cur.1; omega) (by omega) (by omega)).mono ?_; rintro e w6 ⟨z, hz, rfl, hC6, hO6⟩; have T6 := hide (T5.out.on (Oth.trans (Oth.of_bel bl) hO6) hC6 hne hbc); have hz' := hide hz; have pb := T6.out.box; obtain ⟨hl6, f6, k60, k61, k62, k63, k64, k65⟩ := pb; clear hC6 hO6 hz)
     all_goals go_meet
     all_goals exact ⟨_, TrS.put0 HC.out T6.out hwb hbc hz'.out.1, fun h => by rw [hz'.out.2] at h; omega⟩
   case rest =>
    obtain ⟨op, T, hk⟩ := hcut
    clear T5 HQ z5a z5b
    have HK := hide hk
    have TT := hide (show ∃ t m lo hi, TrS w _ c A n cap b op t m lo hi from ⟨_, _, _, _, T⟩)
    clear hk T
    obtain ⟨t, m, lo, hi, T⟩ := TT.out
    have T5 := hide T
    clear T TT
    have pb := T5.out.box; obtain ⟨hl5, f5, k50, k51, k52, k53, k54, k55⟩ := pb
    go_upto_region 6 with (fail)
    go_cut [52] from 9 (fun v wx => TrS w wx c A n cap b op t m lo hi ∧ ∃ q : Bool, v = .bool q)
    case first =>
     go_wp2_with (fail)
     all_goals go_meet
     all_goals exact ⟨T5.out, _, rfl⟩
    case rest =>
     obtain ⟨T, q, rfl⟩ := hcut
     clear T5 hl5 f5 k50 k51 k52 k53 k54 k55
     have T5 := hide T
     clear T
     go_upto_if 52 with (fail)
     go_cut [] from 9 (fun wx => ∃ t m lo hi, TrS w wx c A n cap b op t m lo hi)
     case first =>
      cases q
      ·
       go_wp2_with (fail)
       all_goals go_meet
       all_goals exact ⟨_, _, _, _, T5.out⟩
      ·
       go_wp2_with (go_at_call 68; refine (l17Part_any c A n cap _ T5.out.cur).mono ?_; rintro e w6 ⟨z, hz, rfl, hC6, hO6⟩; have T6 := hide (T5.out.on hO6 hC6 hne hbc); have hz' := hide hz; have pb := T6.out.box; obtain ⟨hl6, f6, k60, k61, k62, k63, k64, k65⟩ := pb; clear hC6 hO6 hz)
       all_goals go_meet
       all_goals exact ⟨_, _, _, _, TrS.put1 HC.out T6.out hwb hbc hz'.out⟩
     case rest =>
      obtain ⟨t, m, lo, hi, T⟩ := hcut
      clear T5 q
      have T5 := hide T
      clear T
      have pb := T5.out.box; obtain ⟨hl5, f5, k50, k51, k52, k53, k54, k55⟩ := pb
      go_upto_region 8 with (fail)
      go_cut [63] from 9 (fun v wx => TrS w wx c A n cap b op t m lo hi ∧ ∃ q : Bool, v = .bool q)
      case first =>
       go_wp2_with (fail)
       all_goals go_meet
       all_goals exact ⟨T5.out, _, rfl⟩
      case rest =>
       obtain ⟨T, q, rfl⟩ := hcut
       clear T5 hl5 f5 k50 k51 k52 k53 k54 k55
       have T5 := hide T
       clear T
       go_upto_if 63 with (fail)
       go_cut [] from 9 (fun wx => ∃ t m lo hi, TrS w wx c A n cap b op t m lo hi)
       case first =>
        cases q
        ·
         go_wp2_with (fail)
         all_goals go_meet
         all_goals exact ⟨_, _, _, _, T5.out⟩
        ·
         go_wp2_with (go_at_call 45; refine (l1Below_any 5 c A n cap _ T5.out.cur (by unfold InI; omega)).mono ?_; rintro e w6 ⟨z, hz1, hz2, rfl, hC6, hO6⟩; have hz3 : z ≤ 4 := hz2; clear hz2; have T6 := hide (T5.out.on hO6 hC6 hne hbc); have pb := T6.out.box; obtain ⟨hl6, f6, k60, k61, k62, k63, k64, k65⟩ := pb; clear hC6 hO6)
         all_goals go_meet
         all_goals exact ⟨_, _, _, _, TrS.put2 HC.out T6.out hwb hbc (by unfold InI; omega)⟩
       case rest =>
        obtain ⟨t, m, lo, hi, T⟩ := hcut
        clear T5 q
        have T5 := hide T
        clear T
        have pb := T5.out.box; obtain ⟨hl5, f5, k50, k51, k52, k53, k54, k55⟩ := pb
        go_upto_region 10 with (fail)
        go_cut [74] from 9 (fun v wx => TrS w wx c A n cap b op t m lo hi ∧ ∃ q : Bool, v = .bool q)
        case first =>
         go_wp2_with (fail)
         all_goals go_meet
         all_goals exact ⟨T5.out, _, rfl⟩
        case rest =>
         obtain ⟨T, q, rfl⟩ := hcut
         clear T5 hl5 f5 k50 k51 k52 k53 k54 k55
         have T5 := hide T
         clear T
         go_upto_if 74 with (fail)
         go_cut [] from 9 (fun wx => ∃ t m lo hi, TrS w wx c A n cap b op t m lo hi)
         case first =>
          cases q
          ·
           go_wp2_with (fail)
           all_goals go_meet
           all_goals exact ⟨_, _, _, _, T5.out⟩
          ·
           go_wp2_with ((first | (go_at_call 49; refine (l1Pick_any _ 5 20 5 c A n cap _ (T5.out.cur.bel bl) (rowT_new 20 [⟨#[97]⟩, ⟨#[97, 110]⟩, ⟨#[98, 110]⟩, ⟨#[98, 97, 110]⟩, ⟨#[44]⟩] (by decide +kernel)) (by have := T5.out.cur.1; omega) (by omega) (by omega)).mono ?_; rintro e w6 ⟨z, hz, rfl, hC6, hO6⟩; have T6 := hide (T5.out.on (Oth.trans (Oth.of_bel bl) hO6) hC6 hne hbc); clear hC6 hO6) | (go_at_call 62; refine (specNewCset_any z _ (by unfold maxLen; omega)).mono ?_; rintro e w7 ⟨rfl, hb7⟩; have hI := ns_in z; have hI1 := hide hI.1; have hI2 := hide hI.2; clear hI; generalize nsLo z = lz at hI1 ⊢; generalize nsHi z = hz at hI2 ⊢; generalize nsOk z = okz; have T7 := hide (T6.out.bel hb7); have pb := T7.out.box; obtain ⟨hl7, f7, k70, k71, k72, k73, k74, k75⟩ := pb; clear hb7)))
           all_goals go_meet
           all_goals exact ⟨_, _, _, _, TrS.put34 HC.out T7.out hwb hbc hI1.out hI2.out⟩
         case rest =>
          obtain ⟨t, m, lo, hi, T⟩ := hcut
          clear T5 q
          have T5 := hide T
          clear T
          have pb := T5.out.box; obtain ⟨hl5, f5, k50, k51, k52, k53, k54, k55⟩ := pb
          go_upto_region 12 with (fail)
          go_cut [95] from 9 (fun v wx => TrS w wx c A n cap b op t m lo hi ∧ ∃ q : Bool, v = .bool q)
          case first =>
           go_wp2_with (fail)
           all_goals go_meet
           all_goals exact ⟨T5.out, _, rfl⟩
          case rest =>
           obtain ⟨T, q, rfl⟩ := hcut
           clear T5 hl5 f5 k50 k51 k52 k53 k54 k55
           have T5 := hide T
           clear T
           go_upto_if 95 with (fail)
           go_cut [] from 9 (fun wx => ∃ t m lo hi, TrS w wx c A n cap b op t m lo hi)
           case first =>
            cases q
            ·
             go_wp2_with (fail)
             all_goals go_meet
             all_goals exact ⟨_, _, _, _, T5.out⟩
            ·
             go_wp2_with (go_at_call 45; refine (l1Below_any vars c A n cap _ T5.out.cur (by unfold InI; omega)).mono ?_; rintro e w6 ⟨z, hz1, hz2, rfl, hC6, hO6⟩; have hz3 : z ≤ 100 := (by unfold belowHi at hz2; split at hz2 <;> omega); clear hz2; have T6 := hide (T5.out.on hO6 hC6 hne hbc); have pb := T6.out.box; obtain ⟨hl6, f6, k60, k61, k62, k63, k64, k65⟩ := pb; clear hC6 hO6)
             all_goals go_meet
             all_goals exact ⟨_, _, _, _, TrS.put2 HC.out T6.out hwb hbc (by unfold InI; omega)⟩
           case rest =>
            obtain ⟨t, m, lo, hi, T⟩ := hcut
            clear T5 q
            have T5 := hide T
            clear T
            have pb := T5.out.box; obtain ⟨hl5, f5, k50, k51, k52, k53, k54, k55⟩ := pb
            obtain ⟨ip, hip, zp0, zp1, zp2⟩ := info_parts infoPat
            go_wp2_with (fail)
            go_loopw [8] (fun iv wr => ∃ (i : Nat) (ts : List TPattern) (v : Value) (L : List Nat), iv = .int .i64 i ∧ ts.length = i ∧ i ≤ kidsN op ∧ Hid (TrL w wr c A n cap b op t m lo hi v L ts d)) (fun iv _ => kidsN op - (intOf iv).toNat)
            case atStart => exact ⟨0, [], _, [], rfl, rfl, Nat.zero_le _, hide ⟨T5.out.box, T5.out.res, T5.out.cur, T5.out.oth, OwnD.nil _ _ _, (fun k hk => by rcases hk with hk | hk <;> cases hk), (fun x hx => by cases hx)⟩⟩
            case round =>
             obtain ⟨i, ts, v, L, rfl, hlen, hik, HT⟩ := hrel
             clear hl5 f5 k50 k51 k52 k53 k54 k55
             have pb := HT.out.box; obtain ⟨hl5, f5, k50, k51, k52, k53, k54, k55⟩ := pb
             have hzb := HT.out.oth.size
             by_cases h : i < kidsN op
             ·
              skip
              have hdc : decide ((i : Int) < (kidsN op : Int)) = true := by simp; omega
              have hdn : decide (i < kidsN op) = true := by simp [h]
              have hdeep : 0 < deep := HK.out (by omega)
              have hi2 := (kidsN_two op).2
              obtain ⟨e0, he, hC⟩ := hrec.out hdeep
              have HE := hide he
              have HCr := hide hC
              clear he hC
              have hw1 : IntKind.i64.wrap (deep - 1) = deep - 1 := by rw [IntKind.wrap_i64]; omega
              have hde : deep - 1 ≤ (e0 : Int) := by have := HE.out; omega
              go_upto_region 17 with (go_at_call 67; refine (l18Kids_any op _).mono ?_; rintro e w6 ⟨rfl, rfl⟩)
              refine wp_region_held_drew (S := fun _ => True) (by kernel_rfl) trivial (fun hHeld => ?_)
              refine tkI 0 ?_
              refine tkI 2 ?_
              refine tkI 3 ?_
              refine tkI 4 ?_
              refine tkI 5 ?_
              refine wpAnyH_ready (rs := [1, 6]) (by kernel_rfl) (by simp) ?_
              refine AllReadyH.cons (o := _) rfl (fun K hK => ?_) (AllReadyH.cons (o := _) rfl (fun K hK => ?_) AllReadyH.nil)
              ·
               skip
               go_simp
               refine hK.out _ _ trivial (fun hHeld => ?_)
               clear hK K
               (try simp only [Act.put, List.setIfInBounds_toArray, List.set_cons_zero, List.set_cons_succ, List.getElem_toArray, List.getElem_cons_zero, List.getElem_cons_succ])
               refine wpAnyH_ready (rs := [6]) (by kernel_rfl) (by simp) ?_
               refine AllReadyH.cons (o := _) rfl (fun K hK => ?_) AllReadyH.nil
               go_simp
               go_at_call 46
               have T6 := hide (TrL.bel HT.out hlt (show Bel wr wr.drew from bl) hne hbc)
               refine (HCr.out wr.drew (deep - 1) vars T6.out.cur hde (by omega) (by omega) hv1 hv2).mono ?_
               rintro e w7 ⟨⟨x0, x1, x2, x3, x4, x5⟩, us, M, rfl, hown, hnd, hM, hcnt, hC7, hO7⟩
               have T7 := hide (TrL.on T6.out hlt hO7 hC7 hne hbc)
               have hzM := T6.out.box.1
               have hzT := T6.out.own.lt
               have HMB := hide (show ∀ x, x ∈ M → x ≠ b ∧ w.heap.size < x ∧ ¬ Blk v L x from fun x hx => ⟨by have := (hM x hx).1; omega, by have := (hM x hx).1; have := T6.out.res.1; omega, fun hb => by have h1 := (hM x hx).1; have h2 := hzT x hb; omega⟩)
               obtain ⟨A5, c5, L5, rfl, rfl, g0, g1, g2, g3, g4, g5⟩ := TPattern.vals_own hown
               have HOV := hide hown
               have HND := hide hnd
               have hcnt7 := hide hcnt
               clear hown hnd hM hcnt hC7 hO7 g5 hzM hzT
               have pb := T7.out.box; obtain ⟨hl7, f7, k70, k71, k72, k73, k74, k75⟩ := pb
               refine hK.out _ _ trivial (fun hHeld => ?_)
               clear hK K
               (try simp only [Act.put, List.setIfInBounds_toArray, List.set_cons_zero, List.set_cons_succ, List.getElem_toArray, List.getElem_cons_zero, List.getElem_cons_succ])
               refine wpAnyH_ready (rs := [7]) (by kernel_rfl) (by simp) ?_
               refine AllReadyH.cons (o := _) rfl (fun K hK => ?_) AllReadyH.nil
               go_simp
               have hown8 := OwnD.lit1 (k := 6) w7 28 HOV.out rfl HND.out
               obtain ⟨nw, hsr⟩ := hown8.src
               have HSR := hide hsr
               clear hown8 hsr
               have T8 := hide (TrL.bel T7.out hlt (show Bel w7 (w7.alloc (.cells #[.int .i64 x0, .string x1, .int .i64 x2, .int .i64 x3, .int .i64 x4, .slice A5 x5.length c5] 28)) from bl) hne hbc)
               refine hK.out _ _ trivial (fun hHeld => ?_)
               clear hK K
               (try simp only [Act.put, List.setIfInBounds_toArray, List.set_cons_zero, List.set_cons_succ, List.getElem_toArray, List.getElem_cons_zero, List.getElem_cons_succ])
               refine wpAnyH_ready (rs := [8]) (by kernel_rfl) (by simp) ?_
               refine AllReadyH.cons (o := _) rfl (fun K hK => ?_) AllReadyH.nil
               rw [if_pos (by rfl)]
               refine wp_append_D (.tmp 108) (.tmp 114) 24 rfl 28 ip (.agg #[.int .i64 0, .string ByteArray.empty, .int .i64 0, .int .i64 0, .int .i64 0, .slice none 0 0]) 6 72 Try.underlying24 hip zp0 zp1 zp2 (by decide) (by decide) T8.out.own HSR.out 1 rfl rfl (fun x hb hm => (HMB.out x hm).2.2 hb) (by rw [List.length_map]; omega) (by rw [List.length_map]; unfold maxLen; omega) fun v9 w9 hO9 hg9 hw9 => ?_
               obtain ⟨A9, n9, c9, rfl⟩ : ∃ A9 n9 c9, v9 = .slice A9 n9 c9 := by obtain ⟨A0, c0, L0, hv0, _⟩ := hO9.ownRow; exact ⟨_, _, _, hv0⟩
               obtain ⟨B9, TZ⟩ := TrL.grow HC.out T8.out hwb hbc hg9 hO9 hw9 HMB.out (by have h1 := HE.out; have h2 := hcnt7.out; rw [h1]; exact h2)
               obtain ⟨hl9, f9, k90, k91, k92, k93, k94, k95⟩ := B9
               have TZ := hide TZ
               clear hO9 hw9 hg9
               refine hK.out _ _ trivial (fun hHeld => ?_)
               clear hK K
               (try simp only [Act.put, List.setIfInBounds_toArray, List.set_cons_zero, List.set_cons_succ, List.getElem_toArray, List.getElem_cons_zero, List.getElem_cons_succ])
               refine tkI 9 ?_
               refine wpAnyH_ready (rs := [10]) (by kernel_rfl) (by simp) ?_
               refine AllReadyH.cons (o := _) rfl (fun K hK => ?_) AllReadyH.nil
               go_simp
               refine hK.out _ _ trivial (fun hHeld => ?_)
               clear hK K
               (try simp only [Act.put, List.setIfInBounds_toArray, List.set_cons_zero, List.set_cons_succ, List.getElem_toArray, List.getElem_cons_zero, List.getElem_cons_succ])
               refine wpAnyH_done (by kernel_rfl) ?_ _
               clear hHeld
               go_wp2_with (fail)
               all_goals go_roundw
               case rel => exact ⟨i + 1, _, _, _, by go_num, by rw [List.length_append, hlen]; rfl, by omega, hide TZ.out⟩
               case measure => simp [intOf]; omega
              ·
               skip
               go_simp
               go_at_call 46
               have T6 := hide (TrL.bel HT.out hlt (show Bel wr wr.drew from bl) hne hbc)
               refine (HCr.out wr.drew (deep - 1) vars T6.out.cur hde (by omega) (by omega) hv1 hv2).mono ?_
               rintro e w7 ⟨⟨x0, x1, x2, x3, x4, x5⟩, us, M, rfl, hown, hnd, hM, hcnt, hC7, hO7⟩
               have T7 := hide (TrL.on T6.out hlt hO7 hC7 hne hbc)
               have hzM := T6.out.box.1
               have hzT := T6.out.own.lt
               have HMB := hide (show ∀ x, x ∈ M → x ≠ b ∧ w.heap.size < x ∧ ¬ Blk v L x from fun x hx => ⟨by have := (hM x hx).1; omega, by have := (hM x hx).1; have := T6.out.res.1; omega, fun hb => by have h1 := (hM x hx).1; have h2 := hzT x hb; omega⟩)
               obtain ⟨A5, c5, L5, rfl, rfl, g0, g1, g2, g3, g4, g5⟩ := TPattern.vals_own hown
               have HOV := hide hown
               have HND := hide hnd
               have hcnt7 := hide hcnt
               clear hown hnd hM hcnt hC7 hO7 g5 hzM hzT
               have pb := T7.out.box; obtain ⟨hl7, f7, k70, k71, k72, k73, k74, k75⟩ := pb
               refine hK.out _ _ trivial (fun hHeld => ?_)
               clear hK K
               (try simp only [Act.put, List.setIfInBounds_toArray, List.set_cons_zero, List.set_cons_succ, List.getElem_toArray, List.getElem_cons_zero, List.getElem_cons_succ])
               refine wpAnyH_ready (rs := [1, 7]) (by kernel_rfl) (by simp) ?_
               refine AllReadyH.cons (o := _) rfl (fun K hK => ?_) (AllReadyH.cons (o := _) rfl (fun K hK => ?_) AllReadyH.nil)
               ·
                skip
                go_simp
                refine hK.out _ _ trivial (fun hHeld => ?_)
                clear hK K
                (try simp only [Act.put, List.setIfInBounds_toArray, List.set_cons_zero, List.set_cons_succ, List.getElem_toArray, List.getElem_cons_zero, List.getElem_cons_succ])
                refine wpAnyH_ready (rs := [7]) (by kernel_rfl) (by simp) ?_
                refine AllReadyH.cons (o := _) rfl (fun K hK => ?_) AllReadyH.nil
                go_simp
                have hown8 := OwnD.lit1 (k := 6) w7 28 HOV.out rfl HND.out
                obtain ⟨nw, hsr⟩ := hown8.src
                have HSR := hide hsr
                clear hown8 hsr
                have T8 := hide (TrL.bel T7.out hlt (show Bel w7 (w7.alloc (.cells #[.int .i64 x0, .string x1, .int .i64 x2, .int .i64 x3, .int .i64 x4, .slice A5 x5.length c5] 28)) from bl) hne hbc)
                refine hK.out _ _ trivial (fun hHeld => ?_)
                clear hK K
                (try simp only [Act.put, List.setIfInBounds_toArray, List.set_cons_zero, List.set_cons_succ, List.getElem_toArray, List.getElem_cons_zero, List.getElem_cons_succ])
                refine wpAnyH_ready (rs := [8]) (by kernel_rfl) (by simp) ?_
                refine AllReadyH.cons (o := _) rfl (fun K hK => ?_) AllReadyH.nil
                rw [if_pos (by rfl)]
                refine wp_append_D (.tmp 108) (.tmp 114) 24 rfl 28 ip (.agg #[.int .i64 0, .string ByteArray.empty, .int .i64 0, .int .i64 0, .int .i64 0, .slice none 0 0]) 6 72 Try.underlying24 hip zp0 zp1 zp2 (by decide) (by decide) T8.out.own HSR.out 1 rfl rfl (fun x hb hm => (HMB.out x hm).2.2 hb) (by rw [List.length_map]; omega) (by rw [List.length_map]; unfold maxLen; omega) fun v9 w9 hO9 hg9 hw9 => ?_
                obtain ⟨A9, n9, c9, rfl⟩ : ∃ A9 n9 c9, v9 = .slice A9 n9 c9 := by obtain ⟨A0, c0, L0, hv0, _⟩ := hO9.ownRow; exact ⟨_, _, _, hv0⟩
                obtain ⟨B9, TZ⟩ := TrL.grow HC.out T8.out hwb hbc hg9 hO9 hw9 HMB.out (by have h1 := HE.out; have h2 := hcnt7.out; rw [h1]; exact h2)
                obtain ⟨hl9, f9, k90, k91, k92, k93, k94, k95⟩ := B9
                have TZ := hide TZ
                clear hO9 hw9 hg9
                refine hK.out _ _ trivial (fun hHeld => ?_)
                clear hK K
                (try simp only [Act.put, List.setIfInBounds_toArray, List.set_cons_zero, List.set_cons_succ, List.getElem_toArray, List.getElem_cons_zero, List.getElem_cons_succ])
                refine tkI 9 ?_
                refine wpAnyH_ready (rs := [10]) (by kernel_rfl) (by simp) ?_
                refine AllReadyH.cons (o := _) rfl (fun K hK => ?_) AllReadyH.nil
                go_simp
                refine hK.out _ _ trivial (fun hHeld => ?_)
                clear hK K
                (try simp only [Act.put, List.setIfInBounds_toArray, List.set_cons_zero, List.set_cons_succ, List.getElem_toArray, List.getElem_cons_zero, List.getElem_cons_succ])
                refine wpAnyH_done (by kernel_rfl) ?_ _
                clear hHeld
                go_wp2_with (fail)
                all_goals go_roundw
                case rel => exact ⟨i + 1, _, _, _, by go_num, by rw [List.length_append, hlen]; rfl, by omega, hide TZ.out⟩
                case measure => simp [intOf]; omega
               ·
                skip
                go_simp
                have hown8 := OwnD.lit1 (k := 6) w7 28 HOV.out rfl HND.out
                obtain ⟨nw, hsr⟩ := hown8.src
                have HSR := hide hsr
                clear hown8 hsr
                have T8 := hide (TrL.bel T7.out hlt (show Bel w7 (w7.alloc (.cells #[.int .i64 x0, .string x1, .int .i64 x2, .int .i64 x3, .int .i64 x4, .slice A5 x5.length c5] 28)) from bl) hne hbc)
                refine hK.out _ _ trivial (fun hHeld => ?_)
                clear hK K
                (try simp only [Act.put, List.setIfInBounds_toArray, List.set_cons_zero, List.set_cons_succ, List.getElem_toArray, List.getElem_cons_zero, List.getElem_cons_succ])
                have pb := T8.out.box; obtain ⟨hl8, f8, k80, k81, k82, k83, k84, k85⟩ := pb
                refine wpAnyH_ready (rs := [1]) (by kernel_rfl) (by simp) ?_
                refine AllReadyH.cons (o := _) rfl (fun K hK => ?_) AllReadyH.nil
                go_simp
                refine hK.out _ _ trivial (fun hHeld => ?_)
                clear hK K
                (try simp only [Act.put, List.setIfInBounds_toArray, List.set_cons_zero, List.set_cons_succ, List.getElem_toArray, List.getElem_cons_zero, List.getElem_cons_succ])
                refine wpAnyH_ready (rs := [8]) (by kernel_rfl) (by simp) ?_
                refine AllReadyH.cons (o := _) rfl (fun K hK => ?_) AllReadyH.nil
                rw [if_pos (by rfl)]
                refine wp_append_D (.tmp 108) (.tmp 114) 24 rfl 28 ip (.agg #[.int .i64 0, .string ByteArray.empty, .int .i64 0, .int .i64 0, .int .i64 0, .slice none 0 0]) 6 72 Try.underlying24 hip zp0 zp1 zp2 (by decide) (by decide) T8.out.own HSR.out 1 rfl rfl (fun x hb hm => (HMB.out x hm).2.2 hb) (by rw [List.length_map]; omega) (by rw [List.length_map]; unfold maxLen; omega) fun v9 w9 hO9 hg9 hw9 => ?_
                obtain ⟨A9, n9, c9, rfl⟩ : ∃ A9 n9 c9, v9 = .slice A9 n9 c9 := by obtain ⟨A0, c0, L0, hv0, _⟩ := hO9.ownRow; exact ⟨_, _, _, hv0⟩
                obtain ⟨B9, TZ⟩ := TrL.grow HC.out T8.out hwb hbc hg9 hO9 hw9 HMB.out (by have h1 := HE.out; have h2 := hcnt7.out; rw [h1]; exact h2)
                obtain ⟨hl9, f9, k90, k91, k92, k93, k94, k95⟩ := B9
                have TZ := hide TZ
                clear hO9 hw9 hg9
                refine hK.out _ _ trivial (fun hHeld => ?_)
                clear hK K
                (try simp only [Act.put, List.setIfInBounds_toArray, List.set_cons_zero, List.set_cons_succ, List.getElem_toArray, List.getElem_cons_zero, List.getElem_cons_succ])
                refine tkI 9 ?_
                refine wpAnyH_ready (rs := [10]) (by kernel_rfl) (by simp) ?_
                refine AllReadyH.cons (o := _) rfl (fun K hK => ?_) AllReadyH.nil
                go_simp
                refine hK.out _ _ trivial (fun hHeld => ?_)
                clear hK K
                (try simp only [Act.put, List.setIfInBounds_toArray, List.set_cons_zero, List.set_cons_succ, List.getElem_toArray, List.getElem_cons_zero, List.getElem_cons_succ])
                refine wpAnyH_done (by kernel_rfl) ?_ _
                clear hHeld
                go_wp2_with (fail)
                all_goals go_roundw
                case rel => exact ⟨i + 1, _, _, _, by go_num, by rw [List.length_append, hlen]; rfl, by omega, hide TZ.out⟩
                case measure => simp [intOf]; omega
             ·
              skip
              have hdc : decide ((i : Int) < (kidsN op : Int)) = false := by simp; omega
              have hdn : decide (i < kidsN op) = false := by simp; omega
              have hi2 := (kidsN_two op).2
              obtain ⟨A9, n9, c9, rfl⟩ : ∃ A9 n9 c9, v = .slice A9 n9 c9 := by obtain ⟨A0, c0, L0, hv0, _⟩ := HT.out.own.ownRow; exact ⟨_, _, _, hv0⟩
              have RB := HT.out.res
              obtain ⟨rl, rf, r0, r1, r2, r3, r4, r5⟩ := RB
              go_upto_region 18 with (go_at_call 67; refine (l18Kids_any op _).mono ?_; rintro e w6 ⟨rfl, rfl⟩)
              have HF := hide (TrL.fin HC.out HT.out hwb hbc T5.out.iop T5.out.ht T5.out.im T5.out.il T5.out.ih (by omega))
              have HTR := hide HT.out.res
              have HRB := hide (show PB wr w.heap.size (.int .i64 0) (.string ByteArray.empty) (.int .i64 0) (.int .i64 0) (.int .i64 0) (.slice none 0 0) from HTR.out)
              clear r0 r1 r2 r3 r4 r5 rf f5
              refine wp_region_lit ?_
              refine wpList_plain rfl fun K hK => ?_
              go_simp
              refine hK _ _ ?_
              refine wpList_store_mid rfl 28 (.tmp 6) (.tmp 117) rfl w.heap.size 0 #[.int .i64 op, .string t, .int .i64 m, .int .i64 lo, .int .i64 hi, .slice A9 n9 c9] rfl rfl HRB.out.there (by kernel_rfl) (by simp [Value.oneCell']) ?_
              refine wpList_namedF fun wz hwz => ?_
              obtain ⟨PZ, QZ⟩ := HF.out wz hwz
              obtain ⟨-, -, d0, d1, d2, d3, d4, d5⟩ := PZ
              clear hwz k50 k51 k52 k53 k54 k55 HRB HF
              refine wpList_nil ?_
              go_simp
              rename_i hKr
              refine hKr _ _ ?_
              clear hKr hK
              refine wp_ret ?_
              exact bodyPost_ret (v := .agg #[.int .i64 op, .string t, .int .i64 m, .int .i64 lo, .int .i64 hi, .slice A9 n9 c9]) (by simp [results, Try.results46, d0, d1, d2, d3, d4, d5, go_sem]; try rfl) rfl QZ
end Go.Proofs.Ytdjbfneniohaaaa
