/- Draws: definitions, a pattern and a subject: the walk. -/
import Derived.Test.YtdjbfneniohaaaaPFp3
namespace Go.Proofs.Ytdjbfneniohaaaa
set_option linter.unusedVariables false
set_option linter.unusedSimpArgs false
set_option maxRecDepth 100000
open Go.RowKit
structure MaP (w1 wx : World) (c : Nat) (A : Option Addr) (n cap r b : Nat) (v : Value) (L : List Nat) (ds : List TPattern) (op : Int) (t : ByteArray) (m lo hi : Int) (k : Value) (M : List Nat) (ks : List TPattern) : Prop where
 mal : MaL w1 wx c A n cap v L ds
 box : PB wx b (.int .i64 op) (.string t) (.int .i64 m) (.int .i64 lo) (.int .i64 hi) k
 res : PB wx r (.int .i64 0) (.string ByteArray.empty) (.int .i64 0) (.int .i64 0) (.int .i64 0) (.slice none 0 0)
 own : Dat.OwnVals wx M (TPattern.D (.mk op t m lo hi ks)) [.int .i64 op, .string t, .int .i64 m, .int .i64 lo, .int .i64 hi, k]
 blk : ∀ x, x ∈ M → w1.heap.size ≤ x ∧ x ≠ b
 off : ∀ x, Blk v L x → x ≠ b
theorem k_named {K : Act → World → Prop} {a : Act} {W : World} (h : ∀ wz, wz = W → K a wz) : K a W := h W rfl
theorem keep6 {w w' : World} {b : Nat} {v0 v1 v2 v3 v4 v5 : Value} (hl : b < w.heap.size) (h : Bel w w') (k0 : w.cell? ⟨b, 0, none⟩ = some v0) (k1 : w.cell? ⟨b, 1, none⟩ = some v1) (k2 : w.cell? ⟨b, 2, none⟩ = some v2) (k3 : w.cell? ⟨b, 3, none⟩ = some v3) (k4 : w.cell? ⟨b, 4, none⟩ = some v4) (k5 : w.cell? ⟨b, 5, none⟩ = some v5) :
  w'.cell? ⟨b, 0, none⟩ = some v0 ∧ w'.cell? ⟨b, 1, none⟩ = some v1 ∧ w'.cell? ⟨b, 2, none⟩ = some v2 ∧ w'.cell? ⟨b, 3, none⟩ = some v3 ∧ w'.cell? ⟨b, 4, none⟩ = some v4 ∧ w'.cell? ⟨b, 5, none⟩ = some v5 :=
 ⟨(h.box b hl 0).trans k0, (h.box b hl 1).trans k1, (h.box b hl 2).trans k2, (h.box b hl 3).trans k3, (h.box b hl 4).trans k4, (h.box b hl 5).trans k5⟩
section
variable {w w1 wx wy : World} {c : Nat} {A : Option Addr} {n cap r b : Nat} {v : Value} {L : List Nat} {ds : List TPattern} {op m lo hi : Int} {t : ByteArray} {k : Value} {M : List Nat} {ks : List TPattern}
theorem MaP.on (h : MaP w1 wx c A n cap r b v L ds op t m lo hi k M ks) (hc : c < w1.heap.size) (hr : r ≠ c) (hb : b ≠ c) (q : Oth c wx wy) (hC : Cur wy c A n cap) : MaP w1 wy c A n cap r b v L ds op t m lo hi k M ks :=
 ⟨h.mal.on hc q hC, h.box.oth q hb, h.res.oth q hr, Dat.OwnVals.keep q.size _ _ _ (fun x hx => ⟨fun o => World.cell?_of_block (q.block x (Dat.OwnVals.lt _ _ _ h.own x hx) (by have := (h.blk x hx).1; omega)), fun o => World.frozen?_of_block (q.block x (Dat.OwnVals.lt _ _ _ h.own x hx) (by have := (h.blk x hx).1; omega))⟩) h.own, h.blk, h.off⟩
theorem MaP.bel (h : MaP w1 wx c A n cap r b v L ds op t m lo hi k M ks) (hc : c < w1.heap.size) (hr : r ≠ c) (hb : b ≠ c) (q : Bel wx wy) : MaP w1 wy c A n cap r b v L ds op t m lo hi k M ks := h.on hc hr hb (Oth.of_bel q) (h.mal.cur.bel q)
theorem MaP.put2 (h0 : Cur w1 c A n cap) (h : MaP w1 wx c A n cap r b v L ds op t m lo hi k M ks) (hb1 : w1.heap.size ≤ b) (hrb : r ≠ b) {x : Int} (hx : InI x) : MaP w1 (wx.setCell ⟨b, 2, none⟩ (.int .i64 x)) c A n cap r b v L ds op t x lo hi k M ks := by
 have hc := h0.1
 have hO : Oth c w1 (wx.setCell ⟨b, 2, none⟩ (.int .i64 x)) := h.mal.oth.put hb1 2 _
 have hC := h0.back h.mal.cur hO (set_block 2 _ (by omega))
 refine ⟨⟨hC, hO, h.mal.own.keep (by simp) (fun y hy => set_block 2 _ (fun e => h.off y hy e.symm)), h.mal.blk, h.mal.cnt⟩, h.box.put2 _, h.res.far 2 _ (fun e => hrb e.symm), ?_, h.blk, h.off⟩
 obtain ⟨A5, c5, L5, rfl, e, g0, g1, g2, g3, g4, g5⟩ := TPattern.vals_own h.own
 have e' : k = .slice A5 ks.length c5 := by injection e with _ e; injection e with _ e; injection e with _ e; injection e with _ e; injection e with _ e; injection e
 rw [e']
 have e9 : ∀ y, y ∈ M → (wx.setCell ⟨b, 2, none⟩ (.int .i64 x)).heap[y]? = wx.heap[y]? := fun y hy => set_block 2 _ (fun e => (h.blk y hy).2 e.symm)
 exact TPattern.own_mk g0 g1 hx g3 g4 (OwnRow.keep (by simp) (fun y hy => ⟨fun o => World.cell?_of_block (e9 y hy), fun o => World.frozen?_of_block (e9 y hy)⟩) g5)
theorem MaP.fin (hb0 : Bel w w1) (h0 : Cur w1 c A n cap) (h : MaP w1 wx c A n cap r b v L ds op t m lo hi k M ks) (hr0 : w.heap.size ≤ r) (hr1 : r < w1.heap.size) (hcw : w.heap.size ≤ c) (hl : ds.length ≤ 3) (hcn : (TPattern.mk op t m lo hi ks).cnt < 64) {s : ByteArray} (hs : s.size ≤ 20) :
  ∀ wz, wz = (((((wx.setCell ⟨r, 0, none⟩ (.int .i64 op)).setCell ⟨r, 1, none⟩ (.string t)).setCell ⟨r, 2, none⟩ (.int .i64 m)).setCell ⟨r, 3, none⟩ (.int .i64 lo)).setCell ⟨r, 4, none⟩ (.int .i64 hi)).setCell ⟨r, 5, none⟩ k →
   (∀ y, r ≠ y → wz.heap[y]? = wx.heap[y]?) ∧ PB wz r (.int .i64 op) (.string t) (.int .i64 m) (.int .i64 lo) (.int .i64 hi) k ∧ MatchP w (.returned (.tuple #[v, .agg #[.int .i64 op, .string t, .int .i64 m, .int .i64 lo, .int .i64 hi, k], .string s])) wz := by
 intro wz hwz
 have hc := h0.1
 have hz01 := hb0.size
 have hsz : wz.heap.size = wx.heap.size := by rw [hwz]; simp
 have hsame : ∀ y, r ≠ y → wz.heap[y]? = wx.heap[y]? := fun y hy => by
  rw [hwz, set_block 5 _ hy, set_block 4 _ hy, set_block 3 _ hy, set_block 2 _ hy, set_block 1 _ hy, set_block 0 _ hy]
 have hO0 : Oth c w wx := Oth.trans (Oth.of_bel hb0) h.mal.oth
 have hO : Oth c w wz := by
  rw [hwz]
  exact (((((hO0.put hr0 0 _).put hr0 1 _).put hr0 2 _).put hr0 3 _).put hr0 4 _).put hr0 5 _
 refine ⟨hsame, by rw [hwz]; exact (((((h.res.put0 _).put1 _).put2 _).put3 _).put4 _).put5 _, ?_⟩
 have hown := h.mal.own.keep (w' := wz) (by omega) (fun x hx => hsame x (by have := h.mal.blk x hx; omega))
 have hown2 : Dat.OwnVals wz M (TPattern.D (.mk op t m lo hi ks)) [.int .i64 op, .string t, .int .i64 m, .int .i64 lo, .int .i64 hi, k] := Dat.OwnVals.keep (by omega) _ _ _ (fun x hx => by
  have e := hsame x (by have := (h.blk x hx).1; omega)
  exact ⟨fun o => World.cell?_of_block e, fun o => World.frozen?_of_block e⟩) h.own
 exact ⟨ds, v, _, L, M, .mk op t m lo hi ks, s, rfl, hown, hown2, fun x hx => by have := h.mal.blk x hx; omega, fun x hx => by have := (h.blk x hx).1; omega, hl, h.mal.cnt, hcn, hs, Oth.bel (Bel.refl _) hO hcw⟩
end
set_option maxHeartbeats 1000000 in
theorem l18Match_any (A : Option Addr) (n cap : Nat) (w : World) (hn : n ≤ 1048576) (hB : ∀ c, w.heap.size ≤ c → Bts w c A n) :
  Calls Try.prog 27 #[.slice A n cap] w (MatchP w) := by
 have HB := hide hB
 clear hB
 obtain ⟨ip, hip, zp0, zp1, zp2⟩ := info_parts infoPat
 go_enter Try.func27, Try.ntmps27
 go_upto_region 2 with (go_at_call 44; refine (l1New_any A n cap _ hn (fun c h => (HB.out c (by simp at h; omega)).on (Oth.of_bel bl))).mono ?_; rintro e w1 ⟨rfl, hC1, hb1⟩; have HC1 := hide hC1; have Hb1 := hide (show Bel w w1 from bl); have R1 := hide ((PB.new w 28 (v0 := .int .i64 0) (v1 := .string ByteArray.empty) (v2 := .int .i64 0) (v3 := .int .i64 0) (v4 := .int .i64 0) (v5 := .slice none 0 0)).on hb1); have hr1 := R1.out.1; have hc1 := hC1.1; clear hC1 hb1)
 simp only [World.size_alloc] at HC1 hc1 ⊢
 have hcw : w.heap.size ≤ w.heap.size + 1 := by omega
 have hrc : w.heap.size ≠ w.heap.size + 1 := by omega
 generalize w.heap.size + 1 = c at HC1 hc1 hcw hrc ⊢
 go_wp2_with (go_at_call 45; refine (l1Below_any 4 c A n cap _ HC1.out (by unfold InI; omega)).mono ?_; rintro e w2 ⟨N0, hN1, hN2, rfl, hC2, hO2⟩; have hN3 : N0 ≤ 3 := hN2; clear hN2; obtain ⟨N, rfl⟩ := Int.eq_ofNat_of_zero_le hN1; have HC2 := hide hC2; have HO2 := hide hO2; have R2 := hide (R1.out.oth hO2 hrc); clear hC2 hO2 hN1)
 have M2 := hide (show MaL w1 (w2.alloc (.cells #[] 28)) c A n cap (.slice (some ⟨w2.heap.size, 0, none⟩) 0 0) [] [] from ⟨HC2.out.bel bl, HO2.out.trans (Oth.of_bel bl), OwnD.lit0 _ _ _, (fun x hx => by rcases hx with hx | hx; (have e := Option.some.inj (show some w2.heap.size = some x from hx); have := HO2.out.size; omega); cases hx), (fun x hx => by cases hx)⟩)
 go_loopw [7, 8] (fun lv iv wr => ∃ (i : Nat) (v : Value) (ts : List TPattern) (L : List Nat), v = lv ∧ iv = .int .i64 i ∧ ts.length = i ∧ i ≤ N ∧ Hid (MaL w1 wr c A n cap v L ts)) (fun _ iv _ => N - (intOf iv).toNat)
 case atStart => exact ⟨0, _, [], _, rfl, rfl, rfl, Nat.zero_le _, hide M2.out⟩
 case round =>
  obtain ⟨i, v, ts, L, rfl, rfl, hlen, hik, HT⟩ := hrel
  clear M2 HC2 HO2 R2
  by_cases h : i < N
  ·
   skip
   have hdc : decide ((i : Int) < (N : Int)) = true := by simp; omega
   go_wp2_with (first | (go_at_call 46; refine (l18Tree_any c A n cap 2 _ 2 N HT.out.cur (by omega) (by omega) (by omega) (by omega) (by omega)).mono ?_; rintro e w7 ⟨⟨x0, x1, x2, x3, x4, x5⟩, us, M, rfl, hown, hnd, hM, hcnt, hC7, hO7⟩; have T7 := hide (MaL.on HT.out hc1 hO7 hC7); have hzT := HT.out.own.lt; have hzo := HT.out.oth.size; have HMB := hide (show ∀ x, x ∈ M → w1.heap.size ≤ x ∧ ¬ Blk v L x from fun x hx => ⟨by have := (hM x hx).1; omega, fun hb => by have h1 := (hM x hx).1; have h2 := hzT x hb; omega⟩); obtain ⟨A5, c5, L5, rfl, rfl, g0, g1, g2, g3, g4, g5⟩ := TPattern.vals_own hown; have HOV := hide hown; have HND := hide hnd; have HCN := hide hcnt; clear hown hnd hM hcnt hC7 hO7 g5 hzT hzo) | (at_builtin; have hown8 := OwnD.lit1 (k := 6) w7 28 HOV.out rfl HND.out; obtain ⟨nw, hsr⟩ := hown8.src; have HSR := hide hsr; clear hown8 hsr; have T8 := hide (MaL.bel T7.out hc1 (show Bel w7 (w7.alloc (.cells #[.int .i64 x0, .string x1, .int .i64 x2, .int .i64 x3, .int .i64 x4, .slice A5 x5.length c5] 28)) from bl)); have HO8 := hide T8.out.own; refine wpList_append_D rfl (.tmp 20) (.tmp 24) 24 rfl 28 ip (.agg #[.int .i64 0, .string ByteArray.empty, .int .i64 0, .int .i64 0, .int .i64 0, .slice none 0 0]) 6 72 Try.underlying24 hip zp0 zp1 zp2 (by decide) (by decide) HO8.out HSR.out 1 rfl rfl ?c1 ?c2 ?c3 ?_))
   case c1 => exact fun b hb hm => (HMB.out b hm).2 hb
   case c2 => rw [List.length_map]; omega
   case c3 => rw [List.length_map]; unfold maxLen; omega
   intro v9 w9 hO9 hg9 hw9
   have TZ := hide (MaL.grow HC1.out T8.out hg9 hO9 (fun k hk => by have := hw9 k hk; rw [World.size_alloc]; exact this) (fun x hx => (HMB.out x hx).1) HCN.out)
   clear hO9 hg9 hw9
   go_wp2_with (fail)
   all_goals go_roundw
   case rel => exact ⟨i + 1, _, _, _, rfl, by go_num, by rw [List.length_append, hlen]; rfl, by omega, hide TZ.out⟩
   case measure => simp [intOf]; omega
  ·
   skip
   have hdc : decide ((i : Int) < (N : Int)) = false := by simp; omega
   have R3 := hide (R1.out.oth HT.out.oth hrc)
   have hzx := HT.out.oth.size
   go_upto_region 9 with (first | (go_at_call 47; refine (l1Size_any A n cap _ hn).mono ?_; rintro e w4 ⟨⟨x, hx1, hx2, rfl⟩, rfl⟩) | (go_at_call 45; refine (l1Below_any x c A n cap _ HT.out.cur (by unfold InI; omega)).mono ?_; rintro e w5 ⟨y, hy1, hy2, rfl, hC5, hO5⟩; have hy3 : y ≤ 3 := (by unfold belowHi at hy2; split at hy2 <;> omega); clear hy2; have T5 := hide (MaL.on HT.out hc1 hO5 hC5); have R5 := hide (R3.out.oth hO5 hrc); have hy4 : IntKind.i64.wrap (1 + y) = 1 + y := (by rw [IntKind.wrap_i64]; omega); clear hC5 hO5) | (go_at_call 46; refine (l18Tree_any c A n cap 5 _ (1 + y) N T5.out.cur (by omega) (by omega) (by omega) (by omega) (by omega)).mono ?_; rintro e w7 ⟨⟨x0, x1, x2, x3, x4, x5⟩, us, M, rfl, hown, hnd, hM, hcnt, hC7, hO7⟩; have T7 := hide (MaL.on T5.out hc1 hO7 hC7); have R7 := hide (R5.out.oth hO7 hrc); have hzo := T5.out.oth.size; have HMB := hide (show ∀ x, x ∈ M → w1.heap.size ≤ x ∧ x < w7.heap.size from fun x hx => ⟨by have := (hM x hx).1; omega, Dat.OwnVals.lt _ _ _ hown x hx⟩); obtain ⟨A5, c5, L5, rfl, rfl, g0, g1, g2, g3, g4, g5⟩ := TPattern.vals_own hown; have HOV := hide hown; have HCN := hide hcnt; clear hown hnd hM hcnt hC7 hO7 g5 hzo))
   refine wp_namedF fun w8 hw8 => ?_
   have hb78 : Bel w7 w8 := by rw [← hw8]; exact bl
   have hbw7 : w1.heap.size ≤ w7.heap.size := T7.out.oth.size
   have hbc : w7.heap.size ≠ c := by omega
   have hrb : w.heap.size ≠ w7.heap.size := by omega
   have T8 := hide (show MaP w1 w8 c A n cap w.heap.size w7.heap.size v L ts x0 x1 x2 x3 x4 (.slice A5 x5.length c5) M x5 from ⟨MaL.bel T7.out hc1 hb78, by rw [← hw8]; first | exact PB.new _ _ | exact ((((((PB.new _ _).put0 _).put1 _).put2 _).put3 _).put4 _).put5 _, R7.out.on hb78, Dat.OwnVals.bel hb78 HOV.out, (fun x hx => ⟨(HMB.out x hx).1, by have := (HMB.out x hx).2; omega⟩), (fun x hx => by have := T7.out.own.lt x hx; omega)⟩)
   clear hw8 hb78 HMB HOV T7 R7 T5 R5 R3
   generalize w7.heap.size = b at T8 hbw7 hbc hrb ⊢
   clear w7
   go_upto_if 35 with (go_at_call 48; refine (l1Once_any 25 c A n cap _ T8.out.mal.cur (by unfold InI; omega)).mono ?_; rintro e w9 ⟨q, rfl, hC9, hO9⟩; have T9 := hide (T8.out.on hc1 hrc hbc hO9 hC9); have pb := T9.out.box; obtain ⟨hl9, f9, k90, k91, k92, k93, k94, k95⟩ := pb; clear hC9 hO9)
   go_cut [] from 10 (fun wx => ∃ m, MaP w1 wx c A n cap w.heap.size b v L ts x0 x1 m x3 x4 (.slice A5 x5.length c5) M x5)
   case first =>
    cases q
    ·
     go_wp2_with (fail)
     all_goals go_meet
     all_goals exact ⟨_, T9.out⟩
    ·
     go_wp2_with (go_at_call 45; refine (l1Below_any 200 c A n cap _ T9.out.mal.cur (by unfold InI; omega)).mono ?_; rintro e w10 ⟨z, hz1, hz2, rfl, hC6, hO6⟩; have hz3 : z ≤ 199 := hz2; clear hz2; have T10 := hide (T9.out.on hc1 hrc hbc hO6 hC6); have hz4 : IntKind.i64.wrap (z - 2) = z - 2 := (by rw [IntKind.wrap_i64]; omega); have pb := T10.out.box; obtain ⟨hl10, f10, k100, k101, k102, k103, k104, k105⟩ := pb; clear hC6 hO6)
     all_goals go_meet
     all_goals exact ⟨_, T10.out.put2 HC1.out hbw7 hrb (by unfold InI; omega)⟩
   case rest =>
    obtain ⟨m, T⟩ := hcut
    have T5 := hide T
    clear T T8 T9 hl9 f9 k90 k91 k92 k93 k94 k95
    rename_i wc
    have pb := T5.out.box; obtain ⟨hl5, f5, k50, k51, k52, k53, k54, k55⟩ := pb
    go_upto_region 11 with (fail)
    refine wp_region_held_drew (S := fun w' => w'.cell? ⟨b, 0, none⟩ = some (.int .i64 x0) ∧ w'.cell? ⟨b, 1, none⟩ = some (.string x1) ∧ w'.cell? ⟨b, 2, none⟩ = some (.int .i64 m) ∧ w'.cell? ⟨b, 3, none⟩ = some (.int .i64 x3) ∧ w'.cell? ⟨b, 4, none⟩ = some (.int .i64 x4) ∧ w'.cell? ⟨b, 5, none⟩ = some (.slice A5 x5.length c5)) (by kernel_rfl) ?_ (fun hHeld => ?_)
    ·
     exact ⟨k50, k51, k52, k53, k54, k55⟩
    refine tkI 0 ?_
    refine tkI 1 ?_
    refine tkI 2 ?_
    refine wpAnyH_ready (rs := [3]) (by kernel_rfl) (by simp) ?_
    refine AllReadyH.cons (o := _) rfl (fun K hK => ?_) AllReadyH.nil
    go_simp
    refine hK.out _ _ ?_ (fun hHeld => ?_)
    ·
     exact keep6 hl5 bl k50 k51 k52 k53 k54 k55
    clear hK K
    (try simp only [Act.put, List.setIfInBounds_toArray, List.set_cons_zero, List.set_cons_succ, List.getElem_toArray, List.getElem_cons_zero, List.getElem_cons_succ])
    refine wpAnyH_ready (rs := [4]) (by kernel_rfl) (by simp) ?_
    refine AllReadyH.cons (o := _) rfl (fun K hK => ?_) AllReadyH.nil
    go_simp
    have HRT := hide (show RowT ((wc.alloc (.cells #[.string ⟨#[98, 97, 110, 97, 110, 97]⟩, .string ⟨#[]⟩, .string ⟨#[97]⟩, .string ⟨#[110, 97, 98]⟩, .string ⟨#[98, 97, 110, 97, 110, 97, 98, 97, 110]⟩, .string ⟨#[97, 98, 44, 99]⟩, .string ⟨#[97, 97, 97, 97]⟩] 9)).drew) wc.heap.size 7 20 from rowT_new (w := wc.drew) 20 [⟨#[98, 97, 110, 97, 110, 97]⟩, ⟨#[]⟩, ⟨#[97]⟩, ⟨#[110, 97, 98]⟩, ⟨#[98, 97, 110, 97, 110, 97, 98, 97, 110]⟩, ⟨#[97, 98, 44, 99]⟩, ⟨#[97, 97, 97, 97]⟩] (by decide +kernel))
    have HB9 := hide (show Bel wc ((wc.alloc (.cells #[.string ⟨#[98, 97, 110, 97, 110, 97]⟩, .string ⟨#[]⟩, .string ⟨#[97]⟩, .string ⟨#[110, 97, 98]⟩, .string ⟨#[98, 97, 110, 97, 110, 97, 98, 97, 110]⟩, .string ⟨#[97, 98, 44, 99]⟩, .string ⟨#[97, 97, 97, 97]⟩] 9)).drew) from bl)
    go_at_call 49
    refine (l1Pick_any _ 7 20 7 c A n cap _ (T5.out.mal.cur.bel HB9.out) HRT.out (by have := T5.out.mal.cur.1; omega) (by omega) (by omega)).mono ?_
    rintro e w10 ⟨sx, hsx, rfl, hC6, hO6⟩
    have T10 := hide (T5.out.on hc1 hrc hbc (Oth.trans (Oth.of_bel HB9.out) hO6) hC6)
    have HSX := hide hsx
    clear hC6 hO6 hsx hHeld k50 k51 k52 k53 k54 k55 f5 hl5
    have pb := T10.out.box; obtain ⟨hl6, f6, k60, k61, k62, k63, k64, k65⟩ := pb
    refine hK.out _ _ ⟨k60, k61, k62, k63, k64, k65⟩ (fun hHeld => ?_)
    clear hK K
    (try simp only [Act.put, List.setIfInBounds_toArray, List.set_cons_zero, List.set_cons_succ, List.getElem_toArray, List.getElem_cons_zero, List.getElem_cons_succ])
    refine tkI 5 ?_
    refine wpAnyH_ready (rs := [6]) (by kernel_rfl) (by simp) ?_
    refine AllReadyH.cons (o := _) rfl (fun K hK => ?_) AllReadyH.nil
    have HF := hide (MaP.fin Hb1.out HC1.out T10.out (Nat.le_refl _) hr1 hcw (by omega) HCN.out HSX.out)
    refine wp_store_mid 28 (.tmp 3) (.tmp 41) rfl w.heap.size 0 #[.int .i64 x0, .string x1, .int .i64 m, .int .i64 x3, .int .i64 x4, .slice A5 x5.length c5] rfl rfl T10.out.res.there (by kernel_rfl) (by simp [Value.oneCell']) ?_
    refine k_named fun wz hwz => ?_
    obtain ⟨SZ, PZ, QZ⟩ := HF.out wz hwz
    clear HF hwz
    have SB := SZ b hrb
    obtain ⟨-, -, d0, d1, d2, d3, d4, d5⟩ := PZ
    refine hK.out _ _ ⟨(World.cell?_of_block SB).trans k60, (World.cell?_of_block SB).trans k61, (World.cell?_of_block SB).trans k62, (World.cell?_of_block SB).trans k63, (World.cell?_of_block SB).trans k64, (World.cell?_of_block SB).trans k65⟩ (fun hHeld => ?_)
    clear hK K
    (try simp only [Act.put, List.setIfInBounds_toArray, List.set_cons_zero, List.set_cons_succ, List.getElem_toArray, List.getElem_cons_zero, List.getElem_cons_succ])
    refine tkI 7 ?_
    refine wpAnyH_done (by kernel_rfl) ?_ _
    clear hHeld SZ k60 k61 k62 k63 k64 k65 f6
    go_wp2_with (fail)
    exact bodyPost_ret (v := .tuple #[v, .agg #[.int .i64 x0, .string x1, .int .i64 m, .int .i64 x3, .int .i64 x4, .slice A5 x5.length c5], .string sx]) (by simp [results, Try.results27, d0, d1, d2, d3, d4, d5, go_sem]; try rfl) rfl QZ
end Go.Proofs.Ytdjbfneniohaaaa
