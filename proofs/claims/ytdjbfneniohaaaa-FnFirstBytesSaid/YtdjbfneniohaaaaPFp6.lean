/- Draws: definitions, a pattern, a subject and an offset. -/
import Derived.Test.YtdjbfneniohaaaaPFp5
namespace Go.Proofs.Ytdjbfneniohaaaa
set_option linter.unusedVariables false
set_option linter.unusedSimpArgs false
set_option maxRecDepth 100000
open Go.RowKit
def DrawE (w : World) (e : Ending) (w' : World) : Prop :=
 ∃ (ds : List TPattern) (v : Value) (vs : List Value) (L M : List Nat) (t : TPattern) (s : ByteArray) (a : Int), e = .returned (.tuple #[v, .agg vs.toArray, .string s, .int .i64 a]) ∧ OwnD w' 28 6 v L (ds.map TPattern.D) ∧ Dat.OwnVals w' M t.D vs ∧
  (∀ k, Blk v L k → w.heap.size ≤ k) ∧ (∀ k, k ∈ M → w.heap.size ≤ k) ∧ ds.length ≤ 3 ∧ (∀ x ∈ ds, TPattern.cnt x < 8) ∧ t.cnt < 64 ∧ s.size ≤ 20 ∧ -1 ≤ a ∧ a ≤ 2 ∧ Bel w w'
structure DrF (w wx : World) (r : Nat) (v : Value) (L : List Nat) (ds : List TPattern) (M : List Nat) (D : List Dat) (vs : List Value) : Prop where
 res : PB wx r (.int .i64 0) (.string ByteArray.empty) (.int .i64 0) (.int .i64 0) (.int .i64 0) (.slice none 0 0)
 own : OwnD wx 28 6 v L (ds.map TPattern.D)
 owp : Dat.OwnVals wx M D vs
 bk1 : ∀ k, Blk v L k → r < k
 bk2 : ∀ k, k ∈ M → r < k
 bel : Bel w wx
theorem DrF.on {w wx wy : World} {r : Nat} {v : Value} {L : List Nat} {ds : List TPattern} {M : List Nat} {D : List Dat} {vs : List Value} (h : DrF w wx r v L ds M D vs) (k : Bel wx wy) : DrF w wy r v L ds M D vs :=
 ⟨h.res.on k, h.own.bel k, h.owp.bel k, h.bk1, h.bk2, h.bel.trans k⟩
theorem DrF.fin {w wx : World} {r : Nat} {v : Value} {L : List Nat} {ds : List TPattern} {M : List Nat} {op m lo hi a : Int} {t s : ByteArray} {k : Value} {ks : List TPattern}
  (h : DrF w wx r v L ds M (TPattern.D (.mk op t m lo hi ks)) [.int .i64 op, .string t, .int .i64 m, .int .i64 lo, .int .i64 hi, k]) (hr : r = w.heap.size) (hl : ds.length ≤ 3) (hcs : ∀ x ∈ ds, TPattern.cnt x < 8) (hcn : (TPattern.mk op t m lo hi ks).cnt < 64) (hs : s.size ≤ 20) (ha : -1 ≤ a ∧ a ≤ 2) :
  ∀ wz, wz = (((((wx.setCell ⟨r, 0, none⟩ (.int .i64 op)).setCell ⟨r, 1, none⟩ (.string t)).setCell ⟨r, 2, none⟩ (.int .i64 m)).setCell ⟨r, 3, none⟩ (.int .i64 lo)).setCell ⟨r, 4, none⟩ (.int .i64 hi)).setCell ⟨r, 5, none⟩ k →
   (∀ y, r ≠ y → wz.heap[y]? = wx.heap[y]?) ∧ PB wz r (.int .i64 op) (.string t) (.int .i64 m) (.int .i64 lo) (.int .i64 hi) k ∧ DrawE w (.returned (.tuple #[v, .agg #[.int .i64 op, .string t, .int .i64 m, .int .i64 lo, .int .i64 hi, k], .string s, .int .i64 a])) wz := by
 intro wz hwz
 have hsz : wz.heap.size = wx.heap.size := by rw [hwz]; simp
 have hsame : ∀ y, r ≠ y → wz.heap[y]? = wx.heap[y]? := fun y hy => by
  rw [hwz, set_block 5 _ hy, set_block 4 _ hy, set_block 3 _ hy, set_block 2 _ hy, set_block 1 _ hy, set_block 0 _ hy]
 have hb : Bel w wz := by
  rw [hwz]
  have h0 := h.bel
  subst hr
  exact (((((Below.setCell h0 (Nat.le_refl _) _).setCell (Nat.le_refl _) _).setCell (Nat.le_refl _) _).setCell (Nat.le_refl _) _).setCell (Nat.le_refl _) _).setCell (Nat.le_refl _) _
 refine ⟨hsame, by rw [hwz]; exact (((((h.res.put0 _).put1 _).put2 _).put3 _).put4 _).put5 _, ?_⟩
 have hown := h.own.keep (w' := wz) (by omega) (fun x hx => hsame x (by have := h.bk1 x hx; omega))
 have hown2 : Dat.OwnVals wz M (TPattern.D (.mk op t m lo hi ks)) [.int .i64 op, .string t, .int .i64 m, .int .i64 lo, .int .i64 hi, k] := Dat.OwnVals.keep (by omega) _ _ _ (fun x hx => by
  have e := hsame x (by have := h.bk2 x hx; omega)
  exact ⟨fun o => World.cell?_of_block e, fun o => World.frozen?_of_block e⟩) h.owp
 exact ⟨ds, v, _, L, M, .mk op t m lo hi ks, s, a, rfl, hown, hown2, fun x hx => by have := h.bk1 x hx; omega, fun x hx => by have := h.bk2 x hx; omega, hl, hcs, hcn, hs, ha.1, ha.2, hb⟩
theorem at_num (n : Nat) : IntKind.i64.wrap ((n : Int) % 3 - IntKind.i64.wrap (((n : Int) % 17).tdiv 16)) = (n : Int) % 3 - (n : Int) % 17 / 16 := by
 have h1 : 0 ≤ (n : Int) % 3 ∧ (n : Int) % 3 ≤ 2 := by omega
 have h2 : 0 ≤ (n : Int) % 17 / 16 ∧ (n : Int) % 17 / 16 ≤ 1 := by omega
 rw [Int.tdiv_eq_ediv_of_nonneg (by omega)]
 generalize (n : Int) % 3 = p at *
 generalize (n : Int) % 17 / 16 = q at *
 have e : IntKind.i64.wrap q = q := by rw [IntKind.wrap_i64]; omega
 rw [e, IntKind.wrap_i64]
 omega
set_option maxHeartbeats 1000000 in
theorem drawEndingsOf_any (A : Option Addr) (n cap : Nat) (w : World) (hn : n ≤ 1048576) (hB : ∀ c, w.heap.size ≤ c → Bts w c A n) :
  Calls Try.prog 8 #[.slice A n cap] w (DrawE w) := by
 have HB := hide hB
 clear hB
 have hq1 : (n : Int).tmod 3 = ((n % 3 : Nat) : Int) := by rw [Int.tmod_eq_emod_of_nonneg (by omega)]; omega
 have hq2 : (n : Int).tmod 17 = ((n % 17 : Nat) : Int) := by rw [Int.tmod_eq_emod_of_nonneg (by omega)]; omega
 have hq3 : ((n % 17 : Nat) : Int).tdiv 16 = ((n % 17 / 16 : Nat) : Int) := by rw [Int.tdiv_eq_ediv_of_nonneg (by omega)]; omega
 have hr3 : n % 3 ≤ 2 := by omega
 have hr4 : n % 17 / 16 ≤ 1 := by omega
 have hq4 : IntKind.i64.wrap (((n % 3 : Nat) : Int) - ((n % 17 / 16 : Nat) : Int)) = ((n % 3 : Nat) : Int) - ((n % 17 / 16 : Nat) : Int) := by rw [IntKind.wrap_i64]; omega
 have hq5 : IntKind.i64.wrap ((n % 17 / 16 : Nat) : Int) = ((n % 17 / 16 : Nat) : Int) := by rw [IntKind.wrap_i64]; omega
 have HX := hide (at_num n)
 go_enter Try.func8, Try.ntmps8
 go_upto_region 2 with (go_at_call 27; refine (l18Match_any A n cap _ hn (fun c h => (HB.out c (by simp at h; omega)).on (Oth.of_bel bl))).mono ?_; rintro e w1 ⟨ds, v, vs, L, M, ⟨x0, x1, x2, x3, x4, x5⟩, s, rfl, hO, hown, hk1, hk2, hl, hcs, hcn, hs, hb1⟩; have HF := hide (show DrF w w1 w.heap.size v L ds M (TPattern.D (.mk x0 x1 x2 x3 x4 x5)) vs from ⟨(PB.new w 28 (v0 := .int .i64 0) (v1 := .string ByteArray.empty) (v2 := .int .i64 0) (v3 := .int .i64 0) (v4 := .int .i64 0) (v5 := .slice none 0 0)).on hb1, hO, hown, (fun x hx => by have := hk1 x hx; rw [World.size_alloc] at this; omega), (fun x hx => by have := hk2 x hx; rw [World.size_alloc] at this; omega), bl⟩); obtain ⟨A5, c5, L5, rfl, rfl, g0, g1, g2, g3, g4, g5⟩ := TPattern.vals_own hown; obtain ⟨Av, cv, Lv, rfl, -⟩ := hO.ownRow; rw [List.length_map] at HF; rw [List.length_map]; have HCS := hide hcs; have HCN := hide hcn; clear hO hown hk1 hk2 hcs hcn g5 hb1)
 refine wp_namedF fun w8 hw8 => ?_
 have hb18 : Bel w1 w8 := by rw [← hw8]; exact bl
 have T := hide (HF.out.on hb18)
 have hrb : w.heap.size ≠ w1.heap.size := by have := HF.out.res.1; omega
 have PBB : PB w8 w1.heap.size (.int .i64 x0) (.string x1) (.int .i64 x2) (.int .i64 x3) (.int .i64 x4) (.slice A5 x5.length c5) := by rw [← hw8]; exact PB.new _ _
 clear hw8 hb18 HF
 generalize w1.heap.size = b at PBB hrb ⊢
 clear w1
 obtain ⟨hl5, f5, k50, k51, k52, k53, k54, k55⟩ := PBB
 refine wp_region_held_drew (S := fun w' => w'.cell? ⟨b, 0, none⟩ = some (.int .i64 x0) ∧ w'.cell? ⟨b, 1, none⟩ = some (.string x1) ∧ w'.cell? ⟨b, 2, none⟩ = some (.int .i64 x2) ∧ w'.cell? ⟨b, 3, none⟩ = some (.int .i64 x3) ∧ w'.cell? ⟨b, 4, none⟩ = some (.int .i64 x4) ∧ w'.cell? ⟨b, 5, none⟩ = some (.slice A5 x5.length c5)) (by kernel_rfl) ?_ (fun hHeld => ?_)
 ·
  exact ⟨k50, k51, k52, k53, k54, k55⟩
 refine tkI 0 ?_
 refine tkI 1 ?_
 refine tkI 2 ?_
 refine tkI 3 ?_
 refine tkI 4 ?_
 refine tkI 5 ?_
 refine tkI 6 ?_
 refine tkI 7 ?_
 refine tkI 8 ?_
 refine tkI 9 ?_
 refine tkI 10 ?_
 refine tkI 11 ?_
 refine wpAnyH_ready (rs := [12]) (by kernel_rfl) (by simp) ?_
 refine AllReadyH.cons (o := _) rfl (fun K hK => ?_) AllReadyH.nil
 have T9 := hide (T.out.on (show Bel w8 w8.drew from bl))
 have HG := hide (DrF.fin T9.out rfl hl HCS.out HCN.out hs (a := ((n % 3 : Nat) : Int) - ((n % 17 / 16 : Nat) : Int)) (by omega))
 refine wp_store_mid 28 (.tmp 3) (.tmp 16) rfl w.heap.size 0 #[.int .i64 x0, .string x1, .int .i64 x2, .int .i64 x3, .int .i64 x4, .slice A5 x5.length c5] rfl rfl T9.out.res.there (by kernel_rfl) (by simp [Value.oneCell']) ?_
 refine k_named fun wz hwz => ?_
 obtain ⟨SZ, PZ, QZ⟩ := HG.out wz hwz
 clear HG hwz
 have SB := SZ b hrb
 obtain ⟨-, -, d0, d1, d2, d3, d4, d5⟩ := PZ
 refine hK.out _ _ ⟨(World.cell?_of_block SB).trans k50, (World.cell?_of_block SB).trans k51, (World.cell?_of_block SB).trans k52, (World.cell?_of_block SB).trans k53, (World.cell?_of_block SB).trans k54, (World.cell?_of_block SB).trans k55⟩ (fun hHeld => ?_)
 clear hK K
 (try simp only [Act.put, List.setIfInBounds_toArray, List.set_cons_zero, List.set_cons_succ, List.getElem_toArray, List.getElem_cons_zero, List.getElem_cons_succ])
 refine tkI 13 ?_
 refine tkI 14 ?_
 refine wpAnyH_done (by kernel_rfl) ?_ _
 clear hHeld SZ k50 k51 k52 k53 k54 k55 f5
 go_wp2_with (fail)
 exact bodyPost_ret (v := .tuple #[.slice Av ds.length cv, .agg #[.int .i64 x0, .string x1, .int .i64 x2, .int .i64 x3, .int .i64 x4, .slice A5 x5.length c5], .string s, .int .i64 (((n % 3 : Nat) : Int) - ((n % 17 / 16 : Nat) : Int))]) (by simp [results, Try.results8, d0, d1, d2, d3, d4, d5, go_sem]; first | done | exact HX.out) rfl QZ
end Go.Proofs.Ytdjbfneniohaaaa
