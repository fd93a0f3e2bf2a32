/- Draws of units: a unit, any. -/
import Derived.Test.YtdacpljinffnaaaDoorPDx5
import Derived.Deep.MidRow
namespace Go.Proofs.YtdacpljinffnaaaDoor
set_option linter.unusedVariables false
set_option linter.unusedSimpArgs false
set_option maxRecDepth 100000
open Go.RowKit
set_option maxHeartbeats 8000000 in
theorem l7Unit_any (c : Nat) (A : Option Addr) (n cap : Nat) (w : World) (hc : Cur w c A n cap) : Calls Tryd.prog 24 #[.pointer (some ⟨c, 0, none⟩)] w (UnitP w c A n cap) := by
 have HC := hide hc
 have hlt := hc.1
 have hne : w.heap.size ≠ c := by omega
 clear hc
 obtain ⟨ir, hir, zr0, zr1, zr2⟩ := info_parts infoRec
 obtain ⟨ie, hie, ze0, ze1, ze2⟩ := info_parts infoExpr
 obtain ⟨ip, hip, zp0, zp1, zp2⟩ := info_parts infoPrc
 go_enter Tryd.func24, Tryd.ntmps24
 go_upto_region 2 with (fail)
 refine wp_namedF fun w1 hw1 => ?_
 have hb1 : Bel w w1 := by rw [← hw1]; exact bl
 have T1 := hide (show UnS w w1 c A n cap (w.heap.size + 1) (.slice none 0 0) [] [] (.slice none 0 0) [] (.slice none 0 0) [] [] from ⟨by rw [← hw1]; first | (have h := TB.new (w.alloc (.cells #[(.slice none 0 0), (.slice none 0 0), (.slice none 0 0)] 28)) 28 (v0 := (.slice none 0 0)) (v1 := (.slice none 0 0)) (v2 := (.slice none 0 0)); rw [World.size_alloc] at h; first | exact h | exact ((h.put0 _).put1 _).put2 _) | trace_state, by rw [← hw1]; first | exact (TB.new w 28).on bl | trace_state, HC.out.bel hb1, Oth.of_bel hb1, OwnE.nil _ _ _, OwnE.nil _ _ _, OwnE.nil _ _ _, (fun k hk => (blk_nil hk).elim), (fun k hk => (blk_nil hk).elim), (fun k hk => (blk_nil hk).elim), (fun x hx => (by cases hx)), (fun x hx => (by cases hx)), (fun x hx => (by cases hx))⟩)
 have hwb : w.heap.size < w.heap.size + 1 := by omega
 have hbc : w.heap.size + 1 ≠ c := by omega
 clear hw1 hb1
 generalize w.heap.size + 1 = b at T1 hwb hbc ⊢
 go_wp2_with (go_at_call 12; refine (l1Below_any 3 c A n cap _ T1.out.cur (by unfold InI; omega)).mono ?_; rintro e w2 ⟨x, x1, x2, rfl, hC2, hO2⟩; have x3 : x ≤ 2 := x2; clear x2; obtain ⟨N, rfl⟩ := Int.eq_ofNat_of_zero_le x1; clear x1; have T2 := hide (T1.out.on hlt hbc hO2 hC2); clear hC2 hO2)
 go_loopw [5] (fun iv wr => ∃ (i : Nat) (Rs : List TRecordType) (vR : Value) (LR : List Nat), iv = .int .i64 i ∧ Rs.length = i ∧ i ≤ N ∧ Hid (UnS w wr c A n cap b vR LR Rs (.slice none 0 0) [] (.slice none 0 0) [] [])) (fun iv _ => N - (intOf iv).toNat)
 case atStart => exact ⟨0, [], _, [], rfl, rfl, Nat.zero_le _, T2⟩
 case round =>
  obtain ⟨i, Rs, vR, LR, rfl, hlen, hik, HT⟩ := hrel
  clear T1 T2
  by_cases h : i < N
  ·
   skip
   have hdc : decide ((i : Int) < (N : Int)) = true := by simp; omega
   have hdn : decide (i < N) = true := by simp [h]
   go_upto_region 6 with (fail)
   have hcN : c < wr.heap.size := by have := HT.out.oth.size; omega
   have hbN : b < wr.heap.size := HT.out.box.1
   have hwN : w.heap.size < wr.heap.size := HT.out.res.1
   have HRN := hide (show ∀ k, Blk vR LR k → k < wr.heap.size from fun k hk => HT.out.ownR.lt k hk)
   have HG0 := hide (UnS.bel HT.out hlt hbc (show Bel wr wr.drew from bl))
   have HLN := hide hlen
   refine wp_region_facts (m := 15) (p := 13) (fun j v wq => match j with | 0 => (v = .pointer (some ⟨b, 0, none⟩)) | 1 => (v = vR) | 2 => (v = .pointer (some ⟨c, 0, none⟩)) | 3 => (∃ g : Nat, v = .slice (some ⟨g, 0, none⟩) 2 2 ∧ wr.heap.size ≤ g ∧ wq.heap[g]? = some (.cells #[.string ⟨#[112, 111, 105, 110, 116]⟩, .string ⟨#[99, 101, 108, 108]⟩] 9)) | 4 => (∃ x : ByteArray, v = .string x ∧ x.size ≤ 20) | 5 => (∃ g : Nat, v = .slice (some ⟨g, 0, none⟩) 2 2 ∧ wr.heap.size ≤ g ∧ wq.heap[g]? = some (.cells #[.string ⟨#[97]⟩, .string ⟨#[98]⟩] 9)) | 6 => (v = .pointer (some ⟨c, 0, none⟩)) | 7 => (∃ y : Nat, v = .int .i64 (y : Int) ∧ y ≤ 2) | 8 => (∃ g y : Nat, v = .slice (some ⟨g, 0, none⟩) y 2 ∧ y ≤ 2 ∧ wr.heap.size ≤ g ∧ wq.heap[g]? = some (.cells #[.string ⟨#[97]⟩, .string ⟨#[98]⟩] 9)) | 9 => (v = .pointer (some ⟨c, 0, none⟩)) | 10 => (∃ y : Nat, v = .int .i64 (y : Int) ∧ y ≤ 2) | 11 => (∃ (x : ByteArray) (g y q : Nat), v = .agg #[.string x, .slice (some ⟨g, 0, none⟩) y 2, .int .i64 (q : Int)] ∧ x.size ≤ 20 ∧ y ≤ 2 ∧ q ≤ 2 ∧ wr.heap.size ≤ g ∧ wq.heap[g]? = some (.cells #[.string ⟨#[97]⟩, .string ⟨#[98]⟩] 9)) | 12 => (∃ (x : ByteArray) (g y q g2 : Nat), v = .slice (some ⟨g2, 0, none⟩) 1 1 ∧ x.size ≤ 20 ∧ y ≤ 2 ∧ q ≤ 2 ∧ wr.heap.size ≤ g ∧ wq.heap[g]? = some (.cells #[.string ⟨#[97]⟩, .string ⟨#[98]⟩] 9) ∧ wr.heap.size ≤ g2 ∧ wq.heap[g2]? = some (.cells #[.string x, .slice (some ⟨g, 0, none⟩) y 2, .int .i64 (q : Int)] 49)) | 13 => (∃ (r : TRecordType) (M : List Nat), OwnE wq 49 3 v (LR ++ M) ((Rs ++ [r]).map TRecordType.D) ∧ (∀ k, Blk v (LR ++ M) k → w.heap.size < k ∧ k ≠ b) ∧ Dat.wtL (TRecordType.D r) ≤ 100) | 14 => (v = .pointer (some ⟨b, 0, none⟩)) | _ => True) (fun wa wb => Oth c wa wb ∧ Cur wb c A n cap) (fun wa wb => KeptN wr.heap.size wa wb) (fun wq => UnS w wq c A n cap b vR LR Rs (.slice none 0 0) [] (.slice none 0 0) [] [] ∧ wr.heap.size ≤ wq.heap.size) (fun wq => UnT w wq c A n cap b vR (.slice none 0 0) (.slice none 0 0) ∧ wr.heap.size ≤ wq.heap.size) [(0, some 18), (1, some 19), (2, some 20), (3, some 21), (4, some 22), (5, some 23), (6, some 24), (7, some 25), (8, some 26), (9, some 27), (10, some 28), (11, some 29), (12, some 30), (13, some 31), (14, some 32), (15, none)] rfl (by kernel_rfl) (by kernel_rfl) (by decide) ?hG ?hR ?hR2 ?hG0 ?hG1 rfl rfl ?hstep ?hp ?hlast
   case hG => exact ⟨HG0.out, by simp⟩
   case hG0 => exact fun wa wb hk hg => ⟨hg.1.on hlt hbc hk.1 hk.2, Nat.le_trans hg.2 hk.1.size⟩
   case hG1 => exact fun wa wb hk hg => ⟨hg.1.on hlt hbc hk.1 hk.2, Nat.le_trans hg.2 hk.1.size⟩
   case hR =>
    intro j v wa wb hk hv
    match j, hv with
    | 0, hv => exact hv
    | 1, hv => exact hv
    | 2, hv => exact hv
    | 3, hv => exact (by obtain ⟨g, e, h1, h2⟩ := hv; exact ⟨g, e, h1, KeptN.obj (KeptN.of_oth hcN hk.1) h1 h2⟩)
    | 4, hv => exact hv
    | 5, hv => exact (by obtain ⟨g, e, h1, h2⟩ := hv; exact ⟨g, e, h1, KeptN.obj (KeptN.of_oth hcN hk.1) h1 h2⟩)
    | 6, hv => exact hv
    | 7, hv => exact hv
    | 8, hv => exact (by obtain ⟨g, y, e, h1, h2, h3⟩ := hv; exact ⟨g, y, e, h1, h2, KeptN.obj (KeptN.of_oth hcN hk.1) h2 h3⟩)
    | 9, hv => exact hv
    | 10, hv => exact hv
    | 11, hv => exact (by obtain ⟨x, g, y, q, e, h1, h2, h3, h4, h5⟩ := hv; exact ⟨x, g, y, q, e, h1, h2, h3, h4, KeptN.obj (KeptN.of_oth hcN hk.1) h4 h5⟩)
    | 12, hv => exact (by obtain ⟨x, g, y, q, g2, e, h1, h2, h3, h4, h5, h6, h7⟩ := hv; exact ⟨x, g, y, q, g2, e, h1, h2, h3, h4, KeptN.obj (KeptN.of_oth hcN hk.1) h4 h5, h6, KeptN.obj (KeptN.of_oth hcN hk.1) h6 h7⟩)
    | 13, hv => exact (by obtain ⟨r, M, h1, h2, h3⟩ := hv; exact ⟨r, M, h1.oth hk.1 (fun k hb => by have := (h2 k hb).1; omega), h2, h3⟩)
    | 14, hv => exact hv
    | n + 15, hv => exact trivial
   case hR2 =>
    intro j v wa wb hjp hk hv
    match j, hv with
    | 0, hv => exact hv
    | 1, hv => exact hv
    | 2, hv => exact hv
    | 3, hv => exact (by obtain ⟨g, e, h1, h2⟩ := hv; exact ⟨g, e, h1, KeptN.obj hk h1 h2⟩)
    | 4, hv => exact hv
    | 5, hv => exact (by obtain ⟨g, e, h1, h2⟩ := hv; exact ⟨g, e, h1, KeptN.obj hk h1 h2⟩)
    | 6, hv => exact hv
    | 7, hv => exact hv
    | 8, hv => exact (by obtain ⟨g, y, e, h1, h2, h3⟩ := hv; exact ⟨g, y, e, h1, h2, KeptN.obj hk h2 h3⟩)
    | 9, hv => exact hv
    | 10, hv => exact hv
    | 11, hv => exact (by obtain ⟨x, g, y, q, e, h1, h2, h3, h4, h5⟩ := hv; exact ⟨x, g, y, q, e, h1, h2, h3, h4, KeptN.obj hk h4 h5⟩)
    | 12, hv => exact (by obtain ⟨x, g, y, q, g2, e, h1, h2, h3, h4, h5, h6, h7⟩ := hv; exact ⟨x, g, y, q, g2, e, h1, h2, h3, h4, KeptN.obj hk h4 h5, h6, KeptN.obj hk h6 h7⟩)
    | 14, hv => exact hv
    | 13, hv => exact absurd rfl hjp
    | n + 15, hv => exact trivial
   case hstep =>
    simp only [putP, Act.put, List.setIfInBounds_toArray, List.set_cons_zero, List.set_cons_succ, List.getElem_toArray, List.getElem_cons_zero, List.getElem_cons_succ]
    refine (steps_cons (i := 0) (i2 := 1) (o := _) rfl ?s0 (steps_cons (i := 1) (i2 := 2) (o := _) rfl ?s1 (steps_cons (i := 2) (i2 := 3) (o := _) rfl ?s2 (steps_cons (i := 3) (i2 := 4) (o := _) rfl ?s3 (steps_cons (i := 4) (i2 := 5) (o := _) rfl ?s4 (steps_cons (i := 5) (i2 := 6) (o := _) rfl ?s5 (steps_cons (i := 6) (i2 := 7) (o := _) rfl ?s6 (steps_cons (i := 7) (i2 := 8) (o := _) rfl ?s7 (steps_cons (i := 8) (i2 := 9) (o := _) rfl ?s8 (steps_cons (i := 9) (i2 := 10) (o := _) rfl ?s9 (steps_cons (i := 10) (i2 := 11) (o := _) rfl ?s10 (steps_cons (i := 11) (i2 := 12) (o := _) rfl ?s11 (steps_cons (i := 12) (i2 := 13) (o := _) rfl ?s12 (steps_skip (p := 13) (p2 := 14) (steps_cons (i := 14) (i2 := 15) (o := _) rfl ?s14 (steps_nil (by decide)))))))))))))))))
    case s0 =>
     intro u wa hG hf K hK
     have hcur : Cur wa c A n cap := by rcases hG with q | ⟨q, -⟩ <;> exact q.1.cur
     have hz : wr.heap.size ≤ wa.heap.size := by rcases hG with q | ⟨q, -⟩ <;> exact q.2
     clear hf
     clear hG
     simp only [Act.put, List.setIfInBounds_toArray, List.set_cons_zero, List.set_cons_succ, List.getElem_toArray, List.getElem_cons_zero, List.getElem_cons_succ] at hK ⊢
     go_simp
     exact hK.out _ _ ⟨Oth.refl _ _, hcur⟩ rfl
    case s1 =>
     intro u wa hG hf K hK
     have hcur : Cur wa c A n cap := by rcases hG with q | ⟨q, -⟩ <;> exact q.1.cur
     have hz : wr.heap.size ≤ wa.heap.size := by rcases hG with q | ⟨q, -⟩ <;> exact q.2
     have g0 := (g0_of hG (by kernel_rfl)).1
     have e0 := fact_of hf 0 (by kernel_rfl)
     (try dsimp only at e0)
     clear hf
     clear hG
     simp only [Act.put, List.setIfInBounds_toArray, List.set_cons_zero, List.set_cons_succ, List.getElem_toArray, List.getElem_cons_zero, List.getElem_cons_succ] at hK ⊢
     generalize u 0 = x0 at e0 hK ⊢
     subst e0
     obtain ⟨l, f, c0, c1, c2⟩ := g0.box
     clear g0
     go_simp
     exact hK.out _ _ ⟨Oth.refl _ _, hcur⟩ rfl
    case s2 =>
     intro u wa hG hf K hK
     have hcur : Cur wa c A n cap := by rcases hG with q | ⟨q, -⟩ <;> exact q.1.cur
     have hz : wr.heap.size ≤ wa.heap.size := by rcases hG with q | ⟨q, -⟩ <;> exact q.2
     clear hf
     clear hG
     simp only [Act.put, List.setIfInBounds_toArray, List.set_cons_zero, List.set_cons_succ, List.getElem_toArray, List.getElem_cons_zero, List.getElem_cons_succ] at hK ⊢
     go_simp
     exact hK.out _ _ ⟨Oth.refl _ _, hcur⟩ rfl
    case s3 =>
     intro u wa hG hf K hK
     have hcur : Cur wa c A n cap := by rcases hG with q | ⟨q, -⟩ <;> exact q.1.cur
     have hz : wr.heap.size ≤ wa.heap.size := by rcases hG with q | ⟨q, -⟩ <;> exact q.2
     clear hf
     clear hG
     simp only [Act.put, List.setIfInBounds_toArray, List.set_cons_zero, List.set_cons_succ, List.getElem_toArray, List.getElem_cons_zero, List.getElem_cons_succ] at hK ⊢
     go_simp
     exact hK.out _ _ ⟨Oth.of_bel bl, hcur.bel bl⟩ ⟨wa.heap.size, rfl, hz, heap_alloc_new _ _⟩
    case s4 =>
     intro u wa hG hf K hK
     have hcur : Cur wa c A n cap := by rcases hG with q | ⟨q, -⟩ <;> exact q.1.cur
     have hz : wr.heap.size ≤ wa.heap.size := by rcases hG with q | ⟨q, -⟩ <;> exact q.2
     have e2 := fact_of hf 2 (by kernel_rfl)
     (try dsimp only at e2)
     have e3 := fact_of hf 3 (by kernel_rfl)
     (try dsimp only at e3)
     clear hf
     clear hG
     simp only [Act.put, List.setIfInBounds_toArray, List.set_cons_zero, List.set_cons_succ, List.getElem_toArray, List.getElem_cons_zero, List.getElem_cons_succ] at hK ⊢
     generalize u 2 = x2 at e2 hK ⊢
     subst e2
     obtain ⟨g, e3, hg1, hg2⟩ := e3
     generalize u 3 = x3 at e3 hK ⊢
     subst e3
     have hgc : g ≠ c := by omega
     go_simp
     go_at_call 37
     refine (l1Pick_any g 2 20 2 c A n cap _ hcur (rowT_obj [⟨#[112, 111, 105, 110, 116]⟩, ⟨#[99, 101, 108, 108]⟩] hg2 (by decide +kernel)) hgc (by omega) (by omega)).mono ?_
     rintro e w2 ⟨x, hx, rfl, hC2, hO2⟩
     exact hK.out _ _ ⟨hO2, hC2⟩ ⟨x, rfl, hx⟩
    case s5 =>
     intro u wa hG hf K hK
     have hcur : Cur wa c A n cap := by rcases hG with q | ⟨q, -⟩ <;> exact q.1.cur
     have hz : wr.heap.size ≤ wa.heap.size := by rcases hG with q | ⟨q, -⟩ <;> exact q.2
     clear hf
     clear hG
     simp only [Act.put, List.setIfInBounds_toArray, List.set_cons_zero, List.set_cons_succ, List.getElem_toArray, List.getElem_cons_zero, List.getElem_cons_succ] at hK ⊢
     go_simp
     exact hK.out _ _ ⟨Oth.of_bel bl, hcur.bel bl⟩ ⟨wa.heap.size, rfl, hz, heap_alloc_new _ _⟩
    case s6 =>
     intro u wa hG hf K hK
     have hcur : Cur wa c A n cap := by rcases hG with q | ⟨q, -⟩ <;> exact q.1.cur
     have hz : wr.heap.size ≤ wa.heap.size := by rcases hG with q | ⟨q, -⟩ <;> exact q.2
     clear hf
     clear hG
     simp only [Act.put, List.setIfInBounds_toArray, List.set_cons_zero, List.set_cons_succ, List.getElem_toArray, List.getElem_cons_zero, List.getElem_cons_succ] at hK ⊢
     go_simp
     exact hK.out _ _ ⟨Oth.refl _ _, hcur⟩ rfl
    case s7 =>
     intro u wa hG hf K hK
     have hcur : Cur wa c A n cap := by rcases hG with q | ⟨q, -⟩ <;> exact q.1.cur
     have hz : wr.heap.size ≤ wa.heap.size := by rcases hG with q | ⟨q, -⟩ <;> exact q.2
     have e6 := fact_of hf 6 (by kernel_rfl)
     (try dsimp only at e6)
     clear hf
     clear hG
     simp only [Act.put, List.setIfInBounds_toArray, List.set_cons_zero, List.set_cons_succ, List.getElem_toArray, List.getElem_cons_zero, List.getElem_cons_succ] at hK ⊢
     generalize u 6 = x6 at e6 hK ⊢
     subst e6
     go_simp
     go_at_call 12
     refine (l1Below_any 3 c A n cap _ hcur (by unfold InI; omega)).mono ?_
     rintro e w2 ⟨x, hx1, hx2, rfl, hC2, hO2⟩
     have hx3 : x ≤ 2 := hx2
     obtain ⟨y, rfl⟩ := Int.eq_ofNat_of_zero_le hx1
     exact hK.out _ _ ⟨hO2, hC2⟩ ⟨y, rfl, by omega⟩
    case s8 =>
     intro u wa hG hf K hK
     have hcur : Cur wa c A n cap := by rcases hG with q | ⟨q, -⟩ <;> exact q.1.cur
     have hz : wr.heap.size ≤ wa.heap.size := by rcases hG with q | ⟨q, -⟩ <;> exact q.2
     have e5 := fact_of hf 5 (by kernel_rfl)
     (try dsimp only at e5)
     have e7 := fact_of hf 7 (by kernel_rfl)
     (try dsimp only at e7)
     clear hf
     clear hG
     simp only [Act.put, List.setIfInBounds_toArray, List.set_cons_zero, List.set_cons_succ, List.getElem_toArray, List.getElem_cons_zero, List.getElem_cons_succ] at hK ⊢
     obtain ⟨g, e5, hg1, hg2⟩ := e5
     generalize u 5 = x5 at e5 hK ⊢
     subst e5
     obtain ⟨y, e7, hy⟩ := e7
     generalize u 7 = x7 at e7 hK ⊢
     subst e7
     have hsl := fun wx => slice_uptoS (b := g) (o := 0) (len := 2) (c := 2) (m := y) hy wx
     go_simp
     exact hK.out _ _ ⟨Oth.refl _ _, hcur⟩ ⟨g, y, rfl, hy, hg1, hg2⟩
    case s9 =>
     intro u wa hG hf K hK
     have hcur : Cur wa c A n cap := by rcases hG with q | ⟨q, -⟩ <;> exact q.1.cur
     have hz : wr.heap.size ≤ wa.heap.size := by rcases hG with q | ⟨q, -⟩ <;> exact q.2
     clear hf
     clear hG
     simp only [Act.put, List.setIfInBounds_toArray, List.set_cons_zero, List.set_cons_succ, List.getElem_toArray, List.getElem_cons_zero, List.getElem_cons_succ] at hK ⊢
     go_simp
     exact hK.out _ _ ⟨Oth.refl _ _, hcur⟩ rfl
    case s10 =>
     intro u wa hG hf K hK
     have hcur : Cur wa c A n cap := by rcases hG with q | ⟨q, -⟩ <;> exact q.1.cur
     have hz : wr.heap.size ≤ wa.heap.size := by rcases hG with q | ⟨q, -⟩ <;> exact q.2
     have e9 := fact_of hf 9 (by kernel_rfl)
     (try dsimp only at e9)
     clear hf
     clear hG
     simp only [Act.put, List.setIfInBounds_toArray, List.set_cons_zero, List.set_cons_succ, List.getElem_toArray, List.getElem_cons_zero, List.getElem_cons_succ] at hK ⊢
     generalize u 9 = x9 at e9 hK ⊢
     subst e9
     go_simp
     go_at_call 12
     refine (l1Below_any 3 c A n cap _ hcur (by unfold InI; omega)).mono ?_
     rintro e w2 ⟨x, hx1, hx2, rfl, hC2, hO2⟩
     have hx3 : x ≤ 2 := hx2
     obtain ⟨y, rfl⟩ := Int.eq_ofNat_of_zero_le hx1
     exact hK.out _ _ ⟨hO2, hC2⟩ ⟨y, rfl, by omega⟩
    case s11 =>
     intro u wa hG hf K hK
     have hcur : Cur wa c A n cap := by rcases hG with q | ⟨q, -⟩ <;> exact q.1.cur
     have hz : wr.heap.size ≤ wa.heap.size := by rcases hG with q | ⟨q, -⟩ <;> exact q.2
     have e4 := fact_of hf 4 (by kernel_rfl)
     (try dsimp only at e4)
     have e8 := fact_of hf 8 (by kernel_rfl)
     (try dsimp only at e8)
     have e10 := fact_of hf 10 (by kernel_rfl)
     (try dsimp only at e10)
     clear hf
     clear hG
     simp only [Act.put, List.setIfInBounds_toArray, List.set_cons_zero, List.set_cons_succ, List.getElem_toArray, List.getElem_cons_zero, List.getElem_cons_succ] at hK ⊢
     obtain ⟨x, e4, hx⟩ := e4
     generalize u 4 = x4 at e4 hK ⊢
     subst e4
     obtain ⟨g, y, e8, hy, hg1, hg2⟩ := e8
     generalize u 8 = x8 at e8 hK ⊢
     subst e8
     obtain ⟨q, e10, hq⟩ := e10
     generalize u 10 = x10 at e10 hK ⊢
     subst e10
     go_simp
     exact hK.out _ _ ⟨Oth.refl _ _, hcur⟩ ⟨x, g, y, q, rfl, hx, hy, hq, hg1, hg2⟩
    case s12 =>
     intro u wa hG hf K hK
     have hcur : Cur wa c A n cap := by rcases hG with q | ⟨q, -⟩ <;> exact q.1.cur
     have hz : wr.heap.size ≤ wa.heap.size := by rcases hG with q | ⟨q, -⟩ <;> exact q.2
     have e11 := fact_of hf 11 (by kernel_rfl)
     (try dsimp only at e11)
     clear hf
     clear hG
     simp only [Act.put, List.setIfInBounds_toArray, List.set_cons_zero, List.set_cons_succ, List.getElem_toArray, List.getElem_cons_zero, List.getElem_cons_succ] at hK ⊢
     obtain ⟨x, g, y, q, e11, hx, hy, hq, hg1, hg2⟩ := e11
     generalize u 11 = x11 at e11 hK ⊢
     subst e11
     go_simp
     exact hK.out _ _ ⟨Oth.of_bel bl, hcur.bel bl⟩ ⟨x, g, y, q, wa.heap.size, rfl, hx, hy, hq, hg1, KeptN.obj (KeptN.of_oth hcN (Oth.of_bel bl)) hg1 hg2, hz, heap_alloc_new _ _⟩
    case s14 =>
     intro u wa hG hf K hK
     have hcur : Cur wa c A n cap := by rcases hG with q | ⟨q, -⟩ <;> exact q.1.cur
     have hz : wr.heap.size ≤ wa.heap.size := by rcases hG with q | ⟨q, -⟩ <;> exact q.2
     clear hf
     clear hG
     simp only [Act.put, List.setIfInBounds_toArray, List.set_cons_zero, List.set_cons_succ, List.getElem_toArray, List.getElem_cons_zero, List.getElem_cons_succ] at hK ⊢
     go_simp
     exact hK.out _ _ ⟨Oth.refl _ _, hcur⟩ rfl
   case hp =>
    simp only [putP, Act.put, List.setIfInBounds_toArray, List.set_cons_zero, List.set_cons_succ, List.getElem_toArray, List.getElem_cons_zero, List.getElem_cons_succ]
    intro u wa hG hf K hK
    have e1 := fact_of hf 1 (by kernel_rfl)
    (try dsimp only at e1)
    have e12 := fact_of hf 12 (by kernel_rfl)
    (try dsimp only at e12)
    clear hf
    generalize u 1 = x1 at e1 hK ⊢
    subst e1
    obtain ⟨x, g, y, q, g2, e12, hx, hy, hq, hg1, hg2, hg3, hg4⟩ := e12
    generalize u 12 = x12 at e12 hK ⊢
    subst e12
    obtain ⟨M, hM1, hM2⟩ := own_two hg2 (by decide +kernel) (by decide +kernel) y hy
    have hown := TRecordType.own_mk (x0 := x) (x2 := (q : Int)) (by unfold maxLen; omega) hM1 (by unfold InI; omega)
    rw [take_two _ _ hy] at hown
    refine wp_append_E (.tmp 19) (.tmp 30) 24 rfl 49 ir (.agg #[.string ByteArray.empty, .slice none 0 0, .int .i64 0]) 3 48 Tryd.underlying24 hir zr0 zr1 zr2 (by decide) (by decide) hG.1.ownR (SrcE.one hg4 hown rfl) 1 rfl rfl (fun k hk hm => ?c1) (by rw [List.length_map, HLN.out]; omega) (by rw [List.length_map, HLN.out]; unfold maxLen; omega) (fun v9 w9 hO9 hg9 hw9 => ?_)
    case c1 => have h1 := HRN.out k (Or.inl hk); have h2 := hM2 k (by simpa using hm); omega
    (try simp only [Act.put, List.setIfInBounds_toArray, List.set_cons_zero, List.set_cons_succ, List.getElem_toArray, List.getElem_cons_zero, List.getElem_cons_succ])
    have hGb := hG.1.box.1
    have hGr := hG.1.res.1
    have hz := hG.2
    refine hK.out _ _ ⟨hg9.size, fun k hk hl => hg9.block k hl (fun e => by have := HRN.out k (Or.inl e.symm); omega)⟩ ⟨UnT.grown HC.out hG.1.toT hg9 (fun k hk => hG.1.blkR k (Or.inl hk)), Nat.le_trans hG.2 hg9.size⟩ ⟨.mk x ([⟨#[97]⟩, ⟨#[98]⟩].take y) q, _, by rw [List.map_append]; exact hO9, fun k hk => ?_, ?_⟩
    ·
     rcases hk with hk | hk
     ·
      rcases hw9 k hk with e | e
      ·
       exact hG.1.blkR k (Or.inl e)
      ·
       omega
     ·
      rcases List.mem_append.1 hk with hk | hk
      ·
       exact hG.1.blkR k (Or.inr hk)
      ·
       have := hM2 k (by simpa using hk); omega
    ·
     rw [TRecordType.D_mk]
     have h1 := wt_strs (B := 20) ([⟨#[97]⟩, ⟨#[98]⟩].take y) (fun s hs => by have := List.mem_of_mem_take hs; simp only [List.mem_cons, List.not_mem_nil, or_false] at this; rcases this with rfl | rfl <;> decide)
     have e0 : ∀ l : List ByteArray, Dat.wtR (l.map fun x => [Dat.str x]) = Dat.wtR (strsD l) := fun l => rfl
     rw [take_two _ _ hy] at h1
     simp only [Dat.wtL, Dat.wt, List.length_map, e0, take_two _ _ hy]
     omega
   case hlast =>
    simp only [putP, Act.put, List.setIfInBounds_toArray, List.set_cons_zero, List.set_cons_succ, List.getElem_toArray, List.getElem_cons_zero, List.getElem_cons_succ]
    intro u wa hG hf K hK
    have e13 := hf 13 (by decide)
    (try dsimp only at e13)
    obtain ⟨r, M, hO, hbl, hwr⟩ := e13
    have e14 := hf 14 (by decide)
    (try dsimp only at e14)
    clear hf
    generalize u 14 = x14 at e14 hK ⊢
    subst e14
    obtain ⟨A9, c9, e13⟩ := hO.val
    obtain ⟨n9, hn9⟩ : ∃ n9, (List.map TRecordType.D (Rs ++ [r])).length = n9 := ⟨_, rfl⟩
    rw [hn9] at e13
    clear hn9
    generalize u 13 = x13 at hO hbl e13 hK ⊢
    subst e13
    have TZ := hide (UnT.recs HC.out hG.1 hwb hO hbl (fun x hx => by rcases List.mem_append.1 hx with hx | hx; exact HT.out.wR x hx; rw [List.mem_singleton.1 hx]; exact hwr))
    obtain ⟨l, f, c0, c1, c2⟩ := hG.1.box
    go_simp
    refine hK.out undef _ ?_
    clear hK
    go_wp2_with (fail)
    all_goals go_roundw
    case rel => exact ⟨i + 1, _, _, _, by go_num, by rw [List.length_append, HLN.out]; rfl, by omega, hide TZ.out⟩
    case measure => simp [intOf]; omega
  ·
   skip
   have hdc : decide ((i : Int) < (N : Int)) = false := by simp; omega
   have hdn : decide (i < N) = false := by simp; omega
   have hR2 : Rs.length ≤ 2 := by omega
   go_upto_if 34 with (go_at_call 25; refine (l1Once_any 2 c A n cap _ HT.out.cur (by unfold InI; omega)).mono ?_; rintro e w3 ⟨q, rfl, hC3, hO3⟩; have T3 := hide (HT.out.on hlt hbc hO3 hC3); clear hC3 hO3)
   go_cut [] from 10 (fun wx => ∃ vG Gs, List.length Gs ≤ 2 ∧ UnS w wx c A n cap b vR LR Rs vG Gs (.slice none 0 0) [] [])
   case first =>
    cases q
    ·
     go_wp2_with (fail)
     all_goals go_meet
     all_goals exact ⟨_, [], by decide, T3.out⟩
    ·
     have hb4 : Bel w3 (w3.alloc (.cells #[.string ⟨#[103]⟩, .string ⟨#[104]⟩] 9)) := bl
     have hsl := fun (m : Nat) (hm : m ≤ 2) wx => slice_uptoS (b := w3.heap.size) (o := 0) (len := 2) (c := 2) (m := m) hm wx
     go_wp2_with (go_at_call 12; refine (l1Below_any 2 c A n cap _ (T3.out.cur.bel hb4) (by unfold InI; omega)).mono ?_; rintro e w5 ⟨x, x1, x2, rfl, hC5, hO5⟩; have x3 : x ≤ 1 := x2; clear x2; have T5 := hide (T3.out.on hlt hbc (Oth.trans (Oth.of_bel hb4) hO5) hC5); have hw3c : w3.heap.size ≠ c := (by have := T3.out.oth.size; omega); have HOB := hide (show w5.heap[w3.heap.size]? = some (.cells #[.string ⟨#[103]⟩, .string ⟨#[104]⟩] 9) from (hO5.block _ (by simp) hw3c).trans (heap_alloc_new _ _)); have HLB := hide (show w.heap.size < w3.heap.size ∧ b < w3.heap.size from ⟨T3.out.res.1, T3.out.box.1⟩); clear hC5 hO5; obtain ⟨m, hm⟩ : ∃ m : Nat, 1 + x = (m : Int) := Int.eq_ofNat_of_zero_le (by omega); have hm2 : m ≤ 2 := (by omega); have hwr : IntKind.i64.wrap (1 + x) = (m : Int) := (by rw [IntKind.wrap_i64]; omega); replace hsl := hsl m hm2; obtain ⟨l, f, c0, c1, c2⟩ := T5.out.box)
     all_goals go_meet
     all_goals exact ⟨_, _, by rw [take_two _ _ hm2]; exact hm2, UnS.globs HC.out T5.out hwb (own_cut HOB.out (by decide +kernel) (by decide +kernel) m hm2) (fun k hk => by rcases hk with hk | hk; have e := Option.some.inj (show some w3.heap.size = some k from hk); have := HLB.out; omega; cases hk) (fun s hs => by have := List.mem_of_mem_take hs; simp only [List.mem_cons, List.not_mem_nil, or_false] at this; rcases this with rfl | rfl <;> decide)⟩
   case rest =>
    obtain ⟨vG, Gs, hG2, T⟩ := hcut
    clear HT T3
    have T3 := hide T
    clear T
    go_wp2_with (go_at_call 12; refine (l1Below_any 3 c A n cap _ T3.out.cur (by unfold InI; omega)).mono ?_; rintro e w5 ⟨x, x1, x2, rfl, hC5, hO5⟩; have x9 : x ≤ 2 := x2; clear x2; obtain ⟨N2, rfl⟩ := Int.eq_ofNat_of_zero_le x1; clear x1; have T5 := hide (T3.out.on hlt hbc hO5 hC5); clear hC5 hO5)
    clear T3
    go_loopw [6] (fun iv wr => ∃ (i : Nat) (Ps : List TProcedure) (vP : Value) (LP : List Nat), iv = .int .i64 i ∧ Ps.length = i ∧ i ≤ N2 ∧ Hid (UnS w wr c A n cap b vR LR Rs vG Gs vP LP Ps)) (fun iv _ => N2 - (intOf iv).toNat)
    case atStart => exact ⟨0, [], _, [], rfl, rfl, Nat.zero_le _, T5⟩
    case round =>
     obtain ⟨i2, Ps, vP, LP, rfl, hlen2, hik2, HT⟩ := hrel
     clear T5
     by_cases h2 : i2 < N2
     ·
      skip
      have hdc2 : decide ((i2 : Int) < (N2 : Int)) = true := by simp; omega
      have hdn2 : decide (i2 < N2) = true := by simp [h2]
      go_upto_region 13 with (fail)
      have hcN : c < wr.heap.size := by have := HT.out.oth.size; omega
      have hbN : b < wr.heap.size := HT.out.box.1
      have hwN : w.heap.size < wr.heap.size := HT.out.res.1
      have HOLD := hide (show ∀ k, Blk vR LR k ∨ Blk vG [] k ∨ Blk vP LP k → k < wr.heap.size from fun k hk => by rcases hk with hk | hk | hk; exact HT.out.ownR.lt k hk; exact HT.out.ownG.lt k hk; exact HT.out.ownP.lt k hk)
      have HG0 := hide (UnS.bel HT.out hlt hbc (show Bel wr wr.drew from bl))
      have HLN2 := hide hlen2
      refine wp_region_facts (m := 14) (p := 0) (fun j v wq => match j with | 0 => (v = .pointer (some ⟨c, 0, none⟩)) | 1 => (∃ g : Nat, v = .slice (some ⟨g, 0, none⟩) 2 2 ∧ wr.heap.size ≤ g ∧ wq.heap[g]? = some (.cells #[.string ⟨#[109, 97, 105, 110]⟩, .string ⟨#[102]⟩] 9)) | 2 => (∃ x : ByteArray, v = .string x ∧ x.size ≤ 20) | 3 => (∃ g : Nat, v = .slice (some ⟨g, 0, none⟩) 2 2 ∧ wr.heap.size ≤ g ∧ wq.heap[g]? = some (.cells #[.string ⟨#[112]⟩, .string ⟨#[113]⟩] 9)) | 4 => (v = .pointer (some ⟨c, 0, none⟩)) | 5 => (∃ y : Nat, v = .int .i64 (y : Int) ∧ y ≤ 2) | 6 => (∃ g y : Nat, v = .slice (some ⟨g, 0, none⟩) y 2 ∧ y ≤ 2 ∧ wr.heap.size ≤ g ∧ wq.heap[g]? = some (.cells #[.string ⟨#[112]⟩, .string ⟨#[113]⟩] 9)) | 7 => (∃ g : Nat, v = .slice (some ⟨g, 0, none⟩) 2 2 ∧ wr.heap.size ≤ g ∧ wq.heap[g]? = some (.cells #[.string ⟨#[120]⟩, .string ⟨#[121]⟩] 9)) | 8 => (v = .pointer (some ⟨c, 0, none⟩)) | 9 => (∃ y : Nat, v = .int .i64 (y : Int) ∧ y ≤ 2) | 10 => (∃ g y : Nat, v = .slice (some ⟨g, 0, none⟩) y 2 ∧ y ≤ 2 ∧ wr.heap.size ≤ g ∧ wq.heap[g]? = some (.cells #[.string ⟨#[120]⟩, .string ⟨#[121]⟩] 9)) | 11 => (v = .agg #[.int .i64 14, .string ByteArray.empty, .int .i64 0, .int .i64 0, .slice none 0 0]) | 12 => (∃ (x : ByteArray) (g1 y1 g2 y2 : Nat), v = .agg #[.string x, .slice (some ⟨g1, 0, none⟩) y1 2, .slice (some ⟨g2, 0, none⟩) y2 2, .int .i64 14, .string ByteArray.empty, .int .i64 0, .int .i64 0, .slice none 0 0, .int .i64 0] ∧ x.size ≤ 20 ∧ y1 ≤ 2 ∧ y2 ≤ 2 ∧ wr.heap.size ≤ g1 ∧ wq.heap[g1]? = some (.cells #[.string ⟨#[112]⟩, .string ⟨#[113]⟩] 9) ∧ wr.heap.size ≤ g2 ∧ wq.heap[g2]? = some (.cells #[.string ⟨#[120]⟩, .string ⟨#[121]⟩] 9)) | 13 => (∃ r : Nat, v = .pointer (some ⟨r, 0, none⟩) ∧ wr.heap.size ≤ r ∧ wq.heap[r]? = some (.cells #[.string ByteArray.empty, .slice none 0 0, .slice none 0 0, .int .i64 0, .string ByteArray.empty, .int .i64 0, .int .i64 0, .slice none 0 0, .int .i64 0] 44)) | _ => True) (fun wa wb => Oth c wa wb ∧ Cur wb c A n cap) (fun wa wb => Oth c wa wb ∧ Cur wb c A n cap) (fun wq => UnS w wq c A n cap b vR LR Rs vG Gs vP LP Ps ∧ wr.heap.size ≤ wq.heap.size) (fun wq => UnS w wq c A n cap b vR LR Rs vG Gs vP LP Ps ∧ wr.heap.size ≤ wq.heap.size) [(0, some 48), (1, some 49), (2, some 50), (3, some 51), (4, some 52), (5, some 53), (6, some 54), (7, some 55), (8, some 56), (9, some 57), (10, some 58), (11, some 59), (12, some 60), (13, some 7), (14, none)] rfl (by kernel_rfl) (by kernel_rfl) (by decide) ?hG ?hR ?hR2 ?hG0 ?hG1 rfl rfl ?hstep ?hp ?hlast
      case hG => exact ⟨HG0.out, by simp⟩
      case hG0 => exact fun wa wb hk hg => ⟨hg.1.on hlt hbc hk.1 hk.2, Nat.le_trans hg.2 hk.1.size⟩
      case hG1 => exact fun wa wb hk hg => ⟨hg.1.on hlt hbc hk.1 hk.2, Nat.le_trans hg.2 hk.1.size⟩
      case hR =>
       intro j v wa wb hk hv
       match j, hv with
       | 0, hv => exact hv
       | 1, hv => exact (by obtain ⟨g, e, h1, h2⟩ := hv; exact ⟨g, e, h1, KeptN.obj (KeptN.of_oth hcN hk.1) h1 h2⟩)
       | 2, hv => exact hv
       | 3, hv => exact (by obtain ⟨g, e, h1, h2⟩ := hv; exact ⟨g, e, h1, KeptN.obj (KeptN.of_oth hcN hk.1) h1 h2⟩)
       | 4, hv => exact hv
       | 5, hv => exact hv
       | 6, hv => exact (by obtain ⟨g, y, e, h1, h2, h3⟩ := hv; exact ⟨g, y, e, h1, h2, KeptN.obj (KeptN.of_oth hcN hk.1) h2 h3⟩)
       | 7, hv => exact (by obtain ⟨g, e, h1, h2⟩ := hv; exact ⟨g, e, h1, KeptN.obj (KeptN.of_oth hcN hk.1) h1 h2⟩)
       | 8, hv => exact hv
       | 9, hv => exact hv
       | 10, hv => exact (by obtain ⟨g, y, e, h1, h2, h3⟩ := hv; exact ⟨g, y, e, h1, h2, KeptN.obj (KeptN.of_oth hcN hk.1) h2 h3⟩)
       | 11, hv => exact hv
       | 12, hv => exact (by obtain ⟨x, g1, y1, g2, y2, e, h1, h2, h3, h4, h5, h6, h7⟩ := hv; exact ⟨x, g1, y1, g2, y2, e, h1, h2, h3, h4, KeptN.obj (KeptN.of_oth hcN hk.1) h4 h5, h6, KeptN.obj (KeptN.of_oth hcN hk.1) h6 h7⟩)
       | 13, hv => exact (by obtain ⟨g, e, h1, h2⟩ := hv; exact ⟨g, e, h1, KeptN.obj (KeptN.of_oth hcN hk.1) h1 h2⟩)
       | n + 14, hv => exact trivial
      case hR2 =>
       intro j v wa wb hjp hk hv
       match j, hv with
       | 1, hv => exact (by obtain ⟨g, e, h1, h2⟩ := hv; exact ⟨g, e, h1, KeptN.obj (KeptN.of_oth hcN hk.1) h1 h2⟩)
       | 2, hv => exact hv
       | 3, hv => exact (by obtain ⟨g, e, h1, h2⟩ := hv; exact ⟨g, e, h1, KeptN.obj (KeptN.of_oth hcN hk.1) h1 h2⟩)
       | 4, hv => exact hv
       | 5, hv => exact hv
       | 6, hv => exact (by obtain ⟨g, y, e, h1, h2, h3⟩ := hv; exact ⟨g, y, e, h1, h2, KeptN.obj (KeptN.of_oth hcN hk.1) h2 h3⟩)
       | 7, hv => exact (by obtain ⟨g, e, h1, h2⟩ := hv; exact ⟨g, e, h1, KeptN.obj (KeptN.of_oth hcN hk.1) h1 h2⟩)
       | 8, hv => exact hv
       | 9, hv => exact hv
       | 10, hv => exact (by obtain ⟨g, y, e, h1, h2, h3⟩ := hv; exact ⟨g, y, e, h1, h2, KeptN.obj (KeptN.of_oth hcN hk.1) h2 h3⟩)
       | 11, hv => exact hv
       | 12, hv => exact (by obtain ⟨x, g1, y1, g2, y2, e, h1, h2, h3, h4, h5, h6, h7⟩ := hv; exact ⟨x, g1, y1, g2, y2, e, h1, h2, h3, h4, KeptN.obj (KeptN.of_oth hcN hk.1) h4 h5, h6, KeptN.obj (KeptN.of_oth hcN hk.1) h6 h7⟩)
       | 13, hv => exact (by obtain ⟨g, e, h1, h2⟩ := hv; exact ⟨g, e, h1, KeptN.obj (KeptN.of_oth hcN hk.1) h1 h2⟩)
       | 0, hv => exact absurd rfl hjp
       | n + 14, hv => exact trivial
      case hstep =>
       simp only [putP, Act.put, List.setIfInBounds_toArray, List.set_cons_zero, List.set_cons_succ, List.getElem_toArray, List.getElem_cons_zero, List.getElem_cons_succ]
       refine (steps_skip (p := 0) (p2 := 1) (steps_cons (i := 1) (i2 := 2) (o := _) rfl ?s1 (steps_cons (i := 2) (i2 := 3) (o := _) rfl ?s2 (steps_cons (i := 3) (i2 := 4) (o := _) rfl ?s3 (steps_cons (i := 4) (i2 := 5) (o := _) rfl ?s4 (steps_cons (i := 5) (i2 := 6) (o := _) rfl ?s5 (steps_cons (i := 6) (i2 := 7) (o := _) rfl ?s6 (steps_cons (i := 7) (i2 := 8) (o := _) rfl ?s7 (steps_cons (i := 8) (i2 := 9) (o := _) rfl ?s8 (steps_cons (i := 9) (i2 := 10) (o := _) rfl ?s9 (steps_cons (i := 10) (i2 := 11) (o := _) rfl ?s10 (steps_cons (i := 11) (i2 := 12) (o := _) rfl ?s11 (steps_cons (i := 12) (i2 := 13) (o := _) rfl ?s12 (steps_cons (i := 13) (i2 := 14) (o := _) rfl ?s13 (steps_nil (by decide))))))))))))))))
       case s4 =>
        intro u wa hG hf K hK
        have hcur : Cur wa c A n cap := by rcases hG with q | ⟨q, -⟩ <;> exact q.1.cur
        have hz : wr.heap.size ≤ wa.heap.size := by rcases hG with q | ⟨q, -⟩ <;> exact q.2
        clear hf
        clear hG
        simp only [Act.put, List.setIfInBounds_toArray, List.set_cons_zero, List.set_cons_succ, List.getElem_toArray, List.getElem_cons_zero, List.getElem_cons_succ] at hK ⊢
        go_simp
        exact hK.out _ _ ⟨Oth.refl _ _, hcur⟩ rfl
       case s8 =>
        intro u wa hG hf K hK
        have hcur : Cur wa c A n cap := by rcases hG with q | ⟨q, -⟩ <;> exact q.1.cur
        have hz : wr.heap.size ≤ wa.heap.size := by rcases hG with q | ⟨q, -⟩ <;> exact q.2
        clear hf
        clear hG
        simp only [Act.put, List.setIfInBounds_toArray, List.set_cons_zero, List.set_cons_succ, List.getElem_toArray, List.getElem_cons_zero, List.getElem_cons_succ] at hK ⊢
        go_simp
        exact hK.out _ _ ⟨Oth.refl _ _, hcur⟩ rfl
       case s1 =>
        intro u wa hG hf K hK
        have hcur : Cur wa c A n cap := by rcases hG with q | ⟨q, -⟩ <;> exact q.1.cur
        have hz : wr.heap.size ≤ wa.heap.size := by rcases hG with q | ⟨q, -⟩ <;> exact q.2
        clear hf
        clear hG
        simp only [Act.put, List.setIfInBounds_toArray, List.set_cons_zero, List.set_cons_succ, List.getElem_toArray, List.getElem_cons_zero, List.getElem_cons_succ] at hK ⊢
        go_simp
        exact hK.out _ _ ⟨Oth.of_bel bl, hcur.bel bl⟩ ⟨wa.heap.size, rfl, hz, heap_alloc_new _ _⟩
       case s3 =>
        intro u wa hG hf K hK
        have hcur : Cur wa c A n cap := by rcases hG with q | ⟨q, -⟩ <;> exact q.1.cur
        have hz : wr.heap.size ≤ wa.heap.size := by rcases hG with q | ⟨q, -⟩ <;> exact q.2
        clear hf
        clear hG
        simp only [Act.put, List.setIfInBounds_toArray, List.set_cons_zero, List.set_cons_succ, List.getElem_toArray, List.getElem_cons_zero, List.getElem_cons_succ] at hK ⊢
        go_simp
        exact hK.out _ _ ⟨Oth.of_bel bl, hcur.bel bl⟩ ⟨wa.heap.size, rfl, hz, heap_alloc_new _ _⟩
       case s7 =>
        intro u wa hG hf K hK
        have hcur : Cur wa c A n cap := by rcases hG with q | ⟨q, -⟩ <;> exact q.1.cur
        have hz : wr.heap.size ≤ wa.heap.size := by rcases hG with q | ⟨q, -⟩ <;> exact q.2
        clear hf
        clear hG
        simp only [Act.put, List.setIfInBounds_toArray, List.set_cons_zero, List.set_cons_succ, List.getElem_toArray, List.getElem_cons_zero, List.getElem_cons_succ] at hK ⊢
        go_simp
        exact hK.out _ _ ⟨Oth.of_bel bl, hcur.bel bl⟩ ⟨wa.heap.size, rfl, hz, heap_alloc_new _ _⟩
       case s2 =>
        intro u wa hG hf K hK
        have hcur : Cur wa c A n cap := by rcases hG with q | ⟨q, -⟩ <;> exact q.1.cur
        have hz : wr.heap.size ≤ wa.heap.size := by rcases hG with q | ⟨q, -⟩ <;> exact q.2
        have e0 := fact_of hf 0 (by kernel_rfl)
        (try dsimp only at e0)
        have e1 := fact_of hf 1 (by kernel_rfl)
        (try dsimp only at e1)
        clear hf
        clear hG
        simp only [Act.put, List.setIfInBounds_toArray, List.set_cons_zero, List.set_cons_succ, List.getElem_toArray, List.getElem_cons_zero, List.getElem_cons_succ] at hK ⊢
        generalize u 0 = x0 at e0 hK ⊢
        subst e0
        obtain ⟨g, e1, hg1, hg2⟩ := e1
        generalize u 1 = x1 at e1 hK ⊢
        subst e1
        have hgc : g ≠ c := by omega
        go_simp
        go_at_call 37
        refine (l1Pick_any g 2 20 2 c A n cap _ hcur (rowT_obj [⟨#[109, 97, 105, 110]⟩, ⟨#[102]⟩] hg2 (by decide +kernel)) hgc (by omega) (by omega)).mono ?_
        rintro e w2 ⟨x, hx, rfl, hC2, hO2⟩
        exact hK.out _ _ ⟨hO2, hC2⟩ ⟨x, rfl, hx⟩
       case s5 =>
        intro u wa hG hf K hK
        have hcur : Cur wa c A n cap := by rcases hG with q | ⟨q, -⟩ <;> exact q.1.cur
        have hz : wr.heap.size ≤ wa.heap.size := by rcases hG with q | ⟨q, -⟩ <;> exact q.2
        have e4 := fact_of hf 4 (by kernel_rfl)
        (try dsimp only at e4)
        clear hf
        clear hG
        simp only [Act.put, List.setIfInBounds_toArray, List.set_cons_zero, List.set_cons_succ, List.getElem_toArray, List.getElem_cons_zero, List.getElem_cons_succ] at hK ⊢
        generalize u 4 = x4 at e4 hK ⊢
        subst e4
        go_simp
        go_at_call 12
        refine (l1Below_any 3 c A n cap _ hcur (by unfold InI; omega)).mono ?_
        rintro e w2 ⟨x, hx1, hx2, rfl, hC2, hO2⟩
        have hx3 : x ≤ 2 := hx2
        obtain ⟨y, rfl⟩ := Int.eq_ofNat_of_zero_le hx1
        exact hK.out _ _ ⟨hO2, hC2⟩ ⟨y, rfl, by omega⟩
       case s9 =>
        intro u wa hG hf K hK
        have hcur : Cur wa c A n cap := by rcases hG with q | ⟨q, -⟩ <;> exact q.1.cur
        have hz : wr.heap.size ≤ wa.heap.size := by rcases hG with q | ⟨q, -⟩ <;> exact q.2
        have e8 := fact_of hf 8 (by kernel_rfl)
        (try dsimp only at e8)
        clear hf
        clear hG
        simp only [Act.put, List.setIfInBounds_toArray, List.set_cons_zero, List.set_cons_succ, List.getElem_toArray, List.getElem_cons_zero, List.getElem_cons_succ] at hK ⊢
        generalize u 8 = x8 at e8 hK ⊢
        subst e8
        go_simp
        go_at_call 12
        refine (l1Below_any 3 c A n cap _ hcur (by unfold InI; omega)).mono ?_
        rintro e w2 ⟨x, hx1, hx2, rfl, hC2, hO2⟩
        have hx3 : x ≤ 2 := hx2
        obtain ⟨y, rfl⟩ := Int.eq_ofNat_of_zero_le hx1
        exact hK.out _ _ ⟨hO2, hC2⟩ ⟨y, rfl, by omega⟩
       case s6 =>
        intro u wa hG hf K hK
        have hcur : Cur wa c A n cap := by rcases hG with q | ⟨q, -⟩ <;> exact q.1.cur
        have hz : wr.heap.size ≤ wa.heap.size := by rcases hG with q | ⟨q, -⟩ <;> exact q.2
        have e3 := fact_of hf 3 (by kernel_rfl)
        (try dsimp only at e3)
        have e5 := fact_of hf 5 (by kernel_rfl)
        (try dsimp only at e5)
        clear hf
        clear hG
        simp only [Act.put, List.setIfInBounds_toArray, List.set_cons_zero, List.set_cons_succ, List.getElem_toArray, List.getElem_cons_zero, List.getElem_cons_succ] at hK ⊢
        obtain ⟨g, e3, hg1, hg2⟩ := e3
        generalize u 3 = x3 at e3 hK ⊢
        subst e3
        obtain ⟨y, e5, hy⟩ := e5
        generalize u 5 = x5 at e5 hK ⊢
        subst e5
        have hsl := fun wx => slice_uptoS (b := g) (o := 0) (len := 2) (c := 2) (m := y) hy wx
        go_simp
        exact hK.out _ _ ⟨Oth.refl _ _, hcur⟩ ⟨g, y, rfl, hy, hg1, hg2⟩
       case s10 =>
        intro u wa hG hf K hK
        have hcur : Cur wa c A n cap := by rcases hG with q | ⟨q, -⟩ <;> exact q.1.cur
        have hz : wr.heap.size ≤ wa.heap.size := by rcases hG with q | ⟨q, -⟩ <;> exact q.2
        have e7 := fact_of hf 7 (by kernel_rfl)
        (try dsimp only at e7)
        have e9 := fact_of hf 9 (by kernel_rfl)
        (try dsimp only at e9)
        clear hf
        clear hG
        simp only [Act.put, List.setIfInBounds_toArray, List.set_cons_zero, List.set_cons_succ, List.getElem_toArray, List.getElem_cons_zero, List.getElem_cons_succ] at hK ⊢
        obtain ⟨g, e7, hg1, hg2⟩ := e7
        generalize u 7 = x7 at e7 hK ⊢
        subst e7
        obtain ⟨y, e9, hy⟩ := e9
        generalize u 9 = x9 at e9 hK ⊢
        subst e9
        have hsl := fun wx => slice_uptoS (b := g) (o := 0) (len := 2) (c := 2) (m := y) hy wx
        go_simp
        exact hK.out _ _ ⟨Oth.refl _ _, hcur⟩ ⟨g, y, rfl, hy, hg1, hg2⟩
       case s11 =>
        intro u wa hG hf K hK
        have hcur : Cur wa c A n cap := by rcases hG with q | ⟨q, -⟩ <;> exact q.1.cur
        have hz : wr.heap.size ≤ wa.heap.size := by rcases hG with q | ⟨q, -⟩ <;> exact q.2
        clear hf
        clear hG
        simp only [Act.put, List.setIfInBounds_toArray, List.set_cons_zero, List.set_cons_succ, List.getElem_toArray, List.getElem_cons_zero, List.getElem_cons_succ] at hK ⊢
        go_simp
        exact hK.out _ _ ⟨Oth.refl _ _, hcur⟩ rfl
       case s12 =>
        intro u wa hG hf K hK
        have hcur : Cur wa c A n cap := by rcases hG with q | ⟨q, -⟩ <;> exact q.1.cur
        have hz : wr.heap.size ≤ wa.heap.size := by rcases hG with q | ⟨q, -⟩ <;> exact q.2
        have e2 := fact_of hf 2 (by kernel_rfl)
        (try dsimp only at e2)
        have e6 := fact_of hf 6 (by kernel_rfl)
        (try dsimp only at e6)
        have e10 := fact_of hf 10 (by kernel_rfl)
        (try dsimp only at e10)
        have e11 := fact_of hf 11 (by kernel_rfl)
        (try dsimp only at e11)
        clear hf
        clear hG
        simp only [Act.put, List.setIfInBounds_toArray, List.set_cons_zero, List.set_cons_succ, List.getElem_toArray, List.getElem_cons_zero, List.getElem_cons_succ] at hK ⊢
        obtain ⟨x, e2, hx⟩ := e2
        generalize u 2 = x2 at e2 hK ⊢
        subst e2
        obtain ⟨g1, y1, e6, hy1, hg1, ho1⟩ := e6
        generalize u 6 = x6 at e6 hK ⊢
        subst e6
        obtain ⟨g2, y2, e10, hy2, hg2, ho2⟩ := e10
        generalize u 10 = x10 at e10 hK ⊢
        subst e10
        generalize u 11 = x11 at e11 hK ⊢
        subst e11
        go_simp
        exact hK.out _ _ ⟨Oth.refl _ _, hcur⟩ ⟨x, g1, y1, g2, y2, rfl, hx, hy1, hy2, hg1, ho1, hg2, ho2⟩
       case s13 =>
        intro u wa hG hf K hK
        have hcur : Cur wa c A n cap := by rcases hG with q | ⟨q, -⟩ <;> exact q.1.cur
        have hz : wr.heap.size ≤ wa.heap.size := by rcases hG with q | ⟨q, -⟩ <;> exact q.2
        clear hf
        clear hG
        simp only [Act.put, List.setIfInBounds_toArray, List.set_cons_zero, List.set_cons_succ, List.getElem_toArray, List.getElem_cons_zero, List.getElem_cons_succ] at hK ⊢
        go_simp
        exact hK.out _ _ ⟨Oth.of_bel bl, hcur.bel bl⟩ ⟨wa.heap.size, rfl, hz, heap_alloc_new _ _⟩
      case hp =>
       simp only [putP, Act.put, List.setIfInBounds_toArray, List.set_cons_zero, List.set_cons_succ, List.getElem_toArray, List.getElem_cons_zero, List.getElem_cons_succ]
       intro u wa hG hf K hK
       clear hf
       have hcur := hG.1.cur
       go_simp
       exact hK.out _ _ ⟨Oth.refl _ _, hcur⟩ hG rfl
      case hlast =>
       simp only [putP, Act.put, List.setIfInBounds_toArray, List.set_cons_zero, List.set_cons_succ, List.getElem_toArray, List.getElem_cons_zero, List.getElem_cons_succ]
       intro u wa hG hf K hK
       have e12 := hf 12 (by decide)
       (try dsimp only at e12)
       have e13 := hf 13 (by decide)
       (try dsimp only at e13)
       clear hf
       obtain ⟨x, g1, y1, g2, y2, e12, hx, hy1, hy2, hg1, ho1, hg2, ho2⟩ := e12
       generalize u 12 = x12 at e12 hK ⊢
       subst e12
       obtain ⟨r, e13, hr, hro⟩ := e13
       generalize u 13 = x13 at e13 hK ⊢
       subst e13
       have HS := hide (PrS.start HC.out hG.1 hbN hcN hwN HOLD.out hr hro hg1 ho1 hg2 ho2 hy1 hy2 hx)
       refine wp_store_mid 44 (.tmp 7) (.tmp 60) rfl r 0 #[.string x, .slice (some ⟨g1, 0, none⟩) y1 2, .slice (some ⟨g2, 0, none⟩) y2 2, .int .i64 14, .string ByteArray.empty, .int .i64 0, .int .i64 0, .slice none 0 0, .int .i64 0] rfl rfl (nb_obj hro).there (by kernel_rfl) (by simp [Value.oneCell']) ?_
       refine hK.out undef _ ?_
       clear hK
       refine q_named fun wz hwz => ?_
       have T := hide (HS.out wz hwz)
       clear HS hwz hG hro ho1 ho2 HG0 HT
       have hrn : r ≠ c := by omega
       generalize wr.heap.size = N0 at T hcN hbN hwN HOLD hr hg1 hg2
       go_wp2_with (go_at_call 12; refine (l1Below_any 4 c A n cap _ T.out.cur (by unfold InI; omega)).mono ?_; rintro e w5 ⟨q, q1, q2, rfl, hC5, hO5⟩; have q3 : q ≤ 3 := q2; clear q2; obtain ⟨N3, rfl⟩ := Int.eq_ofNat_of_zero_le q1; clear q1; have T5 := hide (T.out.on hlt hbc hO5 hC5); clear hC5 hO5)
       clear T
       go_loopw [9] (fun iv wr => ∃ (j : Nat) (ts : List TExpr) (vK : Value) (LK : List Nat), iv = .int .i64 j ∧ ts.length = j ∧ j ≤ N3 ∧ Hid (PrS w wr c A n cap b vR LR Rs vG Gs vP LP Ps N0 r x g1 y1 g2 y2 vK LK ts)) (fun iv _ => N3 - (intOf iv).toNat)
       case atStart => exact ⟨0, [], _, [], rfl, rfl, Nat.zero_le _, T5⟩
       case round =>
        obtain ⟨j, ts, vK, LK, rfl, hlen3, hik3, HT⟩ := hrel
        clear T5
        by_cases h3 : j < N3
        ·
         skip
         have hdc3 : decide ((j : Int) < (N3 : Int)) = true := by simp; omega
         have hdn3 : decide (j < N3) = true := by simp [h3]
         go_upto_region 18 with (fail)
         have hcN2 : c < wr.heap.size := by have := HT.out.prt.uns.oth.size; omega
         have HSM := hide (show r < wr.heap.size ∧ g1 < wr.heap.size ∧ g2 < wr.heap.size from ⟨HT.out.prt.box.1, (Array.getElem?_eq_some_iff.1 HT.out.prt.o1).1, (Array.getElem?_eq_some_iff.1 HT.out.prt.o2).1⟩)
         have HKN := hide (show ∀ k, Blk vK LK k → k < wr.heap.size from fun k hk => HT.out.kids.lt k hk)
         have HG0 := hide (PrS.bel HT.out hlt hbc (show Bel wr wr.drew from bl))
         have HLN3 := hide hlen3
         have hN0 : N0 ≤ wr.heap.size := by have := HSM.out.1; omega
         refine wp_region_facts (m := 9) (p := 6) (fun j v wq => match j with | 0 => (v = .pointer (some ⟨r, 3, none⟩)) | 1 => (v = .pointer (some ⟨r, 7, none⟩)) | 2 => (v = vK) | 3 => (v = .pointer (some ⟨c, 0, none⟩)) | 4 => (∃ (k : Int) (tx : ByteArray) (m l : Int) (ks : List TExpr) (A5 : Option Addr) (c5 : Nat) (L : List Nat), v = .agg #[.int .i64 k, .string tx, .int .i64 m, .int .i64 l, .slice A5 (List.length ks) c5] ∧ Dat.OwnVals wq L (TExpr.D (.mk k tx m l ks)) [.int .i64 k, .string tx, .int .i64 m, .int .i64 l, .slice A5 (List.length ks) c5] ∧ (∀ q, q ∈ L → wr.heap.size ≤ q) ∧ Dat.wtL (TExpr.D (.mk k tx m l ks)) ≤ wE 2) | 5 => (∃ (k : Int) (tx : ByteArray) (m l : Int) (ks : List TExpr) (A5 : Option Addr) (c5 : Nat) (L : List Nat) (g : Nat), v = .slice (some ⟨g, 0, none⟩) 1 1 ∧ wr.heap.size ≤ g ∧ wq.heap[g]? = some (.cells #[.int .i64 k, .string tx, .int .i64 m, .int .i64 l, .slice A5 (List.length ks) c5] 42) ∧ Dat.OwnVals wq L (TExpr.D (.mk k tx m l ks)) [.int .i64 k, .string tx, .int .i64 m, .int .i64 l, .slice A5 (List.length ks) c5] ∧ (∀ q, q ∈ L → wr.heap.size ≤ q) ∧ Dat.wtL (TExpr.D (.mk k tx m l ks)) ≤ wE 2) | 6 => (∃ (q : TExpr) (M : List Nat), OwnE wq 42 5 v (LK ++ M) ((ts ++ [q]).map TExpr.D) ∧ (∀ z, Blk v (LK ++ M) z → N0 ≤ z ∧ z ≠ r ∧ z ≠ g1 ∧ z ≠ g2) ∧ Dat.wtL (TExpr.D q) ≤ wE 2) | 7 => (v = .pointer (some ⟨r, 3, none⟩)) | 8 => (v = .pointer (some ⟨r, 7, none⟩)) | _ => True) (fun wa wb => Oth c wa wb ∧ Cur wb c A n cap) (fun wa wb => KeptN wr.heap.size wa wb) (fun wq => PrS w wq c A n cap b vR LR Rs vG Gs vP LP Ps N0 r x g1 y1 g2 y2 vK LK ts ∧ wr.heap.size ≤ wq.heap.size) (fun wq => PrT w wq c A n cap b vR LR Rs vG Gs vP LP Ps N0 r x g1 y1 g2 y2 vK ∧ wr.heap.size ≤ wq.heap.size) [(0, some 68), (1, some 69), (2, some 70), (3, some 71), (4, some 72), (5, some 73), (6, some 74), (7, some 75), (8, some 76), (9, none)] rfl (by kernel_rfl) (by kernel_rfl) (by decide) ?hG ?hR ?hR2 ?hG0 ?hG1 rfl rfl ?hstep ?hp ?hlast
         case hG => exact ⟨HG0.out, by simp⟩
         case hG0 => exact fun wa wb hk hg => ⟨hg.1.on hlt hbc hk.1 hk.2, Nat.le_trans hg.2 hk.1.size⟩
         case hG1 => exact fun wa wb hk hg => ⟨hg.1.on hlt hbc hk.1 hk.2, Nat.le_trans hg.2 hk.1.size⟩
         case hR =>
          intro j v wa wb hk hv
          match j, hv with
          | 0, hv => exact hv
          | 1, hv => exact hv
          | 2, hv => exact hv
          | 3, hv => exact hv
          | 4, hv => exact (by obtain ⟨k, tx, m, l, ks, A5, c5, L, e, h1, h2, h3⟩ := hv; exact ⟨k, tx, m, l, ks, A5, c5, L, e, Dat.OwnVals.keep ((KeptN.of_oth hcN2 hk.1)).1 _ _ _ (fun z hz => ⟨fun o => World.cell?_of_block (((KeptN.of_oth hcN2 hk.1)).2 z (h2 z hz) (Dat.OwnVals.lt _ _ _ h1 z hz)), fun o => World.frozen?_of_block (((KeptN.of_oth hcN2 hk.1)).2 z (h2 z hz) (Dat.OwnVals.lt _ _ _ h1 z hz))⟩) h1, h2, h3⟩)
          | 5, hv => exact (by obtain ⟨k, tx, m, l, ks, A5, c5, L, g, e, q1, q2, h1, h2, h3⟩ := hv; exact ⟨k, tx, m, l, ks, A5, c5, L, g, e, q1, KeptN.obj (KeptN.of_oth hcN2 hk.1) q1 q2, Dat.OwnVals.keep ((KeptN.of_oth hcN2 hk.1)).1 _ _ _ (fun z hz => ⟨fun o => World.cell?_of_block (((KeptN.of_oth hcN2 hk.1)).2 z (h2 z hz) (Dat.OwnVals.lt _ _ _ h1 z hz)), fun o => World.frozen?_of_block (((KeptN.of_oth hcN2 hk.1)).2 z (h2 z hz) (Dat.OwnVals.lt _ _ _ h1 z hz))⟩) h1, h2, h3⟩)
          | 6, hv => exact (by obtain ⟨q, M, h1, h2, h3⟩ := hv; exact ⟨q, M, h1.oth hk.1 (fun z hz => by have := (h2 z hz).1; omega), h2, h3⟩)
          | 7, hv => exact hv
          | 8, hv => exact hv
          | n + 9, hv => exact trivial
         case hR2 =>
          intro j v wa wb hjp hk hv
          match j, hv with
          | 0, hv => exact hv
          | 1, hv => exact hv
          | 2, hv => exact hv
          | 3, hv => exact hv
          | 4, hv => exact (by obtain ⟨k, tx, m, l, ks, A5, c5, L, e, h1, h2, h3⟩ := hv; exact ⟨k, tx, m, l, ks, A5, c5, L, e, Dat.OwnVals.keep (hk).1 _ _ _ (fun z hz => ⟨fun o => World.cell?_of_block ((hk).2 z (h2 z hz) (Dat.OwnVals.lt _ _ _ h1 z hz)), fun o => World.frozen?_of_block ((hk).2 z (h2 z hz) (Dat.OwnVals.lt _ _ _ h1 z hz))⟩) h1, h2, h3⟩)
          | 5, hv => exact (by obtain ⟨k, tx, m, l, ks, A5, c5, L, g, e, q1, q2, h1, h2, h3⟩ := hv; exact ⟨k, tx, m, l, ks, A5, c5, L, g, e, q1, KeptN.obj hk q1 q2, Dat.OwnVals.keep (hk).1 _ _ _ (fun z hz => ⟨fun o => World.cell?_of_block ((hk).2 z (h2 z hz) (Dat.OwnVals.lt _ _ _ h1 z hz)), fun o => World.frozen?_of_block ((hk).2 z (h2 z hz) (Dat.OwnVals.lt _ _ _ h1 z hz))⟩) h1, h2, h3⟩)
          | 7, hv => exact hv
          | 8, hv => exact hv
          | 6, hv => exact absurd rfl hjp
          | n + 9, hv => exact trivial
         case hstep =>
          simp only [putP, Act.put, List.setIfInBounds_toArray, List.set_cons_zero, List.set_cons_succ, List.getElem_toArray, List.getElem_cons_zero, List.getElem_cons_succ]
          refine (steps_cons (i := 0) (i2 := 1) (o := _) rfl ?s0 (steps_cons (i := 1) (i2 := 2) (o := _) rfl ?s1 (steps_cons (i := 2) (i2 := 3) (o := _) rfl ?s2 (steps_cons (i := 3) (i2 := 4) (o := _) rfl ?s3 (steps_cons (i := 4) (i2 := 5) (o := _) rfl ?s4 (steps_cons (i := 5) (i2 := 6) (o := _) rfl ?s5 (steps_skip (p := 6) (p2 := 7) (steps_cons (i := 7) (i2 := 8) (o := _) rfl ?s7 (steps_cons (i := 8) (i2 := 9) (o := _) rfl ?s8 (steps_nil (by decide)))))))))))
          case s0 =>
           intro u wa hG hf K hK
           have hcur : Cur wa c A n cap := by rcases hG with q | ⟨q, -⟩ <;> exact q.1.cur
           have hz : wr.heap.size ≤ wa.heap.size := by rcases hG with q | ⟨q, -⟩ <;> exact q.2
           clear hf
           clear hG
           simp only [Act.put, List.setIfInBounds_toArray, List.set_cons_zero, List.set_cons_succ, List.getElem_toArray, List.getElem_cons_zero, List.getElem_cons_succ] at hK ⊢
           go_simp
           exact hK.out _ _ ⟨Oth.refl _ _, hcur⟩ rfl
          case s1 =>
           intro u wa hG hf K hK
           have hcur : Cur wa c A n cap := by rcases hG with q | ⟨q, -⟩ <;> exact q.1.cur
           have hz : wr.heap.size ≤ wa.heap.size := by rcases hG with q | ⟨q, -⟩ <;> exact q.2
           have e0 := fact_of hf 0 (by kernel_rfl)
           (try dsimp only at e0)
           clear hf
           clear hG
           simp only [Act.put, List.setIfInBounds_toArray, List.set_cons_zero, List.set_cons_succ, List.getElem_toArray, List.getElem_cons_zero, List.getElem_cons_succ] at hK ⊢
           generalize u 0 = x0 at e0 hK ⊢
           subst e0
           go_simp
           exact hK.out _ _ ⟨Oth.refl _ _, hcur⟩ rfl
          case s2 =>
           intro u wa hG hf K hK
           have hcur : Cur wa c A n cap := by rcases hG with q | ⟨q, -⟩ <;> exact q.1.cur
           have hz : wr.heap.size ≤ wa.heap.size := by rcases hG with q | ⟨q, -⟩ <;> exact q.2
           have g0 := (g0_of hG (by kernel_rfl)).1
           have e1 := fact_of hf 1 (by kernel_rfl)
           (try dsimp only at e1)
           clear hf
           clear hG
           simp only [Act.put, List.setIfInBounds_toArray, List.set_cons_zero, List.set_cons_succ, List.getElem_toArray, List.getElem_cons_zero, List.getElem_cons_succ] at hK ⊢
           generalize u 1 = x1 at e1 hK ⊢
           subst e1
           obtain ⟨l, f, n0, n1, n2, n3, n4, n5, n6, n7, n8⟩ := g0.prt.box
           clear g0
           go_simp
           exact hK.out _ _ ⟨Oth.refl _ _, hcur⟩ rfl
          case s3 =>
           intro u wa hG hf K hK
           have hcur : Cur wa c A n cap := by rcases hG with q | ⟨q, -⟩ <;> exact q.1.cur
           have hz : wr.heap.size ≤ wa.heap.size := by rcases hG with q | ⟨q, -⟩ <;> exact q.2
           clear hf
           clear hG
           simp only [Act.put, List.setIfInBounds_toArray, List.set_cons_zero, List.set_cons_succ, List.getElem_toArray, List.getElem_cons_zero, List.getElem_cons_succ] at hK ⊢
           go_simp
           exact hK.out _ _ ⟨Oth.refl _ _, hcur⟩ rfl
          case s4 =>
           intro u wa hG hf K hK
           have hcur : Cur wa c A n cap := by rcases hG with q | ⟨q, -⟩ <;> exact q.1.cur
           have hz : wr.heap.size ≤ wa.heap.size := by rcases hG with q | ⟨q, -⟩ <;> exact q.2
           have e3 := fact_of hf 3 (by kernel_rfl)
           (try dsimp only at e3)
           clear hf
           clear hG
           simp only [Act.put, List.setIfInBounds_toArray, List.set_cons_zero, List.set_cons_succ, List.getElem_toArray, List.getElem_cons_zero, List.getElem_cons_succ] at hK ⊢
           generalize u 3 = x3 at e3 hK ⊢
           subst e3
           go_simp
           go_at_call 26
           refine (l6Tree_any c A n cap 2 _ 3 hcur (by omega) (by omega) (by omega)).mono ?_
           rintro e w2 ⟨⟨k, tx, m, l, ks⟩, us, L, rfl, hown, -, hL, hwt, hC2, hO2⟩
           obtain ⟨A5, c5, L5, rfl, rfl, -⟩ := TExpr.vals_own hown
           exact hK.out _ _ ⟨hO2, hC2⟩ ⟨k, tx, m, l, ks, A5, c5, L, rfl, hown, (fun q hq => by have := (hL q hq).1; omega), hwt⟩
          case s5 =>
           intro u wa hG hf K hK
           have hcur : Cur wa c A n cap := by rcases hG with q | ⟨q, -⟩ <;> exact q.1.cur
           have hz : wr.heap.size ≤ wa.heap.size := by rcases hG with q | ⟨q, -⟩ <;> exact q.2
           have e4 := fact_of hf 4 (by kernel_rfl)
           (try dsimp only at e4)
           clear hf
           clear hG
           simp only [Act.put, List.setIfInBounds_toArray, List.set_cons_zero, List.set_cons_succ, List.getElem_toArray, List.getElem_cons_zero, List.getElem_cons_succ] at hK ⊢
           obtain ⟨k, tx, m, l, ks, A5, c5, L, e4, ho, hL, hwt⟩ := e4
           generalize u 4 = x4 at e4 hK ⊢
           subst e4
           go_simp
           exact hK.out _ _ ⟨Oth.of_bel bl, hcur.bel bl⟩ ⟨k, tx, m, l, ks, A5, c5, L, wa.heap.size, rfl, hz, heap_alloc_new _ _, Dat.OwnVals.bel bl ho, hL, hwt⟩
          case s7 =>
           intro u wa hG hf K hK
           have hcur : Cur wa c A n cap := by rcases hG with q | ⟨q, -⟩ <;> exact q.1.cur
           have hz : wr.heap.size ≤ wa.heap.size := by rcases hG with q | ⟨q, -⟩ <;> exact q.2
           clear hf
           clear hG
           simp only [Act.put, List.setIfInBounds_toArray, List.set_cons_zero, List.set_cons_succ, List.getElem_toArray, List.getElem_cons_zero, List.getElem_cons_succ] at hK ⊢
           go_simp
           exact hK.out _ _ ⟨Oth.refl _ _, hcur⟩ rfl
          case s8 =>
           intro u wa hG hf K hK
           have hcur : Cur wa c A n cap := by rcases hG with q | ⟨q, -⟩ <;> exact q.1.cur
           have hz : wr.heap.size ≤ wa.heap.size := by rcases hG with q | ⟨q, -⟩ <;> exact q.2
           have e7 := fact_of hf 7 (by kernel_rfl)
           (try dsimp only at e7)
           clear hf
           clear hG
           simp only [Act.put, List.setIfInBounds_toArray, List.set_cons_zero, List.set_cons_succ, List.getElem_toArray, List.getElem_cons_zero, List.getElem_cons_succ] at hK ⊢
           generalize u 7 = x7 at e7 hK ⊢
           subst e7
           go_simp
           exact hK.out _ _ ⟨Oth.refl _ _, hcur⟩ rfl
         case hp =>
          simp only [putP, Act.put, List.setIfInBounds_toArray, List.set_cons_zero, List.set_cons_succ, List.getElem_toArray, List.getElem_cons_zero, List.getElem_cons_succ]
          intro u wa hG hf K hK
          have e2 := fact_of hf 2 (by kernel_rfl)
          (try dsimp only at e2)
          have e5 := fact_of hf 5 (by kernel_rfl)
          (try dsimp only at e5)
          clear hf
          generalize u 2 = x2 at e2 hK ⊢
          subst e2
          obtain ⟨k, tx, m, l, ks, A5, c5, L, g, e5, hg1, hg2, ho, hL, hwt⟩ := e5
          generalize u 5 = x5 at e5 hK ⊢
          subst e5
          refine wp_append_E (.tmp 70) (.tmp 73) 40 rfl 42 ie (.agg #[.int .i64 0, .string ByteArray.empty, .int .i64 0, .int .i64 0, .slice none 0 0]) 5 64 Tryd.underlying40 hie ze0 ze1 ze2 (by decide) (by decide) hG.1.kids (SrcE.one hg2 ho rfl) 1 rfl rfl (fun k hk hm => ?c1) (by rw [List.length_map, HLN3.out]; omega) (by rw [List.length_map, HLN3.out]; unfold maxLen; omega) (fun v9 w9 hO9 hg9 hw9 => ?_)
          case c1 => have h1 := HKN.out k (Or.inl hk); have h2 := hL k hm; omega
          (try simp only [Act.put, List.setIfInBounds_toArray, List.set_cons_zero, List.set_cons_succ, List.getElem_toArray, List.getElem_cons_zero, List.getElem_cons_succ])
          have hz := hG.2
          have hsm := HSM.out
          refine hK.out _ _ ⟨hg9.size, fun k hk hl => hg9.block k hl (fun e => by have := HKN.out k (Or.inl e.symm); omega)⟩ ⟨PrT.grown HC.out hG.1.prt hg9 (fun k hk => hG.1.bk k (Or.inl hk)), Nat.le_trans hG.2 hg9.size⟩ ⟨.mk k tx m l ks, L, by rw [List.map_append]; exact hO9, fun z hz => ?_, hwt⟩
          rcases hz with hz | hz
          ·
           rcases hw9 z hz with e | e
           ·
            exact hG.1.bk z (Or.inl e)
           ·
            omega
          ·
           rcases List.mem_append.1 hz with hz | hz
           ·
            exact hG.1.bk z (Or.inr hz)
           ·
            have := hL z hz; omega
         case hlast =>
          simp only [putP, Act.put, List.setIfInBounds_toArray, List.set_cons_zero, List.set_cons_succ, List.getElem_toArray, List.getElem_cons_zero, List.getElem_cons_succ]
          intro u wa hG hf K hK
          have e6 := hf 6 (by decide)
          (try dsimp only at e6)
          obtain ⟨q, M, hO, hbl, hwq⟩ := e6
          have e8 := hf 8 (by decide)
          (try dsimp only at e8)
          clear hf
          generalize u 8 = x8 at e8 hK ⊢
          subst e8
          obtain ⟨A9, c9, e6⟩ := hO.val
          obtain ⟨n9, hn9⟩ : ∃ n9, (List.map TExpr.D (ts ++ [q])).length = n9 := ⟨_, rfl⟩
          rw [hn9] at e6
          clear hn9
          generalize u 6 = x6 at hO hbl e6 hK ⊢
          subst e6
          have TZ := hide (PrT.kid HC.out hG.1 hO hbl (fun t ht => by rcases List.mem_append.1 ht with ht | ht; exact HT.out.wK t ht; rw [List.mem_singleton.1 ht]; exact hwq))
          obtain ⟨l, f, n0, n1, n2, n3, n4, n5, n6, n7, n8⟩ := hG.1.box
          go_simp
          refine hK.out undef _ ?_
          clear hK
          go_wp2_with (fail)
          all_goals go_roundw
          case rel => exact ⟨j + 1, _, _, _, by go_num, by rw [List.length_append, HLN3.out]; rfl, by omega, hide TZ.out⟩
          case measure => simp [intOf]; omega
        ·
         skip
         have hdc3 : decide ((j : Int) < (N3 : Int)) = false := by simp; omega
         have hdn3 : decide (j < N3) = false := by simp; omega
         obtain ⟨A5, c5, hvk⟩ := HT.out.kids.val
         obtain ⟨nk, hnk⟩ : ∃ nk, (List.map TExpr.D ts).length = nk := ⟨_, rfl⟩
         rw [hnk] at hvk
         clear hnk
         subst hvk
         have HV := hide (HT.out.val (by omega))
         obtain ⟨hl1, f1, k0, k1, k2, k3, k4, k5, k6, k7, k8⟩ := HT.out.prt.box
         obtain ⟨hl2, f2, c0, c1, c2⟩ := HT.out.prt.uns.box
         have hx9 := HT.out.prt.bnd
         have hN0 : N0 ≤ wr.heap.size := by have := HT.out.prt.bnd; have := HT.out.prt.box.1; omega
         obtain ⟨M, hv, hM, hwt⟩ := HV.out
         have HWT := hide hwt
         have HMB := hide hM
         have HO8 := hide (show OwnE (wr.alloc (.cells #[.string x, .slice (some ⟨g1, 0, none⟩) y1 2, .slice (some ⟨g2, 0, none⟩) y2 2, .int .i64 14, .string ByteArray.empty, .int .i64 0, .int .i64 0, .slice A5 nk c5, .int .i64 0] 44)) 44 9 vP LP (Ps.map TProcedure.D) from (HT.out.prt.uns.bel hlt hbc bl).ownP)
         have HSR := hide (SrcE.one (k := 9) (t := 44) (w := (wr.alloc (.cells #[.string x, .slice (some ⟨g1, 0, none⟩) y1 2, .slice (some ⟨g2, 0, none⟩) y2 2, .int .i64 14, .string ByteArray.empty, .int .i64 0, .int .i64 0, .slice A5 nk c5, .int .i64 0] 44))) (g := wr.heap.size) (heap_alloc_new wr _) (Dat.OwnVals.bel bl hv) rfl)
         have HU9 := hide (show UnS w (wr.alloc (.cells #[.string x, .slice (some ⟨g1, 0, none⟩) y1 2, .slice (some ⟨g2, 0, none⟩) y2 2, .int .i64 14, .string ByteArray.empty, .int .i64 0, .int .i64 0, .slice A5 nk c5, .int .i64 0] 44)) c A n cap b vR LR Rs vG Gs vP LP Ps from HT.out.prt.uns.bel hlt hbc bl)
         clear hv hM hwt
         have HLN2 := hide hlen2
         go_wp2_with (at_builtin; refine wpList_append_E rfl (.tmp 78) (.tmp 80) 26 rfl 44 ip (.agg #[.string ByteArray.empty, .slice none 0 0, .slice none 0 0, .int .i64 0, .string ByteArray.empty, .int .i64 0, .int .i64 0, .slice none 0 0, .int .i64 0]) 9 136 Tryd.underlying26 hip zp0 zp1 zp2 (by decide) (by decide) HO8.out HSR.out 1 rfl rfl ?c1 ?c2 ?c3 ?_)
         case c1 => intro k hk hm; have h1 := HOLD.out k (Or.inr (Or.inr (Or.inl hk))); have h2 := HMB.out k hm; omega
         case c2 => rw [List.length_map, HLN2.out]; omega
         case c3 => rw [List.length_map, HLN2.out]; unfold maxLen; omega
         intro v9 w9 hO9 hg9 hw9
         obtain ⟨A9, c9, hv9⟩ := hO9.val
         obtain ⟨n9, hn9⟩ : ∃ n9, (List.map TProcedure.D Ps ++ [TProcedure.D (TProcedure.mk x (([⟨#[112]⟩, ⟨#[113]⟩] : List ByteArray).take y1) (([⟨#[120]⟩, ⟨#[121]⟩] : List ByteArray).take y2) 14 ByteArray.empty 0 0 ts 0)]).length = n9 := ⟨_, rfl⟩
         rw [hn9] at hv9
         clear hn9
         subst hv9
         have hO9b : OwnE w9 44 9 (.slice A9 n9 c9) (LP ++ M) ((Ps ++ [TProcedure.mk x (([⟨#[112]⟩, ⟨#[113]⟩] : List ByteArray).take y1) (([⟨#[120]⟩, ⟨#[121]⟩] : List ByteArray).take y2) 14 ByteArray.empty 0 0 ts 0]).map TProcedure.D) := by rw [List.map_append]; exact hO9
         have HUT := hide (UnT.grown HC.out HU9.out.toT hg9 (fun k hk => by have := HU9.out.blkP k (Or.inl hk); exact ⟨this.1, this.2.1⟩))
         have TZ := hide (UnS.procs HC.out HU9.out hwb hg9 hO9b (fun k hk => ?d1) (fun p hp => ?d2))
         case d2 => rcases List.mem_append.1 hp with hp | hp; exact HT.out.prt.uns.wP p hp; rw [List.mem_singleton.1 hp]; exact ⟨Nat.le_trans HWT.out (Nat.le_add_left _ _), hx9.2.2.2.2.2.2.2.2.2.2⟩
         case d1 =>
          have old : N0 ≤ k → w.heap.size < k ∧ k ≠ b ∧ ¬ Blk vR LR k ∧ ¬ Blk vG [] k := fun hk => ⟨by omega, by omega, fun hq => by have := HOLD.out k (Or.inl hq); omega, fun hq => by have := HOLD.out k (Or.inr (Or.inl hq)); omega⟩
          rcases hk with hk | hk
          ·
           rcases hw9 k hk with e | e
           ·
            exact HT.out.prt.uns.blkP k (Or.inl e)
           ·
            exact old (by (try rw [World.size_alloc] at e); omega)
          ·
           rcases List.mem_append.1 hk with hk | hk
           ·
            exact HT.out.prt.uns.blkP k (Or.inr hk)
           ·
            exact old (HMB.out k hk)
         obtain ⟨hl3, f3, d3, d4, d5⟩ := HUT.out.box
         clear hO9 hO9b hg9 hw9 k0 k1 k2 k3 k4 k5 k6 k7 k8 c0 c1 c2 f1 f2 hl1 hl2
         go_wp2_with (fail)
         all_goals go_roundw
         case rel => exact ⟨i2 + 1, _, _, _, by go_num, by rw [List.length_append, HLN2.out]; rfl, by omega, hide TZ.out⟩
         case measure => simp [intOf]; omega
     ·
      skip
      have hdc2 : decide ((i2 : Int) < (N2 : Int)) = false := by simp; omega
      have hdn2 : decide (i2 < N2) = false := by simp; omega
      have hP2 : Ps.length ≤ 2 := by omega
      go_upto_region 20 with (fail)
      go_cut [90] from 10 (fun v wx => UnS w wx c A n cap b vR LR Rs vG Gs vP LP Ps ∧ ∃ q : Bool, v = .bool q ∧ (q = true → 0 < Ps.length))
      case first =>
       obtain ⟨AP, cP, hvp⟩ := HT.out.ownP.val
       rw [List.length_map] at hvp
       subst hvp
       by_cases hp0 : 0 < Ps.length
       ·
        have hd1 : decide ((0 : Int) < (Ps.length : Int)) = true := decide_eq_true (by omega)
        have hd2 : decide (0 < Ps.length) = true := decide_eq_true (by omega)
        go_wp2_with (go_at_call 25; refine (l1Once_any 10 c A n cap _ HT.out.cur (by unfold InI; omega)).mono ?_; rintro e w7 ⟨q, rfl, hC3, hO3⟩; have T7 := hide (HT.out.on hlt hbc hO3 hC3); clear hC3 hO3; obtain ⟨hl9, f9, k90, k91, k92⟩ := T7.out.box)
        all_goals go_meet
        all_goals exact ⟨T7.out, _, rfl, fun h => by first | exact hp0 | cases h⟩
       ·
        have hd1 : decide ((0 : Int) < (Ps.length : Int)) = false := decide_eq_false (by omega)
        have hd2 : decide (0 < Ps.length) = false := decide_eq_false (by omega)
        go_wp2_with (go_at_call 25; refine (l1Once_any 10 c A n cap _ HT.out.cur (by unfold InI; omega)).mono ?_; rintro e w7 ⟨q, rfl, hC3, hO3⟩; have T7 := hide (HT.out.on hlt hbc hO3 hC3); clear hC3 hO3; obtain ⟨hl9, f9, k90, k91, k92⟩ := T7.out.box)
        all_goals go_meet
        all_goals exact ⟨T7.out, _, rfl, fun h => by first | cases h | exact of_decide_eq_true h | simpa using h | (simp at h; omega)⟩
      case rest =>
       obtain ⟨T, q, rfl, hq⟩ := hcut
       clear HT
       have T7 := hide T
       clear T
       go_upto_if 90 with (fail)
       go_cut [] from 10 (fun wx => ∃ P9, List.length P9 ≤ 2 ∧ UnS w wx c A n cap b vR LR Rs vG Gs vP LP P9)
       case first =>
        cases q
        ·
         go_wp2_with (fail)
         all_goals go_meet
         all_goals exact ⟨_, hP2, T7.out⟩
        ·
         obtain ⟨p, ps, rfl⟩ : ∃ p ps, Ps = p :: ps := by cases Ps with | nil => exact absurd (hq rfl) (by simp) | cons p ps => exact ⟨p, ps, rfl⟩
         obtain ⟨gp, nP, cP, rfl, hnP⟩ := OwnE.head T7.out.ownP
         obtain ⟨x0, xs1, xs2, xk, x4, x5, x6, x7, x8⟩ := p
         have HW := hide (T7.out.wP _ (List.mem_cons_self ..))
         clear hq
         go_upto_region 21 with (fail)
         rename World => wr
         have hcN : c < wr.heap.size := by have := T7.out.oth.size; omega
         have HG0 := hide (UnS.bel T7.out hlt hbc (show Bel wr wr.drew from bl))
         refine wp_region_facts (m := 8) (p := 0) (fun j v wq => match j with | 0 => (v = .pointer (some ⟨b, 2, none⟩)) | 1 => (v = .slice (some ⟨gp, 0, none⟩) nP cP) | 2 => (v = .pointer (some ⟨c, 0, none⟩)) | 3 => (∃ g : Nat, v = .slice (some ⟨g, 0, none⟩) 2 2 ∧ wr.heap.size ≤ g ∧ wq.heap[g]? = some (.cells #[.int .i64 4, .int .i64 14] 3)) | 4 => (∃ z : Int, v = .int .i64 z ∧ InI z) | 5 => (v = .pointer (some ⟨gp, 0, none⟩)) | 6 => (v = .pointer (some ⟨gp, 3, none⟩)) | 7 => (v = .pointer (some ⟨gp, 3, none⟩)) | _ => True) (fun wa wb => Oth c wa wb ∧ Cur wb c A n cap) (fun wa wb => Oth c wa wb ∧ Cur wb c A n cap) (fun wq => UnS w wq c A n cap b vR LR Rs vG Gs (.slice (some ⟨gp, 0, none⟩) nP cP) LP (TProcedure.mk x0 xs1 xs2 xk x4 x5 x6 x7 x8 :: ps) ∧ wr.heap.size ≤ wq.heap.size) (fun wq => UnS w wq c A n cap b vR LR Rs vG Gs (.slice (some ⟨gp, 0, none⟩) nP cP) LP (TProcedure.mk x0 xs1 xs2 xk x4 x5 x6 x7 x8 :: ps) ∧ wr.heap.size ≤ wq.heap.size) [(0, some 91), (1, some 92), (2, some 93), (3, some 94), (4, some 95), (5, some 96), (6, some 97), (7, some 98), (8, none)] rfl (by kernel_rfl) (by kernel_rfl) (by decide) ?hG ?hR ?hR2 ?hG0 ?hG1 rfl rfl ?hstep ?hp ?hlast
         case hG => exact ⟨HG0.out, by simp⟩
         case hG0 => exact fun wa wb hk hg => ⟨hg.1.on hlt hbc hk.1 hk.2, Nat.le_trans hg.2 hk.1.size⟩
         case hG1 => exact fun wa wb hk hg => ⟨hg.1.on hlt hbc hk.1 hk.2, Nat.le_trans hg.2 hk.1.size⟩
         case hR =>
          intro j v wa wb hk hv
          match j, hv with
          | 0, hv => exact hv
          | 1, hv => exact hv
          | 2, hv => exact hv
          | 3, hv => exact (by obtain ⟨g, e, h1, h2⟩ := hv; exact ⟨g, e, h1, KeptN.obj (KeptN.of_oth hcN hk.1) h1 h2⟩)
          | 4, hv => exact hv
          | 5, hv => exact hv
          | 6, hv => exact hv
          | 7, hv => exact hv
          | n + 8, hv => exact trivial
         case hR2 =>
          intro j v wa wb hjp hk hv
          match j, hv with
          | 1, hv => exact hv
          | 2, hv => exact hv
          | 3, hv => exact (by obtain ⟨g, e, h1, h2⟩ := hv; exact ⟨g, e, h1, KeptN.obj (KeptN.of_oth hcN hk.1) h1 h2⟩)
          | 4, hv => exact hv
          | 5, hv => exact hv
          | 6, hv => exact hv
          | 7, hv => exact hv
          | 0, hv => exact absurd rfl hjp
          | n + 8, hv => exact trivial
         case hstep =>
          simp only [putP, Act.put, List.setIfInBounds_toArray, List.set_cons_zero, List.set_cons_succ, List.getElem_toArray, List.getElem_cons_zero, List.getElem_cons_succ]
          refine (steps_skip (p := 0) (p2 := 1) (steps_cons (i := 1) (i2 := 2) (o := _) rfl ?s1 (steps_cons (i := 2) (i2 := 3) (o := _) rfl ?s2 (steps_cons (i := 3) (i2 := 4) (o := _) rfl ?s3 (steps_cons (i := 4) (i2 := 5) (o := _) rfl ?s4 (steps_cons (i := 5) (i2 := 6) (o := _) rfl ?s5 (steps_cons (i := 6) (i2 := 7) (o := _) rfl ?s6 (steps_cons (i := 7) (i2 := 8) (o := _) rfl ?s7 (steps_nil (by decide))))))))))
          case s1 =>
           intro u wa hG hf K hK
           have hcur : Cur wa c A n cap := by rcases hG with q | ⟨q, -⟩ <;> exact q.1.cur
           have hz : wr.heap.size ≤ wa.heap.size := by rcases hG with q | ⟨q, -⟩ <;> exact q.2
           have g0 := hG.elim (fun q => q) (fun q => q.1)
           replace g0 := g0.1
           have e0 := fact_of hf 0 (by kernel_rfl)
           (try dsimp only at e0)
           clear hf
           clear hG
           simp only [Act.put, List.setIfInBounds_toArray, List.set_cons_zero, List.set_cons_succ, List.getElem_toArray, List.getElem_cons_zero, List.getElem_cons_succ] at hK ⊢
           generalize u 0 = x0 at e0 hK ⊢
           subst e0
           obtain ⟨l, f, c0, c1, c2⟩ := g0.box
           clear g0
           go_simp
           exact hK.out _ _ ⟨Oth.refl _ _, hcur⟩ rfl
          case s2 =>
           intro u wa hG hf K hK
           have hcur : Cur wa c A n cap := by rcases hG with q | ⟨q, -⟩ <;> exact q.1.cur
           have hz : wr.heap.size ≤ wa.heap.size := by rcases hG with q | ⟨q, -⟩ <;> exact q.2
           clear hf
           clear hG
           simp only [Act.put, List.setIfInBounds_toArray, List.set_cons_zero, List.set_cons_succ, List.getElem_toArray, List.getElem_cons_zero, List.getElem_cons_succ] at hK ⊢
           go_simp
           exact hK.out _ _ ⟨Oth.refl _ _, hcur⟩ rfl
          case s3 =>
           intro u wa hG hf K hK
           have hcur : Cur wa c A n cap := by rcases hG with q | ⟨q, -⟩ <;> exact q.1.cur
           have hz : wr.heap.size ≤ wa.heap.size := by rcases hG with q | ⟨q, -⟩ <;> exact q.2
           clear hf
           clear hG
           simp only [Act.put, List.setIfInBounds_toArray, List.set_cons_zero, List.set_cons_succ, List.getElem_toArray, List.getElem_cons_zero, List.getElem_cons_succ] at hK ⊢
           go_simp
           exact hK.out _ _ ⟨Oth.of_bel bl, hcur.bel bl⟩ ⟨wa.heap.size, rfl, hz, heap_alloc_new _ _⟩
          case s4 =>
           intro u wa hG hf K hK
           have hcur : Cur wa c A n cap := by rcases hG with q | ⟨q, -⟩ <;> exact q.1.cur
           have hz : wr.heap.size ≤ wa.heap.size := by rcases hG with q | ⟨q, -⟩ <;> exact q.2
           have e2 := fact_of hf 2 (by kernel_rfl)
           (try dsimp only at e2)
           have e3 := fact_of hf 3 (by kernel_rfl)
           (try dsimp only at e3)
           clear hf
           clear hG
           simp only [Act.put, List.setIfInBounds_toArray, List.set_cons_zero, List.set_cons_succ, List.getElem_toArray, List.getElem_cons_zero, List.getElem_cons_succ] at hK ⊢
           generalize u 2 = x2 at e2 hK ⊢
           subst e2
           obtain ⟨g, e3, hg1, hg2⟩ := e3
           generalize u 3 = x3 at e3 hK ⊢
           subst e3
           have hgc : g ≠ c := by omega
           go_simp
           go_at_call 38
           refine (l1PickInt_P InI g 2 2 c A n cap _ hcur (rowP_obj [4, 14] hg2 (by unfold InI; decide)) hgc (by omega) (by omega)).mono ?_
           rintro e w2 ⟨x, hx, rfl, hC2, hO2⟩
           exact hK.out _ _ ⟨hO2, hC2⟩ ⟨x, rfl, hx⟩
          case s5 =>
           intro u wa hG hf K hK
           have hcur : Cur wa c A n cap := by rcases hG with q | ⟨q, -⟩ <;> exact q.1.cur
           have hz : wr.heap.size ≤ wa.heap.size := by rcases hG with q | ⟨q, -⟩ <;> exact q.2
           have e1 := fact_of hf 1 (by kernel_rfl)
           (try dsimp only at e1)
           clear hf
           clear hG
           simp only [Act.put, List.setIfInBounds_toArray, List.set_cons_zero, List.set_cons_succ, List.getElem_toArray, List.getElem_cons_zero, List.getElem_cons_succ] at hK ⊢
           generalize u 1 = x1 at e1 hK ⊢
           subst e1
           have hni : (0 : Int) < (nP : Int) := by omega
           go_simp
           exact hK.out _ _ ⟨Oth.refl _ _, hcur⟩ rfl
          case s6 =>
           intro u wa hG hf K hK
           have hcur : Cur wa c A n cap := by rcases hG with q | ⟨q, -⟩ <;> exact q.1.cur
           have hz : wr.heap.size ≤ wa.heap.size := by rcases hG with q | ⟨q, -⟩ <;> exact q.2
           have e5 := fact_of hf 5 (by kernel_rfl)
           (try dsimp only at e5)
           clear hf
           clear hG
           simp only [Act.put, List.setIfInBounds_toArray, List.set_cons_zero, List.set_cons_succ, List.getElem_toArray, List.getElem_cons_zero, List.getElem_cons_succ] at hK ⊢
           generalize u 5 = x5 at e5 hK ⊢
           subst e5
           go_simp
           exact hK.out _ _ ⟨Oth.refl _ _, hcur⟩ rfl
          case s7 =>
           intro u wa hG hf K hK
           have hcur : Cur wa c A n cap := by rcases hG with q | ⟨q, -⟩ <;> exact q.1.cur
           have hz : wr.heap.size ≤ wa.heap.size := by rcases hG with q | ⟨q, -⟩ <;> exact q.2
           have e6 := fact_of hf 6 (by kernel_rfl)
           (try dsimp only at e6)
           clear hf
           clear hG
           simp only [Act.put, List.setIfInBounds_toArray, List.set_cons_zero, List.set_cons_succ, List.getElem_toArray, List.getElem_cons_zero, List.getElem_cons_succ] at hK ⊢
           generalize u 6 = x6 at e6 hK ⊢
           subst e6
           go_simp
           exact hK.out _ _ ⟨Oth.refl _ _, hcur⟩ rfl
         case hp =>
          simp only [putP, Act.put, List.setIfInBounds_toArray, List.set_cons_zero, List.set_cons_succ, List.getElem_toArray, List.getElem_cons_zero, List.getElem_cons_succ]
          intro u wa hG hf K hK
          clear hf
          have hcur := hG.1.cur
          go_simp
          exact hK.out _ _ ⟨Oth.refl _ _, hcur⟩ hG rfl
         case hlast =>
          simp only [putP, Act.put, List.setIfInBounds_toArray, List.set_cons_zero, List.set_cons_succ, List.getElem_toArray, List.getElem_cons_zero, List.getElem_cons_succ]
          intro u wa hG hf K hK
          have e4 := hf 4 (by decide)
          (try dsimp only at e4)
          have e7 := hf 7 (by decide)
          (try dsimp only at e7)
          clear hf
          obtain ⟨z, e4, hz⟩ := e4
          generalize u 4 = x4 at e4 hK ⊢
          subst e4
          generalize u 7 = x7 at e7 hK ⊢
          subst e7
          have TZ := hide (UnS.first (p' := TProcedure.mk x0 xs1 xs2 z x4 x5 x6 x7 x8) HC.out hG.1 3 (.int .i64 z) (OwnE.kind hG.1.ownP hz) (by have h := HW.out; simp only [TProcedure.D_mk, Dat.wtL, Dat.wt, TProcedure.nm] at h ⊢; exact h))
          obtain ⟨ov, hcv, hcf⟩ := OwnE.cell0 hG.1.ownP 3 (by omega)
          go_simp
          refine hK.out undef _ ?_
          clear hK
          generalize (wa.setCell ⟨gp, 3, none⟩ (.int .i64 z)) = w8 at TZ ⊢
          have T8 := TZ
          clear TZ hG HG0 T7 hcN
          replace HW := hide (T8.out.wP _ (List.mem_cons_self ..))
          go_upto_region 22 with (fail)
          rename World => wr
          have hcN : c < wr.heap.size := by have := T8.out.oth.size; omega
          have HG0 := hide (UnS.bel T8.out hlt hbc (show Bel wr wr.drew from bl))
          refine wp_region_facts (m := 7) (p := 0) (fun j v wq => match j with | 0 => (v = .pointer (some ⟨b, 2, none⟩)) | 1 => (v = .slice (some ⟨gp, 0, none⟩) nP cP) | 2 => (v = .pointer (some ⟨c, 0, none⟩)) | 3 => (∃ g : Nat, v = .slice (some ⟨g, 0, none⟩) 2 2 ∧ wr.heap.size ≤ g ∧ wq.heap[g]? = some (.cells #[.string ⟨#[]⟩, .string ⟨#[101, 110, 100]⟩] 9)) | 4 => (∃ x : ByteArray, v = .string x ∧ x.size ≤ 20) | 5 => (v = .pointer (some ⟨gp, 0, none⟩)) | 6 => (v = .pointer (some ⟨gp, 0, none⟩)) | _ => True) (fun wa wb => Oth c wa wb ∧ Cur wb c A n cap) (fun wa wb => Oth c wa wb ∧ Cur wb c A n cap) (fun wq => UnS w wq c A n cap b vR LR Rs vG Gs (.slice (some ⟨gp, 0, none⟩) nP cP) LP (TProcedure.mk x0 xs1 xs2 z x4 x5 x6 x7 x8 :: ps) ∧ wr.heap.size ≤ wq.heap.size) (fun wq => UnS w wq c A n cap b vR LR Rs vG Gs (.slice (some ⟨gp, 0, none⟩) nP cP) LP (TProcedure.mk x0 xs1 xs2 z x4 x5 x6 x7 x8 :: ps) ∧ wr.heap.size ≤ wq.heap.size) [(0, some 99), (1, some 100), (2, some 101), (3, some 102), (4, some 103), (5, some 104), (6, some 105), (7, none)] rfl (by kernel_rfl) (by kernel_rfl) (by decide) ?hG ?hR ?hR2 ?hG0 ?hG1 rfl rfl ?hstep ?hp ?hlast
          case hG => exact ⟨HG0.out, by simp⟩
          case hG0 => exact fun wa wb hk hg => ⟨hg.1.on hlt hbc hk.1 hk.2, Nat.le_trans hg.2 hk.1.size⟩
          case hG1 => exact fun wa wb hk hg => ⟨hg.1.on hlt hbc hk.1 hk.2, Nat.le_trans hg.2 hk.1.size⟩
          case hR =>
           intro j v wa wb hk hv
           match j, hv with
           | 0, hv => exact hv
           | 1, hv => exact hv
           | 2, hv => exact hv
           | 3, hv => exact (by obtain ⟨g, e, h1, h2⟩ := hv; exact ⟨g, e, h1, KeptN.obj (KeptN.of_oth hcN hk.1) h1 h2⟩)
           | 4, hv => exact hv
           | 5, hv => exact hv
           | 6, hv => exact hv
           | n + 7, hv => exact trivial
          case hR2 =>
           intro j v wa wb hjp hk hv
           match j, hv with
           | 1, hv => exact hv
           | 2, hv => exact hv
           | 3, hv => exact (by obtain ⟨g, e, h1, h2⟩ := hv; exact ⟨g, e, h1, KeptN.obj (KeptN.of_oth hcN hk.1) h1 h2⟩)
           | 4, hv => exact hv
           | 5, hv => exact hv
           | 6, hv => exact hv
           | 0, hv => exact absurd rfl hjp
           | n + 7, hv => exact trivial
          case hstep =>
           simp only [putP, Act.put, List.setIfInBounds_toArray, List.set_cons_zero, List.set_cons_succ, List.getElem_toArray, List.getElem_cons_zero, List.getElem_cons_succ]
           refine (steps_skip (p := 0) (p2 := 1) (steps_cons (i := 1) (i2 := 2) (o := _) rfl ?s1 (steps_cons (i := 2) (i2 := 3) (o := _) rfl ?s2 (steps_cons (i := 3) (i2 := 4) (o := _) rfl ?s3 (steps_cons (i := 4) (i2 := 5) (o := _) rfl ?s4 (steps_cons (i := 5) (i2 := 6) (o := _) rfl ?s5 (steps_cons (i := 6) (i2 := 7) (o := _) rfl ?s6 (steps_nil (by decide)))))))))
           case s1 =>
            intro u wa hG hf K hK
            have hcur : Cur wa c A n cap := by rcases hG with q | ⟨q, -⟩ <;> exact q.1.cur
            have hz : wr.heap.size ≤ wa.heap.size := by rcases hG with q | ⟨q, -⟩ <;> exact q.2
            have g0 := hG.elim (fun q => q) (fun q => q.1)
            replace g0 := g0.1
            have e0 := fact_of hf 0 (by kernel_rfl)
            (try dsimp only at e0)
            clear hf
            clear hG
            simp only [Act.put, List.setIfInBounds_toArray, List.set_cons_zero, List.set_cons_succ, List.getElem_toArray, List.getElem_cons_zero, List.getElem_cons_succ] at hK ⊢
            generalize u 0 = x0 at e0 hK ⊢
            subst e0
            obtain ⟨l, f, c0, c1, c2⟩ := g0.box
            clear g0
            go_simp
            exact hK.out _ _ ⟨Oth.refl _ _, hcur⟩ rfl
           case s2 =>
            intro u wa hG hf K hK
            have hcur : Cur wa c A n cap := by rcases hG with q | ⟨q, -⟩ <;> exact q.1.cur
            have hz : wr.heap.size ≤ wa.heap.size := by rcases hG with q | ⟨q, -⟩ <;> exact q.2
            clear hf
            clear hG
            simp only [Act.put, List.setIfInBounds_toArray, List.set_cons_zero, List.set_cons_succ, List.getElem_toArray, List.getElem_cons_zero, List.getElem_cons_succ] at hK ⊢
            go_simp
            exact hK.out _ _ ⟨Oth.refl _ _, hcur⟩ rfl
           case s3 =>
            intro u wa hG hf K hK
            have hcur : Cur wa c A n cap := by rcases hG with q | ⟨q, -⟩ <;> exact q.1.cur
            have hz : wr.heap.size ≤ wa.heap.size := by rcases hG with q | ⟨q, -⟩ <;> exact q.2
            clear hf
            clear hG
            simp only [Act.put, List.setIfInBounds_toArray, List.set_cons_zero, List.set_cons_succ, List.getElem_toArray, List.getElem_cons_zero, List.getElem_cons_succ] at hK ⊢
            go_simp
            exact hK.out _ _ ⟨Oth.of_bel bl, hcur.bel bl⟩ ⟨wa.heap.size, rfl, hz, heap_alloc_new _ _⟩
           case s4 =>
            intro u wa hG hf K hK
            have hcur : Cur wa c A n cap := by rcases hG with q | ⟨q, -⟩ <;> exact q.1.cur
            have hz : wr.heap.size ≤ wa.heap.size := by rcases hG with q | ⟨q, -⟩ <;> exact q.2
            have e2 := fact_of hf 2 (by kernel_rfl)
            (try dsimp only at e2)
            have e3 := fact_of hf 3 (by kernel_rfl)
            (try dsimp only at e3)
            clear hf
            clear hG
            simp only [Act.put, List.setIfInBounds_toArray, List.set_cons_zero, List.set_cons_succ, List.getElem_toArray, List.getElem_cons_zero, List.getElem_cons_succ] at hK ⊢
            generalize u 2 = x2 at e2 hK ⊢
            subst e2
            obtain ⟨g, e3, hg1, hg2⟩ := e3
            generalize u 3 = x3 at e3 hK ⊢
            subst e3
            have hgc : g ≠ c := by omega
            go_simp
            go_at_call 37
            refine (l1Pick_any g 2 20 2 c A n cap _ hcur (rowT_obj [⟨#[]⟩, ⟨#[101, 110, 100]⟩] hg2 (by decide +kernel)) hgc (by omega) (by omega)).mono ?_
            rintro e w2 ⟨x, hx, rfl, hC2, hO2⟩
            exact hK.out _ _ ⟨hO2, hC2⟩ ⟨x, rfl, hx⟩
           case s5 =>
            intro u wa hG hf K hK
            have hcur : Cur wa c A n cap := by rcases hG with q | ⟨q, -⟩ <;> exact q.1.cur
            have hz : wr.heap.size ≤ wa.heap.size := by rcases hG with q | ⟨q, -⟩ <;> exact q.2
            have e1 := fact_of hf 1 (by kernel_rfl)
            (try dsimp only at e1)
            clear hf
            clear hG
            simp only [Act.put, List.setIfInBounds_toArray, List.set_cons_zero, List.set_cons_succ, List.getElem_toArray, List.getElem_cons_zero, List.getElem_cons_succ] at hK ⊢
            generalize u 1 = x1 at e1 hK ⊢
            subst e1
            have hni : (0 : Int) < (nP : Int) := by omega
            go_simp
            exact hK.out _ _ ⟨Oth.refl _ _, hcur⟩ rfl
           case s6 =>
            intro u wa hG hf K hK
            have hcur : Cur wa c A n cap := by rcases hG with q | ⟨q, -⟩ <;> exact q.1.cur
            have hz : wr.heap.size ≤ wa.heap.size := by rcases hG with q | ⟨q, -⟩ <;> exact q.2
            have e5 := fact_of hf 5 (by kernel_rfl)
            (try dsimp only at e5)
            clear hf
            clear hG
            simp only [Act.put, List.setIfInBounds_toArray, List.set_cons_zero, List.set_cons_succ, List.getElem_toArray, List.getElem_cons_zero, List.getElem_cons_succ] at hK ⊢
            generalize u 5 = x5 at e5 hK ⊢
            subst e5
            go_simp
            exact hK.out _ _ ⟨Oth.refl _ _, hcur⟩ rfl
          case hp =>
           simp only [putP, Act.put, List.setIfInBounds_toArray, List.set_cons_zero, List.set_cons_succ, List.getElem_toArray, List.getElem_cons_zero, List.getElem_cons_succ]
           intro u wa hG hf K hK
           clear hf
           have hcur := hG.1.cur
           go_simp
           exact hK.out _ _ ⟨Oth.refl _ _, hcur⟩ hG rfl
          case hlast =>
           simp only [putP, Act.put, List.setIfInBounds_toArray, List.set_cons_zero, List.set_cons_succ, List.getElem_toArray, List.getElem_cons_zero, List.getElem_cons_succ]
           intro u wa hG hf K hK
           have e4 := hf 4 (by decide)
           (try dsimp only at e4)
           have e6 := hf 6 (by decide)
           (try dsimp only at e6)
           clear hf
           obtain ⟨x, e4, hx⟩ := e4
           generalize u 4 = x4 at e4 hK ⊢
           subst e4
           generalize u 6 = x6 at e6 hK ⊢
           subst e6
           have TZ := hide (UnS.first (p' := TProcedure.mk x xs1 xs2 z x4 x5 x6 x7 x8) HC.out hG.1 0 (.string x) (OwnE.name hG.1.ownP (by unfold maxLen; omega)) (by have h := HW.out; simp only [TProcedure.D_mk, Dat.wtL, Dat.wt, TProcedure.nm] at h ⊢; omega))
           obtain ⟨ov, hcv, hcf⟩ := OwnE.cell0 hG.1.ownP 0 (by omega)
           go_simp
           refine hK.out undef _ ?_
           clear hK
           go_wp2_with (fail)
           all_goals go_meet
           all_goals exact ⟨_, by simpa using hP2, TZ.out⟩
       case rest =>
        obtain ⟨P9, hP9, T⟩ := hcut
        clear T7
        have T9 := hide T
        clear T
        rename_i wr
        obtain ⟨AvR, cvR, evR⟩ := T9.out.ownR.val
        rw [List.length_map] at evR
        obtain ⟨nvR, hnvR⟩ : ∃ q : Nat, Rs.length = q := ⟨_, rfl⟩
        rw [hnvR] at evR
        subst evR
        obtain ⟨AvG, cvG, evG⟩ := T9.out.ownG.val
        rw [List.length_map] at evG
        obtain ⟨nvG, hnvG⟩ : ∃ q : Nat, Gs.length = q := ⟨_, rfl⟩
        rw [hnvG] at evG
        subst evG
        obtain ⟨AvP, cvP, evP⟩ := T9.out.ownP.val
        rw [List.length_map] at evP
        obtain ⟨nvP, hnvP⟩ : ∃ q : Nat, P9.length = q := ⟨_, rfl⟩
        rw [hnvP] at evP
        subst evP
        have HF := hide (UnS.fin HC.out T9.out (by omega) hG2 (by omega))
        have HRB := hide T9.out.res
        obtain ⟨hl9, f9, k90, k91, k92⟩ := T9.out.box
        go_upto_region 23 with (fail)
        refine wp_region_lit ?_
        refine wpList_plain rfl fun K hK => ?_
        go_simp
        refine hK _ _ ?_
        refine wpList_store_mid rfl 28 (.tmp 2) (.tmp 106) rfl w.heap.size 0 #[.slice AvR nvR cvR, .slice AvG nvG cvG, .slice AvP nvP cvP] rfl rfl HRB.out.there (by kernel_rfl) (by simp [Value.oneCell']) ?_
        refine wpList_namedF fun wz hwz => ?_
        obtain ⟨PZ, QZ⟩ := HF.out wz hwz
        obtain ⟨-, -, d0, d1, d2⟩ := PZ
        clear hwz k90 k91 k92 HRB HF
        refine wpList_nil ?_
        go_simp
        rename_i hKr
        refine hKr _ _ ?_
        clear hKr hK
        refine wp_ret ?_
        exact bodyPost_ret (v := .agg #[.slice AvR nvR cvR, .slice AvG nvG cvG, .slice AvP nvP cvP]) (by simp [results, Tryd.results24, d0, d1, d2, go_sem]; try rfl) rfl QZ
end Go.Proofs.YtdacpljinffnaaaDoor
