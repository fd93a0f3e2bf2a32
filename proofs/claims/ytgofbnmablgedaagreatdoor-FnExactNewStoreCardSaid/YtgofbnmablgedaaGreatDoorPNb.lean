/- Lists of record types copied, both sides. -/
import Derived.Test.YtgofbnmablgedaaGreatDoorPJp
import Derived.Test.YtgofbnmablgedaaGreatDoorPTV
import Derived.Test.YtgofbnmablgedaaGreatDoorPMStringS
import Derived.Deep.RegionHeld3
import Derived.Deep.MidRow
import Derived.Deep.Cut
import Derived.Test.YtgofbnmablgedaaGreatDoorPV6
namespace Go.Proofs.YtgofbnmablgedaaGreatDoor
set_option linter.unusedVariables false
set_option linter.unusedSimpArgs false
set_option maxRecDepth 100000
open Go.RowKit
def TRecordType.fl : TRecordType → List ByteArray | .mk _ f _ => f
theorem strs_flat (cs : List ByteArray) : ∀ ds ∈ cs.map (fun x => [Dat.str x]), ∀ d ∈ ds, d.flat := by
 intro ds hds d hd
 obtain ⟨x, -, rfl⟩ := List.mem_map.1 hds
 rw [List.mem_singleton.1 hd]
 trivial
theorem infoStr : (Tryz.prog.info? 9).map (fun i => (i.zero, i.size, i.bytes)) = some (some (.string ByteArray.empty), 1, 16) := by kernel_rfl
theorem infoRec : (Tryz.prog.info? 85).map (fun i => (i.zero, i.size, i.bytes)) = some (some (.agg #[.string ByteArray.empty, .slice none 0 0, .int .i64 0]), 3, 48) := by kernel_rfl
abbrev RecC (f : FuncId) : Prop := ∀ (xs : List TRecordType) (S : Nat → Prop) (w : World) (A : Option Addr) (c : Nat), Row w S 3 A c (xs.map TRecordType.D) → xs.length ≤ 1048576 → (∀ (k : Nat) (h : k < xs.length), xs[k].fl.length ≤ 1048576) →
 Calls Tryz.prog f #[.slice A xs.length c] w fun e w' => ∃ v L, e = .returned v ∧ OwnD w' 85 3 v L (xs.map TRecordType.D) ∧ (∀ b, Blk v L b → w.heap.size ≤ b) ∧ Bel w w'
theorem take_D {α : Type} (D : α → List Dat) {l : List α} {i : Nat} (h : i < l.length) : (l.take (i + 1)).map D = (l.take i).map D ++ [D l[i]] := by
 rw [List.take_succ_eq_append_getElem h, List.map_append, List.map_cons, List.map_nil]
theorem wp_named2 {P : Program} {c : Code} {Q : Exit → Act → World → Prop} {a : Act} {W : World} (h : ∀ wq, W = wq → Code.wp P c Q a wq) : Code.wp P c Q a W := h W rfl
set_option maxHeartbeats 2000000 in
theorem specRecs_any : RecC 18 := by
 intro xs S w A c hR hx hf
 have HR := hide hR
 have HF := hide hf
 have hlc := hR.1
 have hcm := hR.2.1
 simp only [List.length_map] at hlc
 unfold maxLen at hcm
 clear hR hf
 obtain ⟨is, his, zs0, zs1, zs2⟩ := info_parts infoStr
 obtain ⟨ir, hir, zr0, zr1, zr2⟩ := info_parts infoRec
 go_enter Tryz.func18, Tryz.ntmps18
 go_wp2_with (fail)
 go_loopw [3, 4] (fun lv iv wr => ∃ (i : Nat) (v : Value) (L : List Nat), v = lv ∧ iv = .int .i64 i ∧ i ≤ xs.length ∧ Hid (OwnD wr 85 3 v L ((xs.take i).map TRecordType.D)) ∧ Hid (∀ b, Blk v L b → w.heap.size ≤ b) ∧ Hid (Bel w wr)) (fun _ iv _ => xs.length - (intOf iv).toNat)
 case atStart => exact ⟨0, _, [], rfl, rfl, Nat.zero_le _, hide (OwnD.lit0 _ _ _), hide (fun b hb => by rcases hb with hb | hb; (have e := Option.some.inj (show some w.heap.size = some b from hb); omega); cases hb), hide bl⟩
 case round =>
  obtain ⟨i, v, L, rfl, rfl, hi, HO, HB, HBR⟩ := hrel
  by_cases h : i < xs.length
  ·
   skip
   have hdc : decide ((i : Int) < (xs.length : Int)) = true := by simp; omega
   have hi0 : (0 : Int) ≤ (i : Int) := by omega
   have hi1 : (i : Int) < (xs.length : Int) := by omega
   have hbw := HBR.out
   (obtain ⟨b1, o1, x1_0, x1_1, x1_2, A1_1, C1_1, hA1, hS1, hl1, hx1, hv1, g1_0, g1_1, g1_2, c1_0, c1_1, c1_2⟩ := TRecordType.at HR.out i h; subst hA1; have HV1 := hide (Dat.HoldVals.bel hbw hv1); have hh1 := hbw.box b1 hl1; have hw1 := Nat.lt_of_lt_of_le hl1 (Bel.size hbw); replace c1_0 := (hh1 _).trans c1_0; replace c1_1 := (hh1 _).trans c1_1; replace c1_2 := (hh1 _).trans c1_2; have HX1 := hide hx1; have GR1_1 := hide g1_1; clear hh1 hv1 hx1 hS1 g1_1)
   have hfl := HF.out i h
   rw [HX1.out] at hfl
   simp only [TRecordType.fl] at hfl
   have hlf := GR1_1.out.1
   have hmf := GR1_1.out.2.1
   simp only [List.length_map] at hlf
   unfold maxLen at hmf
   go_upto_region 5 with (fail)
   have hbrA : Bel wr wr := Bel.refl _
   have k0 := c1_0
   have k1 := c1_1
   have k2 := c1_2
   have HOA := hide (HO.out.bel hbrA)
   have hbA := Bel.trans hbw hbrA
   refine wp_region_held_drew (S := fun w' => w'.cell? ⟨b1, o1 + i * 3, none⟩ = some (.string x1_0) ∧ w'.cell? ⟨b1, o1 + i * 3 + 1, none⟩ = some (.slice A1_1 x1_1.length C1_1) ∧ w'.cell? ⟨b1, o1 + i * 3 + 2, none⟩ = some (.int .i64 x1_2)) (by kernel_rfl) ?_ (fun hHeld => ?_)
   ·
    exact ⟨k0, k1, k2⟩
   refine tkI 0 ?_
   refine tkI 1 ?_
   refine tkI 2 ?_
   refine tkI 3 ?_
   refine tkI 4 ?_
   refine tkI 5 ?_
   refine tkI 7 ?_
   refine tkI 8 ?_
   refine tkI 9 ?_
   refine tkI 10 ?_
   refine tkI 11 ?_
   refine tkI 13 ?_
   refine tkI 14 ?_
   refine tkI 15 ?_
   refine tkI 16 ?_
   refine tkI 17 ?_
   have hlB : b1 < wr.heap.size := by exact hw1
   refine wpAnyH_ready (rs := [6]) (by kernel_rfl) (by simp) ?_
   refine AllReadyH.cons (o := _) rfl (fun K hK => ?_) AllReadyH.nil
   go_simp
   clear hHeld
   have hb1 : Bel wr ((wr.alloc (.cells #[] 9)).drew) := bl
   have hO5 := OwnD.bel (OwnD.lit0 wr 9 1) (show Bel _ ((wr.alloc (.cells #[] 9)).drew) from bl)
   refine hK.out _ _ ?_ (fun hHeld => ?_)
   ·
    exact ⟨(hb1.box b1 hlB _).trans k0, (hb1.box b1 hlB _).trans k1, (hb1.box b1 hlB _).trans k2⟩
   clear hK K
   (try simp only [Act.put, List.setIfInBounds_toArray, List.set_cons_zero, List.set_cons_succ, List.getElem_toArray, List.getElem_cons_zero, List.getElem_cons_succ])
   refine wpAnyH_ready (rs := [12]) (by kernel_rfl) (by simp) ?_
   refine AllReadyH.cons (o := _) rfl (fun K hK => ?_) AllReadyH.nil
   rw [if_pos (by rfl)]
   obtain ⟨nw1, hsr1⟩ := Row.src (strs_flat x1_1) (Row.bel (Bel.trans hbA hb1) GR1_1.out)
   rw [List.length_map] at hsr1
   refine wp_append_D (.tmp 18) (.tmp 23) 24 rfl 9 is (.string ByteArray.empty) 1 16 Tryz.underlying24 his zs0 zs1 zs2 (by decide) (by decide) hO5 hsr1 C1_1 rfl rfl (fun b _ h => by cases h) (by simp only [List.length_nil]; omega) (by unfold maxLen; simp only [List.length_nil]; omega) fun v5 w5 hO6 hg5 hw5 => ?_
   have hb2 : Bel wr w5 := Below.grown hb1 hg5 (by simp) (fun k hk => by have := Option.some.inj (show some wr.heap.size = some k from hk); omega)
   obtain ⟨A6, c6, L6, hv6e, hr6, hn6, hk6⟩ := hO6.ownRow
   subst hv6e
   simp only [List.nil_append, List.length_map] at hr6 hk6 hw5 ⊢
   have HR6 := hide hr6
   have HN6 := hide hn6
   have HK6 := hide (show ∀ b, b ∈ L6 → wr.heap.size ≤ b from fun b hb => (hk6 b hb).elim (fun q => (hw5 b q).elim (fun q => by have := Option.some.inj (show some wr.heap.size = some b from q); omega) (fun q => by have := hb1.size; omega)) (fun q => by cases q))
   clear hsr1 hO5 hO6 hg5 hw5 hr6 hn6 hk6
   refine hK.out _ _ ?_ (fun hHeld => ?_)
   ·
    exact ⟨(hb2.box b1 hlB _).trans k0, (hb2.box b1 hlB _).trans k1, (hb2.box b1 hlB _).trans k2⟩
   clear hK K
   (try simp only [Act.put, List.setIfInBounds_toArray, List.set_cons_zero, List.set_cons_succ, List.getElem_toArray, List.getElem_cons_zero, List.getElem_cons_succ])
   refine tkI 18 ?_
   refine wpAnyH_ready (rs := [19]) (by kernel_rfl) (by simp) ?_
   refine AllReadyH.cons (o := _) rfl (fun K hK => ?_) AllReadyH.nil
   go_simp
   clear hHeld
   have hb3 : Bel wr (w5.alloc (.cells #[.string x1_0, .slice A6 x1_1.length c6, .int .i64 x1_2] 85)) := bl
   have hown := OwnD.lit1 (k := 3) w5 85 (TRecordType.own_mk g1_0 HR6.out g1_2) rfl HN6.out
   obtain ⟨nw3, hsr3⟩ := hown.src
   have HSR3 := hide hsr3
   clear hown hsr3
   have HO7 := hide (HOA.out.bel hb3)
   refine hK.out _ _ ?_ (fun hHeld => ?_)
   ·
    exact ⟨(hb3.box b1 hlB _).trans k0, (hb3.box b1 hlB _).trans k1, (hb3.box b1 hlB _).trans k2⟩
   clear hK K
   (try simp only [Act.put, List.setIfInBounds_toArray, List.set_cons_zero, List.set_cons_succ, List.getElem_toArray, List.getElem_cons_zero, List.getElem_cons_succ])
   refine wpAnyH_ready (rs := [20]) (by kernel_rfl) (by simp) ?_
   refine AllReadyH.cons (o := _) rfl (fun K hK => ?_) AllReadyH.nil
   rw [if_pos (by rfl)]
   refine wp_append_D (.tmp 12) (.tmp 31) 28 rfl 85 ir (.agg #[.string ByteArray.empty, .slice none 0 0, .int .i64 0]) 3 48 Tryz.underlying28 hir zr0 zr1 zr2 (by decide) (by decide) HO7.out HSR3.out 1 rfl rfl (fun b hb hm => by have h1 := HOA.out.lt b hb; have h2 := HK6.out b hm; omega) (by rw [List.length_map, List.length_take]; omega) (by rw [List.length_map, List.length_take]; unfold maxLen; omega) fun v8 w8 hO8 hg8 hw8 => ?_
   have hb8 : Bel w w8 := Below.grown (Bel.trans hbA hb3) hg8 (Bel.trans hbA hb3).size (fun k hk => HB.out k (Or.inl hk))
   have hne : v.ownBlock ≠ some b1 := fun q => by have := HB.out _ (Or.inl q); omega
   have hz3 := hb3.size
   have e8 := hg8.block b1 (by omega) (fun q => hne q.symm)
   refine hK.out _ _ ?_ (fun hHeld => ?_)
   ·
    exact ⟨(World.cell?_of_block e8).trans ((hb3.box b1 hlB _).trans k0), (World.cell?_of_block e8).trans ((hb3.box b1 hlB _).trans k1), (World.cell?_of_block e8).trans ((hb3.box b1 hlB _).trans k2)⟩
   clear hK K
   (try simp only [Act.put, List.setIfInBounds_toArray, List.set_cons_zero, List.set_cons_succ, List.getElem_toArray, List.getElem_cons_zero, List.getElem_cons_succ])
   refine tkI 21 ?_
   refine wpAnyH_done (by kernel_rfl) ?_ _
   clear hHeld
   have HO9 := hide (show OwnD w8 85 3 v8 (L ++ L6) ((xs.take (i + 1)).map TRecordType.D) by rw [take_D TRecordType.D h, HX1.out]; exact hO8)
   have hz8 := hbA.size
   have HB9 := hide (show ∀ b, Blk v8 (L ++ L6) b → w.heap.size ≤ b from fun b hb => hb.elim (fun q => (hw8 b q).elim (fun q => HB.out b (Or.inl q)) (fun q => by have := (Bel.trans hbA hb3).size; omega)) (fun q => (List.mem_append.1 q).elim (fun q => HB.out b (Or.inr q)) (fun q => by have := HK6.out b q; omega)))
   clear hO8 hg8 hw8 e8
   go_wp2_with (fail)
   all_goals go_roundw
   case rel => exact ⟨i + 1, _, _, rfl, by go_num, by omega, hide (HO9.out.bel bl), hide HB9.out, hide (Bel.trans hb8 bl)⟩
   case measure => simp [intOf]; omega
  ·
   skip
   have hdc : decide ((i : Int) < (xs.length : Int)) = false := by simp; omega
   have HO9 := hide (show OwnD wr 85 3 v L (xs.map TRecordType.D) by have := HO.out; rw [List.take_of_length_le (by omega)] at this; exact this)
   obtain ⟨A9, n9, c9, rfl⟩ : ∃ A9 n9 c9, v = .slice A9 n9 c9 := by obtain ⟨A0, c0, L0, hv0, _⟩ := HO.out.ownRow; exact ⟨_, _, _, hv0⟩
   go_wp2_with (fail)
   all_goals
    go_returns
    exact ⟨_, L, rfl, HO9.out.bel bl, HB.out, Bel.trans HBR.out bl⟩
set_option maxHeartbeats 2000000 in
theorem implRecs_any : RecC 58 := by
 intro xs S w A c hR hx hf
 have HR := hide hR
 have HF := hide hf
 have hlc := hR.1
 have hcm := hR.2.1
 simp only [List.length_map] at hlc
 unfold maxLen at hcm
 clear hR hf
 obtain ⟨is, his, zs0, zs1, zs2⟩ := info_parts infoStr
 obtain ⟨ir, hir, zr0, zr1, zr2⟩ := info_parts infoRec
 go_enter Tryz.func58, Tryz.ntmps58
 go_wp2_with (fail)
 go_loopw [3, 9] (fun lv iv wr => ∃ (i : Nat) (v : Value) (L : List Nat), v = lv ∧ iv = .int .i64 i ∧ i ≤ xs.length ∧ Hid (OwnD wr 85 3 v L ((xs.take i).map TRecordType.D)) ∧ Hid (∀ b, Blk v L b → w.heap.size ≤ b) ∧ Hid (Bel w wr)) (fun _ iv _ => xs.length - (intOf iv).toNat)
 case atStart => exact ⟨0, _, [], rfl, rfl, Nat.zero_le _, hide (OwnD.lit0 _ _ _), hide (fun b hb => by rcases hb with hb | hb; (have e := Option.some.inj (show some w.heap.size = some b from hb); omega); cases hb), hide bl⟩
 case round =>
  obtain ⟨i, v, L, rfl, rfl, hi, HO, HB, HBR⟩ := hrel
  by_cases h : i < xs.length
  ·
   skip
   have hdc : decide ((i : Int) < (xs.length : Int)) = true := by simp; omega
   have hi0 : (0 : Int) ≤ (i : Int) := by omega
   have hi1 : (i : Int) < (xs.length : Int) := by omega
   have hbw := HBR.out
   (obtain ⟨b1, o1, x1_0, x1_1, x1_2, A1_1, C1_1, hA1, hS1, hl1, hx1, hv1, g1_0, g1_1, g1_2, c1_0, c1_1, c1_2⟩ := TRecordType.at HR.out i h; subst hA1; have HV1 := hide (Dat.HoldVals.bel hbw hv1); have hh1 := hbw.box b1 hl1; have hw1 := Nat.lt_of_lt_of_le hl1 (Bel.size hbw); replace c1_0 := (hh1 _).trans c1_0; replace c1_1 := (hh1 _).trans c1_1; replace c1_2 := (hh1 _).trans c1_2; have HX1 := hide hx1; have GR1_1 := hide g1_1; clear hh1 hv1 hx1 hS1 g1_1)
   have hfl := HF.out i h
   rw [HX1.out] at hfl
   simp only [TRecordType.fl] at hfl
   have hlf := GR1_1.out.1
   have hmf := GR1_1.out.2.1
   simp only [List.length_map] at hlf
   unfold maxLen at hmf
   go_upto_region 5 with (fail)
   refine wp_named2 fun wA hwA => ?_
   have hbrA : Bel wr wA := by rw [← hwA]; exact bl
   have hzA : wr.heap.size < wA.heap.size := by rw [← hwA]; simp
   have k0 : wA.cell? ⟨wr.heap.size, 0, none⟩ = some (.string x1_0) := by rw [← hwA]; simp [go_sem]
   have k1 : wA.cell? ⟨wr.heap.size, 1, none⟩ = some (.slice A1_1 x1_1.length C1_1) := by rw [← hwA]; simp [go_sem]
   have k2 : wA.cell? ⟨wr.heap.size, 2, none⟩ = some (.int .i64 x1_2) := by rw [← hwA]; simp [go_sem]
   clear hwA
   have HOA := hide (HO.out.bel hbrA)
   have hbA := Bel.trans hbw hbrA
   refine wp_region_held_drew (S := fun w' => w'.cell? ⟨wr.heap.size, 0, none⟩ = some (.string x1_0) ∧ w'.cell? ⟨wr.heap.size, 1, none⟩ = some (.slice A1_1 x1_1.length C1_1) ∧ w'.cell? ⟨wr.heap.size, 2, none⟩ = some (.int .i64 x1_2)) (by kernel_rfl) ?_ (fun hHeld => ?_)
   ·
    exact ⟨k0, k1, k2⟩
   refine tkI 0 ?_
   refine tkI 1 ?_
   refine tkI 2 ?_
   refine tkI 4 ?_
   refine tkI 5 ?_
   refine tkI 7 ?_
   refine tkI 8 ?_
   have hlB : wr.heap.size < wA.heap.size := by omega
   refine wpAnyH_ready (rs := [3]) (by kernel_rfl) (by simp) ?_
   refine AllReadyH.cons (o := _) rfl (fun K hK => ?_) AllReadyH.nil
   go_simp
   clear hHeld
   have hb1 : Bel wA ((wA.alloc (.cells #[] 9)).drew) := bl
   have hO5 := OwnD.bel (OwnD.lit0 wA 9 1) (show Bel _ ((wA.alloc (.cells #[] 9)).drew) from bl)
   refine hK.out _ _ ?_ (fun hHeld => ?_)
   ·
    exact ⟨(hb1.box wr.heap.size hlB _).trans k0, (hb1.box wr.heap.size hlB _).trans k1, (hb1.box wr.heap.size hlB _).trans k2⟩
   clear hK K
   (try simp only [Act.put, List.setIfInBounds_toArray, List.set_cons_zero, List.set_cons_succ, List.getElem_toArray, List.getElem_cons_zero, List.getElem_cons_succ])
   refine wpAnyH_ready (rs := [6]) (by kernel_rfl) (by simp) ?_
   refine AllReadyH.cons (o := _) rfl (fun K hK => ?_) AllReadyH.nil
   rw [if_pos (by rfl)]
   obtain ⟨nw1, hsr1⟩ := Row.src (strs_flat x1_1) (Row.bel (Bel.trans hbA hb1) GR1_1.out)
   rw [List.length_map] at hsr1
   refine wp_append_D (.tmp 16) (.tmp 18) 24 rfl 9 is (.string ByteArray.empty) 1 16 Tryz.underlying24 his zs0 zs1 zs2 (by decide) (by decide) hO5 hsr1 C1_1 rfl rfl (fun b _ h => by cases h) (by simp only [List.length_nil]; omega) (by unfold maxLen; simp only [List.length_nil]; omega) fun v5 w5 hO6 hg5 hw5 => ?_
   have hb2 : Bel wA w5 := Below.grown hb1 hg5 (by simp) (fun k hk => by have := Option.some.inj (show some wA.heap.size = some k from hk); omega)
   obtain ⟨A6, c6, L6, hv6e, hr6, hn6, hk6⟩ := hO6.ownRow
   subst hv6e
   simp only [List.nil_append, List.length_map] at hr6 hk6 hw5 ⊢
   have HR6 := hide hr6
   have HN6 := hide hn6
   have HK6 := hide (show ∀ b, b ∈ L6 → wA.heap.size ≤ b from fun b hb => (hk6 b hb).elim (fun q => (hw5 b q).elim (fun q => by have := Option.some.inj (show some wA.heap.size = some b from q); omega) (fun q => by have := hb1.size; omega)) (fun q => by cases q))
   clear hsr1 hO5 hO6 hg5 hw5 hr6 hn6 hk6
   refine hK.out _ _ ?_ (fun hHeld => ?_)
   ·
    exact ⟨(hb2.box wr.heap.size hlB _).trans k0, (hb2.box wr.heap.size hlB _).trans k1, (hb2.box wr.heap.size hlB _).trans k2⟩
   clear hK K
   (try simp only [Act.put, List.setIfInBounds_toArray, List.set_cons_zero, List.set_cons_succ, List.getElem_toArray, List.getElem_cons_zero, List.getElem_cons_succ])
   refine tkI 9 ?_
   refine wpAnyH_ready (rs := [10]) (by kernel_rfl) (by simp) ?_
   refine AllReadyH.cons (o := _) rfl (fun K hK => ?_) AllReadyH.nil
   go_simp
   clear hHeld
   have hb3 : Bel wA (w5.alloc (.cells #[.string x1_0, .slice A6 x1_1.length c6, .int .i64 x1_2] 85)) := bl
   have hown := OwnD.lit1 (k := 3) w5 85 (TRecordType.own_mk g1_0 HR6.out g1_2) rfl HN6.out
   obtain ⟨nw3, hsr3⟩ := hown.src
   have HSR3 := hide hsr3
   clear hown hsr3
   have HO7 := hide (HOA.out.bel hb3)
   refine hK.out _ _ ?_ (fun hHeld => ?_)
   ·
    exact ⟨(hb3.box wr.heap.size hlB _).trans k0, (hb3.box wr.heap.size hlB _).trans k1, (hb3.box wr.heap.size hlB _).trans k2⟩
   clear hK K
   (try simp only [Act.put, List.setIfInBounds_toArray, List.set_cons_zero, List.set_cons_succ, List.getElem_toArray, List.getElem_cons_zero, List.getElem_cons_succ])
   refine wpAnyH_ready (rs := [11]) (by kernel_rfl) (by simp) ?_
   refine AllReadyH.cons (o := _) rfl (fun K hK => ?_) AllReadyH.nil
   rw [if_pos (by rfl)]
   refine wp_append_D (.tmp 13) (.tmp 23) 28 rfl 85 ir (.agg #[.string ByteArray.empty, .slice none 0 0, .int .i64 0]) 3 48 Tryz.underlying28 hir zr0 zr1 zr2 (by decide) (by decide) HO7.out HSR3.out 1 rfl rfl (fun b hb hm => by have h1 := HOA.out.lt b hb; have h2 := HK6.out b hm; omega) (by rw [List.length_map, List.length_take]; omega) (by rw [List.length_map, List.length_take]; unfold maxLen; omega) fun v8 w8 hO8 hg8 hw8 => ?_
   have hb8 : Bel w w8 := Below.grown (Bel.trans hbA hb3) hg8 (Bel.trans hbA hb3).size (fun k hk => HB.out k (Or.inl hk))
   have hne : v.ownBlock ≠ some wr.heap.size := fun q => by have := HO.out.lt _ (Or.inl q); omega
   have hz3 := hb3.size
   have e8 := hg8.block wr.heap.size (by omega) (fun q => hne q.symm)
   refine hK.out _ _ ?_ (fun hHeld => ?_)
   ·
    exact ⟨(World.cell?_of_block e8).trans ((hb3.box wr.heap.size hlB _).trans k0), (World.cell?_of_block e8).trans ((hb3.box wr.heap.size hlB _).trans k1), (World.cell?_of_block e8).trans ((hb3.box wr.heap.size hlB _).trans k2)⟩
   clear hK K
   (try simp only [Act.put, List.setIfInBounds_toArray, List.set_cons_zero, List.set_cons_succ, List.getElem_toArray, List.getElem_cons_zero, List.getElem_cons_succ])
   refine tkI 12 ?_
   refine wpAnyH_done (by kernel_rfl) ?_ _
   clear hHeld
   have HO9 := hide (show OwnD w8 85 3 v8 (L ++ L6) ((xs.take (i + 1)).map TRecordType.D) by rw [take_D TRecordType.D h, HX1.out]; exact hO8)
   have hz8 := hbA.size
   have HB9 := hide (show ∀ b, Blk v8 (L ++ L6) b → w.heap.size ≤ b from fun b hb => hb.elim (fun q => (hw8 b q).elim (fun q => HB.out b (Or.inl q)) (fun q => by have := (Bel.trans hbA hb3).size; omega)) (fun q => (List.mem_append.1 q).elim (fun q => HB.out b (Or.inr q)) (fun q => by have := HK6.out b q; omega)))
   clear hO8 hg8 hw8 e8
   go_wp2_with (fail)
   all_goals go_roundw
   case rel => exact ⟨i + 1, _, _, rfl, by go_num, by omega, hide (HO9.out.bel bl), hide HB9.out, hide (Bel.trans hb8 bl)⟩
   case measure => simp [intOf]; omega
  ·
   skip
   have hdc : decide ((i : Int) < (xs.length : Int)) = false := by simp; omega
   have HO9 := hide (show OwnD wr 85 3 v L (xs.map TRecordType.D) by have := HO.out; rw [List.take_of_length_le (by omega)] at this; exact this)
   obtain ⟨A9, n9, c9, rfl⟩ : ∃ A9 n9 c9, v = .slice A9 n9 c9 := by obtain ⟨A0, c0, L0, hv0, _⟩ := HO.out.ownRow; exact ⟨_, _, _, hv0⟩
   go_wp2_with (fail)
   all_goals
    go_returns
    exact ⟨_, L, rfl, HO9.out.bel bl, HB.out, Bel.trans HBR.out bl⟩
end Go.Proofs.YtgofbnmablgedaaGreatDoor
namespace Go.Proofs.YtgofbnmablgedaaGreatDoor
set_option linter.unusedVariables false
set_option linter.unusedSimpArgs false
set_option maxRecDepth 100000
open Go.RowKit
theorem set_block {w : World} {b b' : Nat} (o : Nat) (u : Value) (hn : b' ≠ b) : (w.setCell ⟨b', o, none⟩ u).heap[b]? = w.heap[b]? := by
 unfold World.setCell
 split
 all_goals
  show (w.heap.modify b' _)[b]? = _
  rw [Array.getElem?_modify, if_neg hn]
theorem k_named {K : Act → World → Prop} {a : Act} {W : World} (h : ∀ wz, wz = W → K a wz) : K a W := h W rfl
theorem wpList_namedF {P : Program} {ops : Array Oper} {Q : Exit → Act → World → Prop} {l : List Oper} {a : Act} {W : World} (h : ∀ wz, wz = W → wpList P ops Q l a wz) : wpList P ops Q l a W := h W rfl
def SB (w : World) (b : Nat) (v0 v1 v2 v3 v4 v5 v6 v7 v8 v9 v10 v11 v12 : Value) : Prop := b < w.heap.size ∧ (∀ o, w.frozen? ⟨b, o, none⟩ = false) ∧ w.cell? ⟨b, 0, none⟩ = some v0 ∧ w.cell? ⟨b, 1, none⟩ = some v1 ∧ w.cell? ⟨b, 2, none⟩ = some v2 ∧ w.cell? ⟨b, 3, none⟩ = some v3 ∧ w.cell? ⟨b, 4, none⟩ = some v4 ∧ w.cell? ⟨b, 5, none⟩ = some v5 ∧ w.cell? ⟨b, 6, none⟩ = some v6 ∧ w.cell? ⟨b, 7, none⟩ = some v7 ∧ w.cell? ⟨b, 8, none⟩ = some v8 ∧ w.cell? ⟨b, 9, none⟩ = some v9 ∧ w.cell? ⟨b, 10, none⟩ = some v10 ∧ w.cell? ⟨b, 11, none⟩ = some v11 ∧ w.cell? ⟨b, 12, none⟩ = some v12
section
variable {w w' : World} {b : Nat} {v0 v1 v2 v3 v4 v5 v6 v7 v8 v9 v10 v11 v12 : Value}
theorem SB.block (h : SB w b v0 v1 v2 v3 v4 v5 v6 v7 v8 v9 v10 v11 v12) (hs : w.heap.size ≤ w'.heap.size) (hb : w'.heap[b]? = w.heap[b]?) : SB w' b v0 v1 v2 v3 v4 v5 v6 v7 v8 v9 v10 v11 v12 := by
 obtain ⟨l, f, c0, c1, c2, c3, c4, c5, c6, c7, c8, c9, c10, c11, c12⟩ := h
 have e : ∀ o, w'.cell? ⟨b, o, none⟩ = w.cell? ⟨b, o, none⟩ := fun o => World.cell?_of_block hb
 exact ⟨by omega, fun o => (World.frozen?_of_block hb).trans (f o), (e 0).trans c0, (e 1).trans c1, (e 2).trans c2, (e 3).trans c3, (e 4).trans c4, (e 5).trans c5, (e 6).trans c6, (e 7).trans c7, (e 8).trans c8, (e 9).trans c9, (e 10).trans c10, (e 11).trans c11, (e 12).trans c12⟩
theorem SB.on (h : SB w b v0 v1 v2 v3 v4 v5 v6 v7 v8 v9 v10 v11 v12) (k : Bel w w') : SB w' b v0 v1 v2 v3 v4 v5 v6 v7 v8 v9 v10 v11 v12 := h.block k.size (Below.block k b h.1)
theorem SB.new (w : World) (t : TypeId) : SB (w.alloc (.cells #[v0, v1, v2, v3, v4, v5, v6, v7, v8, v9, v10, v11, v12] t)) w.heap.size v0 v1 v2 v3 v4 v5 v6 v7 v8 v9 v10 v11 v12 :=
 ⟨by simp, fun o => by simp, by simp, by simp, by simp, by simp, by simp, by simp, by simp, by simp, by simp, by simp, by simp, by simp, by simp⟩
theorem SB.far (h : SB w b v0 v1 v2 v3 v4 v5 v6 v7 v8 v9 v10 v11 v12) {b' : Nat} (o : Nat) (u : Value) (hn : b' ≠ b) : SB (w.setCell ⟨b', o, none⟩ u) b v0 v1 v2 v3 v4 v5 v6 v7 v8 v9 v10 v11 v12 :=
 h.block (by simp) (set_block o u hn)
theorem SB.put0 (h : SB w b v0 v1 v2 v3 v4 v5 v6 v7 v8 v9 v10 v11 v12) (u : Value) : SB (w.setCell ⟨b, 0, none⟩ u) b u v1 v2 v3 v4 v5 v6 v7 v8 v9 v10 v11 v12 := by
 obtain ⟨l, f, c0, c1, c2, c3, c4, c5, c6, c7, c8, c9, c10, c11, c12⟩ := h
 exact ⟨by simpa using l, fun o => by simp [f], by simp [c0, go_sem], by simp [c1, go_sem], by simp [c2, go_sem], by simp [c3, go_sem], by simp [c4, go_sem], by simp [c5, go_sem], by simp [c6, go_sem], by simp [c7, go_sem], by simp [c8, go_sem], by simp [c9, go_sem], by simp [c10, go_sem], by simp [c11, go_sem], by simp [c12, go_sem]⟩
theorem SB.put1 (h : SB w b v0 v1 v2 v3 v4 v5 v6 v7 v8 v9 v10 v11 v12) (u : Value) : SB (w.setCell ⟨b, 1, none⟩ u) b v0 u v2 v3 v4 v5 v6 v7 v8 v9 v10 v11 v12 := by
 obtain ⟨l, f, c0, c1, c2, c3, c4, c5, c6, c7, c8, c9, c10, c11, c12⟩ := h
 exact ⟨by simpa using l, fun o => by simp [f], by simp [c0, go_sem], by simp [c1, go_sem], by simp [c2, go_sem], by simp [c3, go_sem], by simp [c4, go_sem], by simp [c5, go_sem], by simp [c6, go_sem], by simp [c7, go_sem], by simp [c8, go_sem], by simp [c9, go_sem], by simp [c10, go_sem], by simp [c11, go_sem], by simp [c12, go_sem]⟩
theorem SB.put2 (h : SB w b v0 v1 v2 v3 v4 v5 v6 v7 v8 v9 v10 v11 v12) (u : Value) : SB (w.setCell ⟨b, 2, none⟩ u) b v0 v1 u v3 v4 v5 v6 v7 v8 v9 v10 v11 v12 := by
 obtain ⟨l, f, c0, c1, c2, c3, c4, c5, c6, c7, c8, c9, c10, c11, c12⟩ := h
 exact ⟨by simpa using l, fun o => by simp [f], by simp [c0, go_sem], by simp [c1, go_sem], by simp [c2, go_sem], by simp [c3, go_sem], by simp [c4, go_sem], by simp [c5, go_sem], by simp [c6, go_sem], by simp [c7, go_sem], by simp [c8, go_sem], by simp [c9, go_sem], by simp [c10, go_sem], by simp [c11, go_sem], by simp [c12, go_sem]⟩
theorem SB.put3 (h : SB w b v0 v1 v2 v3 v4 v5 v6 v7 v8 v9 v10 v11 v12) (u : Value) : SB (w.setCell ⟨b, 3, none⟩ u) b v0 v1 v2 u v4 v5 v6 v7 v8 v9 v10 v11 v12 := by
 obtain ⟨l, f, c0, c1, c2, c3, c4, c5, c6, c7, c8, c9, c10, c11, c12⟩ := h
 exact ⟨by simpa using l, fun o => by simp [f], by simp [c0, go_sem], by simp [c1, go_sem], by simp [c2, go_sem], by simp [c3, go_sem], by simp [c4, go_sem], by simp [c5, go_sem], by simp [c6, go_sem], by simp [c7, go_sem], by simp [c8, go_sem], by simp [c9, go_sem], by simp [c10, go_sem], by simp [c11, go_sem], by simp [c12, go_sem]⟩
theorem SB.put4 (h : SB w b v0 v1 v2 v3 v4 v5 v6 v7 v8 v9 v10 v11 v12) (u : Value) : SB (w.setCell ⟨b, 4, none⟩ u) b v0 v1 v2 v3 u v5 v6 v7 v8 v9 v10 v11 v12 := by
 obtain ⟨l, f, c0, c1, c2, c3, c4, c5, c6, c7, c8, c9, c10, c11, c12⟩ := h
 exact ⟨by simpa using l, fun o => by simp [f], by simp [c0, go_sem], by simp [c1, go_sem], by simp [c2, go_sem], by simp [c3, go_sem], by simp [c4, go_sem], by simp [c5, go_sem], by simp [c6, go_sem], by simp [c7, go_sem], by simp [c8, go_sem], by simp [c9, go_sem], by simp [c10, go_sem], by simp [c11, go_sem], by simp [c12, go_sem]⟩
theorem SB.put5 (h : SB w b v0 v1 v2 v3 v4 v5 v6 v7 v8 v9 v10 v11 v12) (u : Value) : SB (w.setCell ⟨b, 5, none⟩ u) b v0 v1 v2 v3 v4 u v6 v7 v8 v9 v10 v11 v12 := by
 obtain ⟨l, f, c0, c1, c2, c3, c4, c5, c6, c7, c8, c9, c10, c11, c12⟩ := h
 exact ⟨by simpa using l, fun o => by simp [f], by simp [c0, go_sem], by simp [c1, go_sem], by simp [c2, go_sem], by simp [c3, go_sem], by simp [c4, go_sem], by simp [c5, go_sem], by simp [c6, go_sem], by simp [c7, go_sem], by simp [c8, go_sem], by simp [c9, go_sem], by simp [c10, go_sem], by simp [c11, go_sem], by simp [c12, go_sem]⟩
theorem SB.put6 (h : SB w b v0 v1 v2 v3 v4 v5 v6 v7 v8 v9 v10 v11 v12) (u : Value) : SB (w.setCell ⟨b, 6, none⟩ u) b v0 v1 v2 v3 v4 v5 u v7 v8 v9 v10 v11 v12 := by
 obtain ⟨l, f, c0, c1, c2, c3, c4, c5, c6, c7, c8, c9, c10, c11, c12⟩ := h
 exact ⟨by simpa using l, fun o => by simp [f], by simp [c0, go_sem], by simp [c1, go_sem], by simp [c2, go_sem], by simp [c3, go_sem], by simp [c4, go_sem], by simp [c5, go_sem], by simp [c6, go_sem], by simp [c7, go_sem], by simp [c8, go_sem], by simp [c9, go_sem], by simp [c10, go_sem], by simp [c11, go_sem], by simp [c12, go_sem]⟩
theorem SB.put7 (h : SB w b v0 v1 v2 v3 v4 v5 v6 v7 v8 v9 v10 v11 v12) (u : Value) : SB (w.setCell ⟨b, 7, none⟩ u) b v0 v1 v2 v3 v4 v5 v6 u v8 v9 v10 v11 v12 := by
 obtain ⟨l, f, c0, c1, c2, c3, c4, c5, c6, c7, c8, c9, c10, c11, c12⟩ := h
 exact ⟨by simpa using l, fun o => by simp [f], by simp [c0, go_sem], by simp [c1, go_sem], by simp [c2, go_sem], by simp [c3, go_sem], by simp [c4, go_sem], by simp [c5, go_sem], by simp [c6, go_sem], by simp [c7, go_sem], by simp [c8, go_sem], by simp [c9, go_sem], by simp [c10, go_sem], by simp [c11, go_sem], by simp [c12, go_sem]⟩
theorem SB.put8 (h : SB w b v0 v1 v2 v3 v4 v5 v6 v7 v8 v9 v10 v11 v12) (u : Value) : SB (w.setCell ⟨b, 8, none⟩ u) b v0 v1 v2 v3 v4 v5 v6 v7 u v9 v10 v11 v12 := by
 obtain ⟨l, f, c0, c1, c2, c3, c4, c5, c6, c7, c8, c9, c10, c11, c12⟩ := h
 exact ⟨by simpa using l, fun o => by simp [f], by simp [c0, go_sem], by simp [c1, go_sem], by simp [c2, go_sem], by simp [c3, go_sem], by simp [c4, go_sem], by simp [c5, go_sem], by simp [c6, go_sem], by simp [c7, go_sem], by simp [c8, go_sem], by simp [c9, go_sem], by simp [c10, go_sem], by simp [c11, go_sem], by simp [c12, go_sem]⟩
theorem SB.put9 (h : SB w b v0 v1 v2 v3 v4 v5 v6 v7 v8 v9 v10 v11 v12) (u : Value) : SB (w.setCell ⟨b, 9, none⟩ u) b v0 v1 v2 v3 v4 v5 v6 v7 v8 u v10 v11 v12 := by
 obtain ⟨l, f, c0, c1, c2, c3, c4, c5, c6, c7, c8, c9, c10, c11, c12⟩ := h
 exact ⟨by simpa using l, fun o => by simp [f], by simp [c0, go_sem], by simp [c1, go_sem], by simp [c2, go_sem], by simp [c3, go_sem], by simp [c4, go_sem], by simp [c5, go_sem], by simp [c6, go_sem], by simp [c7, go_sem], by simp [c8, go_sem], by simp [c9, go_sem], by simp [c10, go_sem], by simp [c11, go_sem], by simp [c12, go_sem]⟩
theorem SB.put10 (h : SB w b v0 v1 v2 v3 v4 v5 v6 v7 v8 v9 v10 v11 v12) (u : Value) : SB (w.setCell ⟨b, 10, none⟩ u) b v0 v1 v2 v3 v4 v5 v6 v7 v8 v9 u v11 v12 := by
 obtain ⟨l, f, c0, c1, c2, c3, c4, c5, c6, c7, c8, c9, c10, c11, c12⟩ := h
 exact ⟨by simpa using l, fun o => by simp [f], by simp [c0, go_sem], by simp [c1, go_sem], by simp [c2, go_sem], by simp [c3, go_sem], by simp [c4, go_sem], by simp [c5, go_sem], by simp [c6, go_sem], by simp [c7, go_sem], by simp [c8, go_sem], by simp [c9, go_sem], by simp [c10, go_sem], by simp [c11, go_sem], by simp [c12, go_sem]⟩
theorem SB.put11 (h : SB w b v0 v1 v2 v3 v4 v5 v6 v7 v8 v9 v10 v11 v12) (u : Value) : SB (w.setCell ⟨b, 11, none⟩ u) b v0 v1 v2 v3 v4 v5 v6 v7 v8 v9 v10 u v12 := by
 obtain ⟨l, f, c0, c1, c2, c3, c4, c5, c6, c7, c8, c9, c10, c11, c12⟩ := h
 exact ⟨by simpa using l, fun o => by simp [f], by simp [c0, go_sem], by simp [c1, go_sem], by simp [c2, go_sem], by simp [c3, go_sem], by simp [c4, go_sem], by simp [c5, go_sem], by simp [c6, go_sem], by simp [c7, go_sem], by simp [c8, go_sem], by simp [c9, go_sem], by simp [c10, go_sem], by simp [c11, go_sem], by simp [c12, go_sem]⟩
theorem SB.put12 (h : SB w b v0 v1 v2 v3 v4 v5 v6 v7 v8 v9 v10 v11 v12) (u : Value) : SB (w.setCell ⟨b, 12, none⟩ u) b v0 v1 v2 v3 v4 v5 v6 v7 v8 v9 v10 v11 u := by
 obtain ⟨l, f, c0, c1, c2, c3, c4, c5, c6, c7, c8, c9, c10, c11, c12⟩ := h
 exact ⟨by simpa using l, fun o => by simp [f], by simp [c0, go_sem], by simp [c1, go_sem], by simp [c2, go_sem], by simp [c3, go_sem], by simp [c4, go_sem], by simp [c5, go_sem], by simp [c6, go_sem], by simp [c7, go_sem], by simp [c8, go_sem], by simp [c9, go_sem], by simp [c10, go_sem], by simp [c11, go_sem], by simp [c12, go_sem]⟩
theorem SB.there (h : SB w b v0 v1 v2 v3 v4 v5 v6 v7 v8 v9 v10 v11 v12) : w.there b 0 13 := by
 obtain ⟨l, f, c0, c1, c2, c3, c4, c5, c6, c7, c8, c9, c10, c11, c12⟩ := h
 intro j hj
 rcases (show j = 0 ∨ j = 1 ∨ j = 2 ∨ j = 3 ∨ j = 4 ∨ j = 5 ∨ j = 6 ∨ j = 7 ∨ j = 8 ∨ j = 9 ∨ j = 10 ∨ j = 11 ∨ j = 12 by omega) with rfl | rfl | rfl | rfl | rfl | rfl | rfl | rfl | rfl | rfl | rfl | rfl | rfl
 all_goals exact ⟨by simp [c0, c1, c2, c3, c4, c5, c6, c7, c8, c9, c10, c11, c12], f _⟩
end
def zeroV : TValue := .mk 0 0 0 ByteArray.empty 0 0
theorem zero_own (w : World) : Dat.OwnVals w [] zeroV.D [.int .i64 0, .int .i64 0, .int .i64 0, .string ByteArray.empty, .int .i64 0, .int .i64 0] := by
 have h0 : InI 0 := by unfold InI; omega
 exact TValue.own_mk h0 h0 h0 (by unfold maxLen; decide) h0 h0
theorem infoVal : (Tryz.prog.info? 59).map (fun i => (i.zero, i.size, i.bytes)) = some (some (.agg #[.int .i64 0, .int .i64 0, .int .i64 0, .string ByteArray.empty, .int .i64 0, .int .i64 0]), 6, 56) := by kernel_rfl
theorem zero_rows {w : World} {b : Nat} : ∀ (m o : Nat), (∀ j, j < m * 6 → w.cell? ⟨b, o + j, none⟩ = [Value.int .i64 0, .int .i64 0, .int .i64 0, .string ByteArray.empty, .int .i64 0, .int .i64 0][j % 6]?) → Dat.OwnRows w 6 b o [] ((List.replicate m zeroV).map TValue.D)
 | 0, _, _ => by simp [Dat.OwnRows]
 | m + 1, o, h => by
  rw [List.replicate_succ, List.map_cons]
  refine ⟨[], [], rfl, Dat.OwnCells.of_vals (zero_own w) (fun j hj => ?_), by simp [zeroV, TValue.D_mk], zero_rows m (o + 6) (fun j hj => ?_)⟩
  ·
   have h1 := h j (by simp at hj; omega)
   rw [Nat.mod_eq_of_lt (by simpa using hj)] at h1
   exact h1
  ·
   have h1 := h (6 + j) (by omega)
   rw [show (6 + j) % 6 = j % 6 by omega, show o + (6 + j) = o + 6 + j by omega] at h1
   exact h1
theorem zero_make (m : Nat) (hm : m ≤ 1048576) : ∃ cur : Array Value, (∀ (w : World) (t : TypeId), ∃ L, OwnRow (w.alloc (.cells cur t)) L 6 (some ⟨w.heap.size, 0, none⟩) m ((List.replicate m zeroV).map TValue.D) ∧ L.Nodup ∧ ∀ x, x ∈ L → x = w.heap.size) ∧
  ∀ w, (Instr.makeSlice 30 (.int .i64 (m : Int)) (.int .i64 (m : Int))).run Tryz.prog w = .ok (.slice (some ⟨w.heap.size, 0, none⟩) m m) (w.alloc (.cells cur 59)) := by
 obtain ⟨iv, hiv, zv0, zv1, zv2⟩ := info_parts infoVal
 refine ⟨madeCells (#[.int .i64 0, .int .i64 0, .int .i64 0, .string ByteArray.empty, .int .i64 0, .int .i64 0] : Array Value) (m * 6), fun w t => ?_, fun w => ?_⟩
 ·
  rcases Nat.eq_zero_or_pos m with h0 | h0
  ·
   subst h0
   exact ⟨[], OwnRow.nil _ _ _ _ (by unfold maxLen; omega), List.nodup_nil, fun x hx => by cases hx⟩
  ·
   refine ⟨[w.heap.size], ⟨by simp, by unfold maxLen; omega, Or.inr ⟨by intro h; have := congrArg List.length h; simp at this; omega, w.heap.size, 0, [], rfl, by simp, fun i => by simp, rfl, zero_rows m 0 (fun j hj => ?_)⟩⟩, by simp, fun x hx => by simpa using hx⟩
   rw [Nat.zero_add]
   unfold World.cell?
   show (match (w.alloc _).heap[w.heap.size]? with | some (.cells c _ _) => _ | _ => _) = _
   rw [heap_alloc_new]
   have hj6 : j % 6 < 6 := Nat.mod_lt _ (by decide)
   simp only [madeCells]
   simp [hj]
   generalize j % 6 = r at hj6 ⊢
   rcases (show r = 0 ∨ r = 1 ∨ r = 2 ∨ r = 3 ∨ r = 4 ∨ r = 5 by omega) with rfl | rfl | rfl | rfl | rfl | rfl <;> rfl
 ·
  have hr := run_make (P := Tryz.prog) w 30 59 iv _ Tryz.underlying30 hiv zv0 .i64 .i64 (m : Int) (m : Int) (by omega) (Int.le_refl _) (by rw [zv2]; omega) (by omega)
  rw [zv1] at hr
  simp only [Int.toNat_natCast] at hr
  exact hr
theorem store_fin {wx : World} {r : Nat} {u0 u1 u2 u3 u4 u5 u6 u7 u8 u9 u10 u11 u12 : Value} {nm : List ByteArray} {recs : List TRecordType} {gl : List TValue} {ng : Nat} {tr : Bool} {bud : Int} {A0 A1 A3 : Option Addr} {c0 c1 c3 : Nat} {L0 L1 L3 : List Nat}
  (hng : ng = gl.length) (hs : SB wx r u0 u1 u2 u3 u4 u5 u6 u7 u8 u9 u10 u11 u12) (h0 : OwnRow wx L0 1 A0 c0 (nm.map (fun x => [Dat.str x]))) (h1 : OwnRow wx L1 3 A1 c1 (recs.map TRecordType.D)) (h3 : OwnRow wx L3 6 A3 c3 (gl.map TValue.D)) (hb : InI bud)
  (n0 : L0.Nodup) (n1 : L1.Nodup) (n3 : L3.Nodup) (d01 : ∀ x, x ∈ L0 → x ∉ L1) (d03 : ∀ x, x ∈ L0 → x ∉ L3) (d13 : ∀ x, x ∈ L1 → x ∉ L3) (hr : ∀ x, x ∈ L0 ∨ x ∈ L1 ∨ x ∈ L3 → x ≠ r) :
  ∀ wz, wz = (((((((((((((wx.setCell ⟨r, 0, none⟩ (.slice A0 nm.length c0)).setCell ⟨r, 1, none⟩ (.slice A1 recs.length c1)).setCell ⟨r, 2, none⟩ (.slice none 0 0)).setCell ⟨r, 3, none⟩ (.slice A3 ng c3)).setCell ⟨r, 4, none⟩ (.string ByteArray.empty)).setCell ⟨r, 5, none⟩ (.int .i64 1)).setCell ⟨r, 6, none⟩ (.slice none 0 0)).setCell ⟨r, 7, none⟩ (.slice none 0 0)).setCell ⟨r, 8, none⟩ (.slice none 0 0)).setCell ⟨r, 9, none⟩ (.bool tr)).setCell ⟨r, 10, none⟩ (.int .i64 0)).setCell ⟨r, 11, none⟩ (.int .i64 bud)).setCell ⟨r, 12, none⟩ (.int .i64 0)) →
   SB wz r (.slice A0 nm.length c0) (.slice A1 recs.length c1) (.slice none 0 0) (.slice A3 ng c3) (.string ByteArray.empty) (.int .i64 1) (.slice none 0 0) (.slice none 0 0) (.slice none 0 0) (.bool tr) (.int .i64 0) (.int .i64 bud) (.int .i64 0) ∧ Dat.OwnVals wz (L0 ++ (L1 ++ ([] ++ (L3 ++ ([] ++ ([] ++ [])))))) (TStore.mk nm recs [] gl ByteArray.empty 1 [] [] [] tr 0 bud 0).D [.slice A0 nm.length c0, .slice A1 recs.length c1, .slice none 0 0, .slice A3 ng c3, .string ByteArray.empty, .int .i64 1, .slice none 0 0, .slice none 0 0, .slice none 0 0, .bool tr, .int .i64 0, .int .i64 bud, .int .i64 0] ∧ (L0 ++ (L1 ++ ([] ++ (L3 ++ ([] ++ ([] ++ [])))))).Nodup ∧ (∀ w0 : World, Bel w0 wx → w0.heap.size ≤ r → Bel w0 wz) := by
 subst hng
 intro wz hwz
 have hsz : wz.heap.size = wx.heap.size := by rw [hwz]; simp
 have hsame : ∀ y, r ≠ y → wz.heap[y]? = wx.heap[y]? := fun y hy => by
  rw [hwz, set_block 12 _ hy, set_block 11 _ hy, set_block 10 _ hy, set_block 9 _ hy, set_block 8 _ hy, set_block 7 _ hy, set_block 6 _ hy, set_block 5 _ hy, set_block 4 _ hy, set_block 3 _ hy, set_block 2 _ hy, set_block 1 _ hy, set_block 0 _ hy]
 have keep : ∀ L : List Nat, (∀ x, x ∈ L → x ≠ r) → ∀ x, x ∈ L → SameB wx wz x := fun L hL x hx => by
  have e := hsame x (fun q => hL x hx q.symm)
  exact ⟨fun o => World.cell?_of_block e, fun o => World.frozen?_of_block e⟩
 refine ⟨by rw [hwz]; exact (((((((((((((hs.put0 _).put1 _).put2 _).put3 _).put4 _).put5 _).put6 _).put7 _).put8 _).put9 _).put10 _).put11 _).put12 _), ?_, ?_, ?_⟩
 ·
  have i0 : InI 0 := by unfold InI; omega
  have i1 : InI 1 := by unfold InI; omega
  have nl : ∀ k, OwnRow wz [] k none 0 [] := fun k => OwnRow.nil _ _ _ _ (by unfold maxLen; omega)
  exact TStore.own_mk (x2 := []) (x6 := []) (x7 := []) (x8 := []) (h0.keep (by omega) (keep L0 (fun x hx => hr x (Or.inl hx)))) (h1.keep (by omega) (keep L1 (fun x hx => hr x (Or.inr (Or.inl hx))))) (nl _) (h3.keep (by omega) (keep L3 (fun x hx => hr x (Or.inr (Or.inr hx))))) (by unfold maxLen; decide) i1 (nl _) (nl _) (nl _) i0 hb i0
 ·
  simp only [List.nil_append, List.append_nil]
  refine nodup_app n0 (nodup_app n1 n3 d13) (fun x hx hm => ?_)
  rcases List.mem_append.1 hm with hm | hm
  ·
   exact d01 x hx hm
  ·
   exact d03 x hx hm
 ·
  intro w0 hB hr0
  rw [hwz]
  exact (Below.setCell (Below.setCell (Below.setCell (Below.setCell (Below.setCell (Below.setCell (Below.setCell (Below.setCell (Below.setCell (Below.setCell (Below.setCell (Below.setCell (Below.setCell hB hr0 _) hr0 _) hr0 _) hr0 _) hr0 _) hr0 _) hr0 _) hr0 _) hr0 _) hr0 _) hr0 _) hr0 _) hr0 _)
theorem nil_own (w : World) : Dat.OwnVals w ([] ++ ([] ++ ([] ++ ([] ++ ([] ++ ([] ++ [])))))) (TStore.mk [] [] [] [] ByteArray.empty 0 [] [] [] false 0 0 0).D [.slice none 0 0, .slice none 0 0, .slice none 0 0, .slice none 0 0, .string ByteArray.empty, .int .i64 0, .slice none 0 0, .slice none 0 0, .slice none 0 0, .bool false, .int .i64 0, .int .i64 0, .int .i64 0] := by
 have i0 : InI 0 := by unfold InI; omega
 have nl : ∀ k, OwnRow w [] k none 0 [] := fun k => OwnRow.nil _ _ _ _ (by unfold maxLen; omega)
 exact TStore.own_mk (x0 := []) (x1 := []) (x2 := []) (x3 := []) (x6 := []) (x7 := []) (x8 := []) (nl _) (nl _) (nl _) (nl _) (by unfold maxLen; decide) i0 (nl _) (nl _) (nl _) i0 i0 i0
set_option maxHeartbeats 2000000 in
theorem implNewSt_any (nm : List ByteArray) (recs : List TRecordType) (m : Nat) (bud : Int) (tr : Bool) (S : Nat → Prop) (w : World) (A0 A : Option Addr) (c0 c : Nat) (LN : List Nat) (h0 : OwnRow w LN 1 A0 c0 (nm.map (fun x => [Dat.str x]))) (n0 : LN.Nodup) (hR : Row w S 3 A c (recs.map TRecordType.D)) (hx : recs.length ≤ 1048576) (hf : ∀ (k : Nat) (h : k < recs.length), recs[k].fl.length ≤ 1048576) (hm : m ≤ 1048576) (hb : InI bud) :
  Calls Tryz.prog 23 #[.slice A0 nm.length c0, .slice A recs.length c, .int .i64 m, .int .i64 bud, .bool tr] w fun e w' => ∃ A1 c1 A3 c3 L, e = .returned (.agg #[.slice A0 nm.length c0, .slice A1 recs.length c1, .slice none 0 0, .slice A3 m c3, .string ByteArray.empty, .int .i64 1, .slice none 0 0, .slice none 0 0, .slice none 0 0, .bool tr, .int .i64 0, .int .i64 bud, .int .i64 0]) ∧
   Dat.OwnVals w' (LN ++ L) (TStore.mk nm recs [] (List.replicate m zeroV) ByteArray.empty 1 [] [] [] tr 0 bud 0).D [.slice A0 nm.length c0, .slice A1 recs.length c1, .slice none 0 0, .slice A3 m c3, .string ByteArray.empty, .int .i64 1, .slice none 0 0, .slice none 0 0, .slice none 0 0, .bool tr, .int .i64 0, .int .i64 bud, .int .i64 0] ∧ (LN ++ L).Nodup ∧ (∀ x, x ∈ L → w.heap.size ≤ x) ∧ Bel w w' := by
 have H0 := hide h0
 have N0 := hide n0
 have HR := hide hR
 have HF := hide hf
 have HB := hide hb
 have HLN := hide (show ∀ x, x ∈ LN → x < w.heap.size from h0.lt)
 clear h0 n0 hR hf hb
 obtain ⟨cur, hcur, hmk⟩ := zero_make m hm
 have HCU := hide hcur
 clear hcur
 go_enter Tryz.func23, Tryz.ntmps23
 go_upto_region 1 with (fail)
 refine wp_named2 fun w1 hw1 => ?_
 have hb1 : Bel w w1 := by rw [← hw1]; exact bl
 have R1 := hide (show SB w1 w.heap.size (.slice none 0 0) (.slice none 0 0) (.slice none 0 0) (.slice none 0 0) (.string ByteArray.empty) (.int .i64 0) (.slice none 0 0) (.slice none 0 0) (.slice none 0 0) (.bool false) (.int .i64 0) (.int .i64 0) (.int .i64 0) from by rw [← hw1]; exact SB.new _ _)
 have hz1 : w.heap.size < w1.heap.size := R1.out.1
 clear hw1
 refine wp_region_held_drew (S := fun _ => True) (by kernel_rfl) trivial (fun hHeld => ?_)
 refine tkI 0 ?_
 refine tkI 1 ?_
 refine tkI 3 ?_
 refine tkI 5 ?_
 refine tkI 6 ?_
 refine wpAnyH_ready (rs := [2, 4]) (by kernel_rfl) (by simp) ?_
 refine AllReadyH.cons (o := _) rfl (fun K hK => ?_) (AllReadyH.cons (o := _) rfl (fun K hK => ?_) (AllReadyH.nil))
 ·
  skip
  go_simp
  go_at_call 58
  have hbk2 : Bel w w1.drew := bl
  refine (implRecs_any recs S _ A c (Row.bel hbk2 HR.out) hx HF.out).mono ?_
  rintro e w2 ⟨vR, LR0, rfl, hOR, hBR, hb2⟩
  obtain ⟨A1, c1, L1, rfl, hr1, n1, hm1⟩ := hOR.ownRow
  simp only [List.length_map] at hm1 hBR ⊢
  have H1 := hide hr1
  have N1 := hide n1
  have HL1 := hide (show ∀ x, x ∈ L1 → w1.drew.heap.size ≤ x ∧ x < w2.heap.size from fun x hx => ⟨hBR x (hm1 x hx), hr1.lt x hx⟩)
  clear hOR hBR hr1 n1 hm1
  refine hK.out _ _ trivial (fun hHeld => ?_)
  clear hK K
  (try simp only [Act.put, List.setIfInBounds_toArray, List.set_cons_zero, List.set_cons_succ, List.getElem_toArray, List.getElem_cons_zero, List.getElem_cons_succ])
  have hzd : w1.drew.heap.size = w1.heap.size := rfl
  have hz2 := hb2.size
  refine wpAnyH_ready (rs := [4]) (by kernel_rfl) (by simp) ?_
  refine AllReadyH.cons (o := _) rfl (fun K hK => ?_) (AllReadyH.nil)
  go_simp
  obtain ⟨L3, hr3, n3, hm3⟩ := HCU.out w2 59
  have H3 := hide hr3
  have N3 := hide n3
  have HL3 := hide hm3
  clear hr3 n3 hm3
  refine hK.out _ _ trivial (fun hHeld => ?_)
  clear hK K
  (try simp only [Act.put, List.setIfInBounds_toArray, List.set_cons_zero, List.set_cons_succ, List.getElem_toArray, List.getElem_cons_zero, List.getElem_cons_succ])
  refine tkI 7 ?_
  refine wpAnyH_ready (rs := [8]) (by kernel_rfl) (by simp) ?_
  refine AllReadyH.cons (o := _) rfl (fun K hK => ?_) (AllReadyH.nil)
  have hbx : Bel w1 (w2.alloc (.cells cur 59)) := bl
  have hbx0 := Bel.trans hb1 hbx
  have hzx := hbx.size
  have HFI := hide (store_fin (gl := List.replicate m zeroV) (ng := m) (tr := tr) (by rw [List.length_replicate]) (R1.out.on hbx) (H0.out.bel hbx0) (H1.out.bel bl) (H3.out.bel bl) HB.out N0.out N1.out N3.out (fun x hx hm => by have h1 := HLN.out x hx; have h2 := HL1.out x hm; omega) (fun x hx hm => by have h1 := HLN.out x hx; have h2 := HL3.out x hm; omega) (fun x hx hm => by have h1 := HL1.out x hx; have h2 := HL3.out x hm; omega) (fun x hx => by rcases hx with hx | hx | hx; (have := HLN.out x hx; omega); (have := HL1.out x hx; omega); (have := HL3.out x hx; omega)))
  refine wp_store_mid 33 (.tmp 10) (.tmp 18) rfl w.heap.size 0 _ rfl rfl (R1.out.on hbx).there (by kernel_rfl) (by simp [Value.oneCell']) ?_
  refine k_named fun wz hwz => ?_
  obtain ⟨SZ, OZ, NZ, BZ⟩ := HFI.out wz hwz
  have HBZ := hide (BZ w hbx0 (Nat.le_refl _))
  obtain ⟨-, -, d0, d1, d2, d3, d4, d5, d6, d7, d8, d9, d10, d11, d12⟩ := SZ
  clear HFI hwz BZ
  refine hK.out _ _ trivial (fun hHeld => ?_)
  clear hK K
  (try simp only [Act.put, List.setIfInBounds_toArray, List.set_cons_zero, List.set_cons_succ, List.getElem_toArray, List.getElem_cons_zero, List.getElem_cons_succ])
  refine wpAnyH_done (by kernel_rfl) ?_ _
  clear hHeld
  go_wp2_with (fail)
  exact bodyPost_ret (v := .agg #[.slice A0 nm.length c0, .slice A1 recs.length c1, .slice none 0 0, .slice (some ⟨w2.heap.size, 0, none⟩) m m, .string ByteArray.empty, .int .i64 1, .slice none 0 0, .slice none 0 0, .slice none 0 0, .bool tr, .int .i64 0, .int .i64 bud, .int .i64 0]) (by simp [results, Tryz.results23, d0, d1, d2, d3, d4, d5, d6, d7, d8, d9, d10, d11, d12, go_sem]; try rfl) rfl ⟨A1, c1, _, _, _, rfl, OZ, NZ, fun x hx => (by simp only [List.nil_append, List.append_nil] at hx; rcases List.mem_append.1 hx with hx | hx; (have := HL1.out x hx; omega); (have := HL3.out x hx; omega)), HBZ.out⟩
 ·
  skip
  go_simp
  obtain ⟨L3, hr3, n3, hm3⟩ := HCU.out w1 59
  have H3 := hide hr3
  have N3 := hide n3
  have HL3 := hide hm3
  clear hr3 n3 hm3
  refine hK.out _ _ trivial (fun hHeld => ?_)
  clear hK K
  (try simp only [Act.put, List.setIfInBounds_toArray, List.set_cons_zero, List.set_cons_succ, List.getElem_toArray, List.getElem_cons_zero, List.getElem_cons_succ])
  refine wpAnyH_ready (rs := [2]) (by kernel_rfl) (by simp) ?_
  refine AllReadyH.cons (o := _) rfl (fun K hK => ?_) (AllReadyH.nil)
  go_simp
  go_at_call 58
  have hbk2 : Bel w (w1.alloc (.cells cur 59)).drew := bl
  refine (implRecs_any recs S _ A c (Row.bel hbk2 HR.out) hx HF.out).mono ?_
  rintro e w2 ⟨vR, LR0, rfl, hOR, hBR, hb2⟩
  obtain ⟨A1, c1, L1, rfl, hr1, n1, hm1⟩ := hOR.ownRow
  simp only [List.length_map] at hm1 hBR ⊢
  have H1 := hide hr1
  have N1 := hide n1
  have HL1 := hide (show ∀ x, x ∈ L1 → (w1.alloc (.cells cur 59)).drew.heap.size ≤ x ∧ x < w2.heap.size from fun x hx => ⟨hBR x (hm1 x hx), hr1.lt x hx⟩)
  clear hOR hBR hr1 n1 hm1
  refine hK.out _ _ trivial (fun hHeld => ?_)
  clear hK K
  (try simp only [Act.put, List.setIfInBounds_toArray, List.set_cons_zero, List.set_cons_succ, List.getElem_toArray, List.getElem_cons_zero, List.getElem_cons_succ])
  have hzd : (w1.alloc (.cells cur 59)).drew.heap.size = w1.heap.size + 1 := by simp
  have hz2 := hb2.size
  have hzd2 : w1.drew.heap.size = w1.heap.size := rfl
  refine tkI 7 ?_
  refine wpAnyH_ready (rs := [8]) (by kernel_rfl) (by simp) ?_
  refine AllReadyH.cons (o := _) rfl (fun K hK => ?_) (AllReadyH.nil)
  have hbx : Bel w1 w2 := bl
  have hbx0 := Bel.trans hb1 hbx
  have hzx := hbx.size
  have HFI := hide (store_fin (gl := List.replicate m zeroV) (ng := m) (tr := tr) (by rw [List.length_replicate]) (R1.out.on hbx) (H0.out.bel hbx0) (H1.out.bel bl) (H3.out.bel (Bel.trans (Bel.drew (Bel.refl _)) hb2)) HB.out N0.out N1.out N3.out (fun x hx hm => by have h1 := HLN.out x hx; have h2 := HL1.out x hm; omega) (fun x hx hm => by have h1 := HLN.out x hx; have h2 := HL3.out x hm; omega) (fun x hx hm => by have h1 := HL1.out x hx; have h2 := HL3.out x hm; omega) (fun x hx => by rcases hx with hx | hx | hx; (have := HLN.out x hx; omega); (have := HL1.out x hx; omega); (have := HL3.out x hx; omega)))
  refine wp_store_mid 33 (.tmp 10) (.tmp 18) rfl w.heap.size 0 _ rfl rfl (R1.out.on hbx).there (by kernel_rfl) (by simp [Value.oneCell']) ?_
  refine k_named fun wz hwz => ?_
  obtain ⟨SZ, OZ, NZ, BZ⟩ := HFI.out wz hwz
  have HBZ := hide (BZ w hbx0 (Nat.le_refl _))
  obtain ⟨-, -, d0, d1, d2, d3, d4, d5, d6, d7, d8, d9, d10, d11, d12⟩ := SZ
  clear HFI hwz BZ
  refine hK.out _ _ trivial (fun hHeld => ?_)
  clear hK K
  (try simp only [Act.put, List.setIfInBounds_toArray, List.set_cons_zero, List.set_cons_succ, List.getElem_toArray, List.getElem_cons_zero, List.getElem_cons_succ])
  refine wpAnyH_done (by kernel_rfl) ?_ _
  clear hHeld
  go_wp2_with (fail)
  exact bodyPost_ret (v := .agg #[.slice A0 nm.length c0, .slice A1 recs.length c1, .slice none 0 0, .slice (some ⟨w1.heap.size, 0, none⟩) m m, .string ByteArray.empty, .int .i64 1, .slice none 0 0, .slice none 0 0, .slice none 0 0, .bool tr, .int .i64 0, .int .i64 bud, .int .i64 0]) (by simp [results, Tryz.results23, d0, d1, d2, d3, d4, d5, d6, d7, d8, d9, d10, d11, d12, go_sem]; try rfl) rfl ⟨A1, c1, _, _, _, rfl, OZ, NZ, fun x hx => (by simp only [List.nil_append, List.append_nil] at hx; rcases List.mem_append.1 hx with hx | hx; (have := HL1.out x hx; omega); (have := HL3.out x hx; omega)), HBZ.out⟩
end Go.Proofs.YtgofbnmablgedaaGreatDoor
namespace Go.Proofs.YtgofbnmablgedaaGreatDoor
set_option linter.unusedVariables false
set_option linter.unusedSimpArgs false
set_option maxRecDepth 100000
open Go.RowKit
def newS : TProgram → Int → Bool → TStore
 | .mk rs recs gl _, b, tr => .mk (rs.map TRoutine.nm) recs [] (List.replicate gl.length zeroV) ByteArray.empty 1 [] [] [] tr 0 b 0
def nilS : TStore := .mk [] [] [] [] ByteArray.empty 0 [] [] [] false 0 0 0
def newOk (p : TProgram) (b : Int) : Bool := progB p && (decide (0 ≤ b) && decide (b ≤ 4000))
def newT (p : TProgram) (b : Int) (tr : Bool) : TStore := if newOk p b = true then newS p b tr else nilS
theorem names_wt : ∀ rs : List TRoutine, Dat.wtR ((rs.map TRoutine.nm).map (fun x => [Dat.str x])) ≤ Dat.wtR (rs.map TRoutine.D)
 | [] => Nat.le_refl _
 | x :: r => by
  have h := names_wt r
  obtain ⟨x0, x1, x2, x3, x4, x5, x6, x7, x8⟩ := x
  simp only [List.map_cons, Dat.wtR, Dat.wtL, Dat.wt, TRoutine.nm, TRoutine.D_mk] at h ⊢
  omega
theorem zeros_wt : ∀ n : Nat, Dat.wtR ((List.replicate n zeroV).map TValue.D) = 0
 | 0 => rfl
 | n + 1 => by
  have h := zeros_wt n
  simp only [List.replicate_succ, List.map_cons, Dat.wtR]
  rw [h]
  simp [zeroV, TValue.D_mk, Dat.wtL, Dat.wt]
theorem newT_wt (p : TProgram) (b : Int) (tr : Bool) : Dat.wtL (newT p b tr).D ≤ Dat.wtL p.D := by
 unfold newT
 split
 ·
  obtain ⟨rs, recs, gl, mn⟩ := p
  have h1 := names_wt rs
  have h2 := zeros_wt gl.length
  simp only [newS, TStore.D_mk, TProgram.D_mk, Dat.wtL, Dat.wt, List.length_map, List.length_replicate, List.map_nil, List.length_nil, Dat.wtR]
  simp only [List.map_map] at h1 ⊢
  simp only [h2]
  simp
  omega
 ·
  simp [nilS, TStore.D_mk, Dat.wtL, Dat.wt, Dat.wtR]
def NewPost (w : World) (p : TProgram) (b : Int) (tr : Bool) (e : Ending) (w' : World) : Prop :=
 ∃ us L, e = .returned (.tuple #[.agg us.toArray, .bool (newOk p b)]) ∧ Dat.OwnVals w' L (newT p b tr).D us ∧ L.Nodup ∧ (∀ x, x ∈ L → w.heap.size ≤ x) ∧ Bel w w'
abbrev NewC (f : FuncId) : Prop := ∀ (p : TProgram) (b : Int) (tr : Bool) (S : Nat → Prop) (w : World) (vs : List Value), Sp w → Dat.HoldVals w S p.D vs → Dat.wtL p.D ≤ 1048576 → InI b →
 Calls Tryz.prog f #[.agg vs.toArray, .int .i64 b, .bool tr] w (NewPost w p b tr)
theorem prog_parts {R : List TRoutine} {C : List TRecordType} {G : List ByteArray} {mn : Int} (h : progB (.mk R C G mn) = true) : R.length ≤ 12 ∧ C.length ≤ 8 ∧ G.length ≤ 12 ∧ ∀ (k : Nat) (h : k < C.length), C[k].fl.length ≤ 1048576 := by
 simp only [progB, Bool.and_eq_true, decide_eq_true_eq] at h
 have hc : C.all recB = true := by simp only [h]
 refine ⟨by omega, by omega, by omega, fun k hk => ?_⟩
 have h2 := List.all_eq_true.1 hc _ (List.getElem_mem hk)
 generalize C[k] = x at h2 ⊢
 obtain ⟨n, f, l⟩ := x
 simp only [recB, Bool.and_eq_true, decide_eq_true_eq, TRecordType.fields] at h2
 have h3 : f.length ≤ 6 := of_decide_eq_true h2.1.1.2
 show f.length ≤ _
 omega
theorem newOk_no {p : TProgram} {b : Int} (h : progB p = false ∨ b < 0 ∨ 4000 < b) : newOk p b = false := by
 unfold newOk
 rcases h with h | h | h
 ·
  rw [h]; rfl
 ·
  rw [decide_eq_false (show ¬ 0 ≤ b by omega)]; simp
 ·
  rw [decide_eq_false (show ¬ b ≤ 4000 by omega)]; simp
theorem newOk_yes {p : TProgram} {b : Int} (h : progB p = true) (h0 : 0 ≤ b) (h1 : b ≤ 4000) : newOk p b = true := by
 unfold newOk
 rw [h, decide_eq_true h0, decide_eq_true h1]; rfl
theorem store13 {wx : World} {r : Nat} {u0 u1 u2 u3 u4 u5 u6 u7 u8 u9 u10 u11 u12 v0 v1 v2 v3 v4 v5 v6 v7 v8 v9 v10 v11 v12 : Value} {L : List Nat} {D : List Dat} (hs : SB wx r u0 u1 u2 u3 u4 u5 u6 u7 u8 u9 u10 u11 u12) (hO : Dat.OwnVals wx L D [v0, v1, v2, v3, v4, v5, v6, v7, v8, v9, v10, v11, v12]) (hr : ∀ x, x ∈ L → x ≠ r) :
  ∀ wz, wz = (((((((((((((wx.setCell ⟨r, 0, none⟩ v0).setCell ⟨r, 1, none⟩ v1).setCell ⟨r, 2, none⟩ v2).setCell ⟨r, 3, none⟩ v3).setCell ⟨r, 4, none⟩ v4).setCell ⟨r, 5, none⟩ v5).setCell ⟨r, 6, none⟩ v6).setCell ⟨r, 7, none⟩ v7).setCell ⟨r, 8, none⟩ v8).setCell ⟨r, 9, none⟩ v9).setCell ⟨r, 10, none⟩ v10).setCell ⟨r, 11, none⟩ v11).setCell ⟨r, 12, none⟩ v12) → SB wz r v0 v1 v2 v3 v4 v5 v6 v7 v8 v9 v10 v11 v12 ∧ Dat.OwnVals wz L D [v0, v1, v2, v3, v4, v5, v6, v7, v8, v9, v10, v11, v12] ∧ (∀ w0 : World, Bel w0 wx → w0.heap.size ≤ r → Bel w0 wz) := by
 intro wz hwz
 have hsz : wz.heap.size = wx.heap.size := by rw [hwz]; simp
 have hsame : ∀ y, r ≠ y → wz.heap[y]? = wx.heap[y]? := fun y hy => by
  rw [hwz, set_block 12 _ hy, set_block 11 _ hy, set_block 10 _ hy, set_block 9 _ hy, set_block 8 _ hy, set_block 7 _ hy, set_block 6 _ hy, set_block 5 _ hy, set_block 4 _ hy, set_block 3 _ hy, set_block 2 _ hy, set_block 1 _ hy, set_block 0 _ hy]
 refine ⟨by rw [hwz]; exact (((((((((((((hs.put0 _).put1 _).put2 _).put3 _).put4 _).put5 _).put6 _).put7 _).put8 _).put9 _).put10 _).put11 _).put12 _), Dat.OwnVals.keep (by omega) _ _ _ (fun x hx => ?_) hO, fun w0 hB hr0 => by rw [hwz]; exact (Below.setCell (Below.setCell (Below.setCell (Below.setCell (Below.setCell (Below.setCell (Below.setCell (Below.setCell (Below.setCell (Below.setCell (Below.setCell (Below.setCell (Below.setCell hB hr0 _) hr0 _) hr0 _) hr0 _) hr0 _) hr0 _) hr0 _) hr0 _) hr0 _) hr0 _) hr0 _) hr0 _) hr0 _)⟩
 have e := hsame x (fun q => hr x hx q.symm)
 exact ⟨fun o => World.cell?_of_block e, fun o => World.frozen?_of_block e⟩
theorem new_fail {w w' : World} {p : TProgram} {b : Int} {tr : Bool} (h : newOk p b = false) (hb : Bel w w') : NewPost w p b tr (.returned (.tuple #[.agg #[.slice none 0 0, .slice none 0 0, .slice none 0 0, .slice none 0 0, .string ByteArray.empty, .int .i64 0, .slice none 0 0, .slice none 0 0, .slice none 0 0, .bool false, .int .i64 0, .int .i64 0, .int .i64 0], .bool false])) w' := by
 refine ⟨_, [], by rw [h], ?_, List.nodup_nil, (fun x hx => by cases hx), hb⟩
 unfold newT
 rw [if_neg (by rw [h]; decide)]
 exact nil_own w'
end Go.Proofs.YtgofbnmablgedaaGreatDoor
