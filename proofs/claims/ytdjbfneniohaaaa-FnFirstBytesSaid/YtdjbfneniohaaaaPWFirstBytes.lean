/- The walk of FnFirstBytes. -/
import Derived.Test.YtdjbfneniohaaaaPPl
import Derived.Deep.RegionHeld3
namespace Go.Proofs.Ytdjbfneniohaaaa
set_option linter.unusedVariables false
set_option linter.unusedSimpArgs false
set_option maxRecDepth 100000
open Go.RowKit
set_option maxRecDepth 8000 in
set_option maxHeartbeats 4000000 in
theorem FnFirstBytes_walk (A : Option Addr) (n cap : Nat) (w : World) (hB : ∀ c, w.heap.size ≤ c → n ≤ 1048576 → Bts w c A n) :
  Calls Try.prog 5 #[.slice A n cap] w fun e w' => e = .returned (.bool true) ∧ Bel w w' := by
 have HB := hide hB
 clear hB
 by_cases hn : n ≤ 1048576
 case neg =>
  have hd := hide (show decide ((1048576 : Int) < (n : Int)) = true by simp; omega)
  go_enter Try.func5, Try.ntmps5
  go_wp2_with (go_at_call 7; refine (lawBig_any A n cap _).mono ?_; rintro e w1 ⟨rfl, rfl⟩; rw [hd.out])
  all_goals
   go_returns
   exact ⟨rfl, bl⟩
 have hd := hide (show decide ((1048576 : Int) < (n : Int)) = false by simp; omega)
 go_enter Try.func5, Try.ntmps5
 go_upto_region 4 with (first
   | (go_at_call 7; refine (lawBig_any A n cap _).mono ?_; rintro e w1 ⟨rfl, rfl⟩; rw [hd.out])
   | (go_at_call 8; refine (drawEndingsOf_any A n cap _ hn (fun c h => HB.out c h hn)).mono ?_; rintro e w1 ⟨ds, v, vs, L, M, ⟨x0, x1, x2, x3, x4, x5⟩, s, a, rfl, hO, hown, -, -, hl, hcs, hcn, hs, ha1, ha2, hb1⟩; obtain ⟨Av, cv, rfl, hrow⟩ := hO.row (S := fun _ => True) (fun _ _ => trivial); rw [List.length_map]; obtain ⟨A5, c5, L5, rfl, rfl, g0, g1, g2, g3, g4, -⟩ := TPattern.vals_own hown; have HROW := hide hrow; have HVAL := hide (Dat.OwnVals.vals (S := fun _ => True) (fun _ _ => trivial) hown); have Hb1 := hide hb1; have HCS := hide (show ∀ (k : Nat) (h : k < ds.length), ds[k].cnt ≤ 2000000 from fun k h => by have := hcs _ (List.getElem_mem h); omega); have HCN := hide (show TPattern.cnt (TPattern.mk x0 x1 x2 x3 x4 x5) ≤ 2000000 by omega); have hcn9 := hide hcn; have HCS9 := hide hcs; clear hO hown hrow hb1 hcs hcn))
 refine wp_namedF fun w2 hw2 => ?_
 have D2 := hide (show DrE w w2 Av cv ds w1.heap.size x0 x1 x2 x3 x4 A5 c5 x5 from (by
  have hb12 : Bel w1 w2 := by rw [← hw2]; exact bl
  exact ⟨Hb1.out.trans hb12, HROW.out.bel hb12, HVAL.out.bel hb12, by rw [← hw2]; exact PB.new _ _⟩))
 clear hw2 HROW HVAL Hb1
 generalize w1.heap.size = b at D2 ⊢
 clear w1
 have pb := D2.out.box; obtain ⟨hl2, f2, k20, k21, k22, k23, k24, k25⟩ := pb
 have HS := hide (show s.size ≤ maxLen by unfold maxLen; omega)
 have HA := hide (show InI a by unfold InI; omega)
 obtain ⟨r, hr⟩ : ∃ r, endT ds (TPattern.mk x0 x1 x2 x3 x4 x5) s a = r := ⟨_, rfl⟩
 obtain ⟨es, st, ok⟩ := r
 obtain ⟨q, hq⟩ : ∃ q, fbR (TPattern.mk x0 x1 x2 x3 x4 x5) = q := ⟨_, rfl⟩
 obtain ⟨lo, hi, any⟩ := q
 have HE := hide hr
 have HQ := hide hq
 have HF := hide (fun (h1 : any = false) (h2 : es ≠ []) => ends_first hr (by rw [hq]; exact h1) h2)
 rw [hq] at HF
 clear hr hq
 have hok : (ok != ok) = false := by simp
 have hany : (any != any) = false := by simp
 go_upto_region 5 with (go_at_call 13; refine (implFirstBytes_cnt _ _ _ _ D2.out.vals HCN.out).mono ?_; rw [HQ.out]; rintro e w3 ⟨rfl, hb3⟩; simp only; have D3 := hide (D2.out.on hb3); have pb := D3.out.box; obtain ⟨hl3, f3, k30, k31, k32, k33, k34, k35⟩ := pb)
 refine wp_namedF fun w4 hw4 => ?_
 have hb34 : Bel w3 w4 := by rw [← hw4]; exact bl
 have D4 := hide (D3.out.on hb34)
 have HB4 := hide (show B2 w4 w3.heap.size (.int .i64 lo) (.int .i64 hi) from by rw [← hw4]; exact ⟨by simp, by simp, by simp⟩)
 clear hw4 hb34 hb3 D2 D3 hl3 f3 k30 k31 k32 k33 k34 k35
 generalize w3.heap.size = b7 at HB4 ⊢
 clear w3
 have pb := D4.out.box; obtain ⟨hl4, f4, k40, k41, k42, k43, k44, k45⟩ := pb
 go_upto_region 8 with (first
   | (go_at_call 9; refine (implEnds_any ds (TPattern.mk x0 x1 x2 x3 x4 x5) s a _ _ _ _ _ _ D4.out.row D4.out.vals HS.out HA.out HCN.out HCS.out).mono ?_; rw [HE.out]; intro e w5 hm; obtain ⟨B5, d5, rfl, hr5, hb5⟩ := hm.row; clear hm; have D5 := hide (D4.out.on hb5); have HR5 := hide hr5; have pb := D5.out.box; obtain ⟨hl5, f5, k50, k51, k52, k53, k54, k55⟩ := pb; clear hr5)
   | (go_at_call 10; refine (specEnds_any ds (TPattern.mk x0 x1 x2 x3 x4 x5) s a _ _ _ _ _ _ D5.out.row D5.out.vals HS.out HA.out HCN.out HCS.out).mono ?_; rw [HE.out]; intro e w6 hm; obtain ⟨B6, d6, rfl, hr6, hb6⟩ := hm.row; clear hm; have D6 := hide (D5.out.on hb6); have HR6 := hide hr6; have pb := D6.out.box; obtain ⟨hl6, f6, k60, k61, k62, k63, k64, k65⟩ := pb; clear hr6)
   | (go_at_call 14; refine (specFirstBytes_cnt _ _ _ _ D6.out.vals HCN.out).mono ?_; rw [HQ.out]; rintro e w7 ⟨rfl, hb7⟩; simp only; have D7 := hide (D6.out.on hb7); have pb := D7.out.box; obtain ⟨hl7, f7, k70, k71, k72, k73, k74, k75⟩ := pb))
 refine wp_namedF fun w8 hw8 => ?_
 have hb78 : Bel w7 w8 := by rw [← hw8]; exact bl
 have D8 := hide (D7.out.on hb78)
 have BB := HB4.out.on (Bel.trans hb5 (Bel.trans hb6 (Bel.trans hb7 hb78)))
 obtain ⟨q0, q1, q2⟩ := BB
 generalize w7.heap.size = b15 at hw8 ⊢
 clear hw8
 have h5l := HR5.out.1
 have h5m := HR5.out.2.1
 simp only [List.length_map] at h5l
 unfold maxLen at h5m
 go_upto_region 10 with (fail)
 cases ok
 ·
  skip
  refine wp_region_held_drew (S := fun w' => w'.cell? ⟨b7, 0, none⟩ = some (.int .i64 lo) ∧ w'.cell? ⟨b7, 1, none⟩ = some (.int .i64 hi)) (by kernel_rfl) ?_ (fun hHeld => ?_)
  ·
   exact ⟨q1, q2⟩
  refine tkI 0 ?_
  refine tkI 1 ?_
  refine tkI 2 ?_
  refine tkN 3 ?_
  refine tkI 4 ?_
  refine tkI 5 ?_
  refine tkN 6 ?_
  refine tkN 7 ?_
  refine tkN 8 ?_
  refine tkI 9 ?_
  refine tkI 10 ?_
  refine tkN 11 ?_
  refine tkN 12 ?_
  refine tkN 13 ?_
  refine tkN 14 ?_
  refine tkN 15 ?_
  refine tkN 16 ?_
  refine tkN 17 ?_
  refine tkN 18 ?_
  refine tkN 19 ?_
  refine tkN 20 ?_
  refine tkN 21 ?_
  refine tkI 22 ?_
  refine tkI 23 ?_
  refine wpAnyH_done (by kernel_rfl) ?_ _
  clear hHeld
  go_wp2_with (fail)
  all_goals
   go_returns
   exact ⟨rfl, Bel.trans D8.out.bel bl⟩
 ·
  skip
  cases hay : any
  ·
   skip
   subst hay
   by_cases hes : es.length = 0
   ·
    skip
    have dz : decide ((es.length : Int) = 0) = true := decide_eq_true (by omega)
    have dz2 : ((es.length : Int) == 0) = true := by rw [beq_iff_eq]; omega
    refine wp_region_held_drew (S := fun w' => w'.cell? ⟨b7, 0, none⟩ = some (.int .i64 lo) ∧ w'.cell? ⟨b7, 1, none⟩ = some (.int .i64 hi)) (by kernel_rfl) ?_ (fun hHeld => ?_)
    ·
     exact ⟨q1, q2⟩
    refine tkI 0 ?_
    refine tkI 1 ?_
    refine tkI 2 ?_
    refine tkI 3 ?_
    refine tkI 4 ?_
    refine tkI 5 ?_
    refine tkI 6 ?_
    refine tkI 7 ?_
    refine tkI 8 ?_
    refine tkI 9 ?_
    refine tkI 10 ?_
    refine tkN 11 ?_
    refine tkN 12 ?_
    refine tkN 13 ?_
    refine tkN 14 ?_
    refine tkN 15 ?_
    refine tkN 16 ?_
    refine tkN 17 ?_
    refine tkN 18 ?_
    refine tkN 19 ?_
    refine tkN 20 ?_
    refine tkN 21 ?_
    refine tkI 22 ?_
    refine tkI 23 ?_
    refine wpAnyH_done (by kernel_rfl) ?_ _
    clear hHeld
    go_wp2_with (fail)
    all_goals
     go_returns
     exact ⟨rfl, Bel.trans D8.out.bel bl⟩
   ·
    skip
    have dz : decide ((es.length : Int) = 0) = false := decide_eq_false (by omega)
    have dz2 : ((es.length : Int) == 0) = false := beq_eq_false_iff_ne.2 (by omega)
    obtain ⟨r0, r1, r2⟩ := HF.out rfl (fun e => hes (by rw [e]; rfl))
    obtain ⟨k, rfl⟩ := Int.eq_ofNat_of_zero_le r0
    rw [Int.toNat_natCast] at r2
    have HBIT := hide r2
    have hlt : k < s.size := by omega
    have hbyte := byteAt_eq s k hlt
    have dlt : decide ((k : Int) < (s.size : Int)) = true := by simp; omega
    refine wp_region_held_drew (S := fun w' => w'.cell? ⟨b7, 0, none⟩ = some (.int .i64 lo) ∧ w'.cell? ⟨b7, 1, none⟩ = some (.int .i64 hi)) (by kernel_rfl) ?_ (fun hHeld => ?_)
    ·
     exact ⟨q1, q2⟩
    refine tkI 0 ?_
    refine tkI 1 ?_
    refine tkI 2 ?_
    refine tkI 3 ?_
    refine tkI 4 ?_
    refine tkI 5 ?_
    refine tkI 6 ?_
    refine tkI 7 ?_
    refine tkI 8 ?_
    refine tkI 9 ?_
    refine tkI 10 ?_
    refine tkI 11 ?_
    refine tkI 12 ?_
    refine tkI 13 ?_
    refine tkI 14 ?_
    refine tkI 15 ?_
    refine tkI 16 ?_
    refine tkI 17 ?_
    refine tkI 18 ?_
    refine tkI 19 ?_
    refine wpAnyH_ready (rs := [20]) (by kernel_rfl) (by simp) ?_
    refine AllReadyH.cons (o := _) rfl (fun K hK => ?_) AllReadyH.nil
    go_simp
    clear hHeld
    (try rw [hbyte])
    go_at_call 15
    refine (implHasByte_any lo hi (byteAt s k) _ (byteAt_lt s k)).mono ?_
    rintro e w9 ⟨rfl, hb9⟩
    rw [HBIT.out]
    refine hK.out _ _ ?_ (fun hHeld => ?_)
    ·
     exact ⟨(hb9.box b7 q0 0).trans q1, (hb9.box b7 q0 1).trans q2⟩
    clear hK K
    (try simp only [Act.put, List.setIfInBounds_toArray, List.set_cons_zero, List.set_cons_succ, List.getElem_toArray, List.getElem_cons_zero, List.getElem_cons_succ])
    refine tkI 21 ?_
    refine tkI 22 ?_
    refine tkI 23 ?_
    refine wpAnyH_done (by kernel_rfl) ?_ _
    clear hHeld
    go_wp2_with (fail)
    all_goals
     go_returns
     exact ⟨rfl, Bel.trans D8.out.bel bl⟩
  ·
   skip
   subst hay
   refine wp_region_held_drew (S := fun w' => w'.cell? ⟨b7, 0, none⟩ = some (.int .i64 lo) ∧ w'.cell? ⟨b7, 1, none⟩ = some (.int .i64 hi)) (by kernel_rfl) ?_ (fun hHeld => ?_)
   ·
    exact ⟨q1, q2⟩
   refine tkI 0 ?_
   refine tkI 1 ?_
   refine tkI 2 ?_
   refine tkI 3 ?_
   refine tkI 4 ?_
   refine tkI 5 ?_
   refine tkN 6 ?_
   refine tkN 7 ?_
   refine tkN 8 ?_
   refine tkI 9 ?_
   refine tkI 10 ?_
   refine tkN 11 ?_
   refine tkN 12 ?_
   refine tkN 13 ?_
   refine tkN 14 ?_
   refine tkN 15 ?_
   refine tkN 16 ?_
   refine tkN 17 ?_
   refine tkN 18 ?_
   refine tkN 19 ?_
   refine tkN 20 ?_
   refine tkN 21 ?_
   refine tkI 22 ?_
   refine tkI 23 ?_
   refine wpAnyH_done (by kernel_rfl) ?_ _
   clear hHeld
   go_wp2_with (fail)
   all_goals
    go_returns
    exact ⟨rfl, Bel.trans D8.out.bel bl⟩
end Go.Proofs.Ytdjbfneniohaaaa
