/- Draws of units: a unit and a procedure's number. -/
import Derived.Test.YtdacpljinffnaaaDoorPDx7
import Derived.Test.YtdacpljinffnaaaDoorPDx5
import Derived.Deep.MidRow
namespace Go.Proofs.YtdacpljinffnaaaDoor
set_option linter.unusedVariables false
set_option linter.unusedSimpArgs false
set_option maxRecDepth 100000
open Go.RowKit
set_option maxHeartbeats 4000000 in
theorem l9Unit_any (c : Nat) (A : Option Addr) (n cap : Nat) (w : World) (hc : Cur w c A n cap) : Calls Tryd.prog 11 #[.pointer (some ⟨c, 0, none⟩)] w (UnitQ w c A n cap) := by
 have HC := hide hc
 have hlt := hc.1
 have hne : w.heap.size ≠ c := by omega
 clear hc
 go_enter Tryd.func11, Tryd.ntmps11
 go_upto_region 2 with (go_at_call 24; refine (l7Unit_any c A n cap _ (HC.out.bel bl)).mono ?_; rintro e w1 ⟨t, x0, x1, x2, rfl, hv, hwt, hC1, hO1⟩; have HV := hide hv; have HWT := hide hwt; have HC1 := hide hC1; have hsz := hO1.size; rw [World.size_alloc] at hsz; have R1 := hide (TB.oth (TB.new w 28 (v0 := .slice none 0 0) (v1 := .slice none 0 0) (v2 := .slice none 0 0)) hO1 hne); have HO1 := hide (Oth.trans (Oth.of_bel (c := c) (w := w) bl) hO1); clear hv hwt hC1 hO1; obtain ⟨A0, n0, c0, A1, n1, c1, A2, n2, c2, rfl, rfl, rfl⟩ := unit_slices HV.out)
 refine wp_namedF fun w2 hw2 => ?_
 have hb2 : Bel w1 w2 := by rw [← hw2]; exact bl
 have hcw1 : c < w1.heap.size := by omega
 have T2 := hide (show U9 w w2 c A n cap w1.heap.size (.slice A0 n0 c0) (.slice A1 n1 c1) (.slice A2 n2 c2) t.D [.slice A0 n0 c0, .slice A1 n1 c1, .slice A2 n2 c2] from ⟨by rw [← hw2]; first | exact TB.new _ _ | exact (((TB.new _ _).put0 _).put1 _).put2 _, R1.out.on hb2, HC1.out.bel hb2, HO1.out.trans (Oth.of_bel hb2), Dat.HoldVals.wide (fun k hk => by have h1 := hk.1; rw [World.size_alloc] at h1; exact ⟨by omega, by have := hk.2.2; omega, hk.2.1⟩) (Dat.HoldVals.bel hb2 HV.out)⟩)
 have hwb : w.heap.size < w1.heap.size := by omega
 have hbc : w1.heap.size ≠ c := by omega
 clear hw2 hb2 HV HC1 R1 HO1 hsz hcw1
 generalize w1.heap.size = b at T2 hwb hbc ⊢
 clear w1
 go_upto_if 8 with (go_at_call 25; refine (l1Once_any 2 c A n cap _ T2.out.cur (by unfold InI; omega)).mono ?_; rintro e w3 ⟨q, rfl, hC3, hO3⟩; have T3 := hide (T2.out.on hlt hbc hO3 hC3); clear hC3 hO3)
 go_cut [] from 5 (fun wx => ∃ v0 v1 v2 t, U9 w wx c A n cap b v0 v1 v2 (TUnit.D t) [v0, v1, v2] ∧ Dat.wtL (TUnit.D t) ≤ 1000000)
 case first =>
  cases q
  ·
   go_wp2_with (fail)
   all_goals go_meet
   all_goals exact ⟨_, _, _, t, T3.out, HWT.out⟩
  ·
   skip
   obtain ⟨hl3, f3, k0, k1, k2⟩ := T3.out.box
   have hz3 : w.heap.size < w3.heap.size := T3.out.res.1
   have hcz : c < w3.heap.size := T3.out.cur.1
   go_upto_region 4 with (fail)
   refine wp_namedF fun w4 hw4 => ?_
   replace hw4 : ((w3.setCell ⟨b, 0, none⟩ (.slice (some ⟨w3.heap.size + 1, 0, none⟩) 1 1)).alloc (.cells #[.string ⟨#[110, 97, 109, 101]⟩, .string ⟨#[98]⟩] 9)).alloc (.cells #[.string ⟨#[112, 111, 105, 110, 116]⟩, .slice (some ⟨w3.heap.size, 0, none⟩) 2 2, .int .i64 0] 49) = w4 := hw4
   have hbx : Bel (w3.setCell ⟨b, 0, none⟩ (.slice (some ⟨w3.heap.size + 1, 0, none⟩) 1 1)) w4 := by rw [← hw4]; exact bl
   have o1 : w4.heap[w3.heap.size]? = some (.cells #[.string ⟨#[110, 97, 109, 101]⟩, .string ⟨#[98]⟩] 9) := by rw [← hw4, heap_alloc_old _ _ (by simp)]; have h := heap_alloc_new (w3.setCell ⟨b, 0, none⟩ (.slice (some ⟨w3.heap.size + 1, 0, none⟩) 1 1)) (.cells #[.string ⟨#[110, 97, 109, 101]⟩, .string ⟨#[98]⟩] 9); rw [World.size_setCell] at h; exact h
   have o2 : w4.heap[w3.heap.size + 1]? = some (.cells #[.string ⟨#[112, 111, 105, 110, 116]⟩, .slice (some ⟨w3.heap.size, 0, none⟩) 2 2, .int .i64 0] 49) := by rw [← hw4]; have h := heap_alloc_new ((w3.setCell ⟨b, 0, none⟩ (.slice (some ⟨w3.heap.size + 1, 0, none⟩) 1 1)).alloc (.cells #[.string ⟨#[110, 97, 109, 101]⟩, .string ⟨#[98]⟩] 9)) (.cells #[.string ⟨#[112, 111, 105, 110, 116]⟩, .slice (some ⟨w3.heap.size, 0, none⟩) 2 2, .int .i64 0] 49); rw [World.size_alloc, World.size_setCell] at h; exact h
   have hSg : ∀ j, (S9 w.heap.size b c) (w3.heap.size + j) := fun j => ⟨by omega, by omega, by omega⟩
   have hr : Dat.Holds w4 (S9 w.heap.size b c) (.row 3 [TRecordType.D (TRecordType.mk ⟨#[112, 111, 105, 110, 116]⟩ [⟨#[110, 97, 109, 101]⟩, ⟨#[98]⟩] 0)]) (.slice (some ⟨w3.heap.size + 1, 0, none⟩) 1 1) := hold_obj (vs := [.string ⟨#[112, 111, 105, 110, 116]⟩, .slice (some ⟨w3.heap.size, 0, none⟩) 2 2, .int .i64 0]) o2 (hSg 1) (fl_one rfl (by rw [TRecordType.D_mk]; exact ⟨Dat.holds_str.2 ⟨rfl, by decide +kernel⟩, hold_obj (vs := [.string ⟨#[110, 97, 109, 101]⟩, .string ⟨#[98]⟩]) o1 (hSg 0) (fl_strs [⟨#[110, 97, 109, 101]⟩, ⟨#[98]⟩] (by decide +kernel)) (by unfold maxLen; simp), Dat.holds_int.2 ⟨rfl, i0E⟩, trivial⟩)) (by unfold maxLen; simp)
   have T4 := hide (show U9 w w4 c A n cap b (.slice (some ⟨w3.heap.size + 1, 0, none⟩) 1 1) (.slice A1 n1 c1) (.slice A2 n2 c2) [.row 3 [TRecordType.D (TRecordType.mk ⟨#[112, 111, 105, 110, 116]⟩ [⟨#[110, 97, 109, 101]⟩, ⟨#[98]⟩] 0)]] [.slice (some ⟨w3.heap.size + 1, 0, none⟩) 1 1] from by have q := (U9.put HC.out T3.out hwb 0 (.slice (some ⟨w3.heap.size + 1, 0, none⟩) 1 1) (T3.out.box.put0 _) (es := []) (us := []) trivial).bel hlt hbc hbx; exact ⟨q.box, q.res, q.cur, q.oth, hr, trivial⟩)
   have hz4 : w3.heap.size + 2 ≤ w4.heap.size := by rw [← hw4]; simp
   clear hw4 o1 o2 hr hbx hSg T3 T2 k0 k1 k2 f3 hl3 hcz
   obtain ⟨hl3, f3, k0, k1, k2⟩ := T4.out.box
   go_upto_region 5 with (fail)
   refine wp_namedF fun w5 hw5 => ?_
   replace hw5 : (w4.setCell ⟨b, 1, none⟩ (.slice (some ⟨w4.heap.size, 0, none⟩) 1 1)).alloc (.cells #[.string ⟨#[103]⟩] 9) = w5 := hw5
   have hbx : Bel (w4.setCell ⟨b, 1, none⟩ (.slice (some ⟨w4.heap.size, 0, none⟩) 1 1)) w5 := by rw [← hw5]; exact bl
   have hb4 : b < w4.heap.size := T4.out.box.1
   have hc4 : c < w4.heap.size := T4.out.cur.1
   have o3 : w5.heap[w4.heap.size]? = some (.cells #[.string ⟨#[103]⟩] 9) := by rw [← hw5]; have h := heap_alloc_new (w4.setCell ⟨b, 1, none⟩ (.slice (some ⟨w4.heap.size, 0, none⟩) 1 1)) (.cells #[.string ⟨#[103]⟩] 9); rw [World.size_setCell] at h; exact h
   have hg : Dat.Holds w5 (S9 w.heap.size b c) (.row 1 (strsD [⟨#[103]⟩])) (.slice (some ⟨w4.heap.size, 0, none⟩) 1 1) := hold_obj (vs := [.string ⟨#[103]⟩]) o3 ⟨by omega, by omega, by omega⟩ (fl_strs [⟨#[103]⟩] (by decide +kernel)) (by unfold maxLen; simp)
   have T5 := hide (show U9 w w5 c A n cap b (.slice (some ⟨w3.heap.size + 1, 0, none⟩) 1 1) (.slice (some ⟨w4.heap.size, 0, none⟩) 1 1) (.slice A2 n2 c2) [.row 3 [TRecordType.D (TRecordType.mk ⟨#[112, 111, 105, 110, 116]⟩ [⟨#[110, 97, 109, 101]⟩, ⟨#[98]⟩] 0)], .row 1 (strsD [⟨#[103]⟩])] [.slice (some ⟨w3.heap.size + 1, 0, none⟩) 1 1, .slice (some ⟨w4.heap.size, 0, none⟩) 1 1] from by have q := (U9.put HC.out T4.out hwb 1 (.slice (some ⟨w4.heap.size, 0, none⟩) 1 1) (T4.out.box.put1 _) T4.out.val).bel hlt hbc hbx; exact ⟨q.box, q.res, q.cur, q.oth, q.val.1, hg, trivial⟩)
   clear hw5 hg hbx T4 k0 k1 k2 f3 hl3 hb4 hc4 hz4
   have hz5 : w.heap.size < w5.heap.size := T5.out.res.1
   have hb5 : b < w5.heap.size := T5.out.box.1
   go_upto_region 6 with (first
    | ((with_reducible refine (l6Tree_any c A n cap 3 w5 4 T5.out.cur (by omega) (by omega) (by omega)).mono ?_); intro e w6 he; obtain ⟨ak, atx, am, al, aks, A5, c5, rfl, hv, hwt, hC, hO⟩ := ExprP.hold he hz5 hb5; have HVa := hide hv; have HWa := hide hwt; have T6 := hide (T5.out.on hlt hbc hO hC); have hz6 := hO.size; clear he hv hwt hC hO)
    | ((with_reducible refine (l6Tree_any c A n cap 3 w6 4 T6.out.cur (by omega) (by omega) (by omega)).mono ?_); intro e w7 he; obtain ⟨pk9, ptx9, pm9, pl9, pks9, A6, c6, rfl, hv, hwt, hC, hO⟩ := ExprP.hold (N := w.heap.size) (b := b) he (by omega) (by omega); have HVb := hide hv; have HWb := hide hwt; have HVa7 := hide (holds_oth hO HVa.out); have T7 := hide (T6.out.on hlt hbc hO hC); have hz7 := hO.size; clear he hv hwt hC hO))
   refine wp_namedF fun w8 hw8 => ?_
   have hb78 : Bel w7 w8 := by rw [← hw8]; exact bl
   have o4 : w8.heap[w7.heap.size]? = some (.cells #[.int .i64 ak, .string atx, .int .i64 am, .int .i64 al, .slice A5 aks.length c5, .int .i64 pk9, .string ptx9, .int .i64 pm9, .int .i64 pl9, .slice A6 pks9.length c6] 42) := by rw [← hw8]; first | (rw [heap_alloc_old _ _ (by simp), heap_alloc_new]) | (simp [set_block, heap_alloc_old, heap_alloc_new])
   have hk5 : Dat.Holds w8 (S9 w.heap.size b c) (.row 5 ([(TExpr.mk ak atx am al aks), (TExpr.mk pk9 ptx9 pm9 pl9 pks9)].map TExpr.D)) (.slice (some ⟨w7.heap.size, 0, none⟩) 2 2) := hold_obj (vs := [.int .i64 ak, .string atx, .int .i64 am, .int .i64 al, .slice A5 aks.length c5] ++ [.int .i64 pk9, .string ptx9, .int .i64 pm9, .int .i64 pl9, .slice A6 pks9.length c6]) o4 ⟨by omega, by omega, by omega⟩ (fl_two rfl rfl (Dat.HoldVals.bel hb78 HVa7.out) (Dat.HoldVals.bel hb78 HVb.out)) (by unfold maxLen; simp)
   have T8 := hide (show U9q w w8 c A n cap b (.slice (some ⟨w3.heap.size + 1, 0, none⟩) 1 1) (.slice (some ⟨w4.heap.size, 0, none⟩) 1 1) (.slice A2 n2 c2) [.row 3 [TRecordType.D (TRecordType.mk ⟨#[112, 111, 105, 110, 116]⟩ [⟨#[110, 97, 109, 101]⟩, ⟨#[98]⟩] 0)], .row 1 (strsD [⟨#[103]⟩])] [.slice (some ⟨w3.heap.size + 1, 0, none⟩) 1 1, .slice (some ⟨w4.heap.size, 0, none⟩) 1 1] (w7.heap.size + 1) (.mk 16 ByteArray.empty 0 0 [(TExpr.mk ak atx am al aks), (TExpr.mk pk9 ptx9 pm9 pl9 pks9)]) (.slice (some ⟨w7.heap.size, 0, none⟩) 2 2) from ⟨T7.out.bel hlt hbc hb78, by rw [← hw8]; (have h := EB.new (w7.alloc (.cells #[.int .i64 ak, .string atx, .int .i64 am, .int .i64 al, .slice A5 aks.length c5, .int .i64 pk9, .string ptx9, .int .i64 pm9, .int .i64 pl9, .slice A6 pks9.length c6] 42)) 42 (v0 := .int .i64 16) (v1 := .string ByteArray.empty) (v2 := .int .i64 0) (v3 := .int .i64 0) (v4 := .slice (some ⟨w7.heap.size, 0, none⟩) 2 2)); rw [World.size_alloc] at h; exact h, hold_expr (by unfold InI; omega) hk5, by omega⟩)
   clear hw8 hb78 o4 hk5 HVa HVa7 HVb T5 T6 T7
   have hz8 : w.heap.size < w8.heap.size := T8.out.u.res.1
   have hb8 : b < w8.heap.size := T8.out.u.box.1
   generalize w7.heap.size + 1 = qb at T8 ⊢
   generalize w7.heap.size = gK at T8 ⊢
   clear hz6 hz7 hz5 hb5
   obtain ⟨EA, hEA⟩ : ∃ x, (TExpr.mk ak atx am al aks) = x := ⟨_, rfl⟩
   rw [hEA] at T8 HWa
   obtain ⟨EB9, hEB⟩ : ∃ x, (TExpr.mk pk9 ptx9 pm9 pl9 pks9) = x := ⟨_, rfl⟩
   rw [hEB] at T8 HWb
   clear hEA hEB
   obtain ⟨wr, hwr⟩ : ∃ x, x = w8 := ⟨_, rfl⟩
   rw [← hwr] at T8 hz8 hb8 ⊢
   clear hwr
   have HG0 := hide (U9q.bel T8.out hlt hbc (show Bel wr wr.drew from bl))
   have hcN : c < wr.heap.size := T8.out.u.cur.1
   have HE0 := hide hz8
   refine wp_region_facts (m := 17) (p := 6) (fun j v wq => match j with | 0 => (∃ g : Nat, v = .slice (some ⟨g, 0, none⟩) 1 1 ∧ Dat.Holds wq (S9 w.heap.size b c) (.row 1 (strsD [⟨#[112]⟩])) (.slice (some ⟨g, 0, none⟩) 1 1)) | 1 => (v = .agg #[.int .i64 16, .string ByteArray.empty, .int .i64 0, .int .i64 0, .slice (some ⟨gK, 0, none⟩) 2 2]) | 2 => (∃ g : Nat, v = .slice (some ⟨g, 0, none⟩) 1 1 ∧ Dat.Holds wq (S9 w.heap.size b c) (.row 5 ([(TExpr.mk 16 ByteArray.empty 0 0 [EA, EB9])].map TExpr.D)) (.slice (some ⟨g, 0, none⟩) 1 1)) | 3 => (∃ g : Nat, v = .agg #[.int .i64 14, .string ByteArray.empty, .int .i64 0, .int .i64 0, .slice (some ⟨g, 0, none⟩) 1 1] ∧ Dat.Holds wq (S9 w.heap.size b c) (.row 5 ([(TExpr.mk 16 ByteArray.empty 0 0 [EA, EB9])].map TExpr.D)) (.slice (some ⟨g, 0, none⟩) 1 1)) | 4 => (∃ g g2 : Nat, v = .agg #[.string ⟨#[102]⟩, .slice (some ⟨g, 0, none⟩) 1 1, .slice none 0 0, .int .i64 14, .string ByteArray.empty, .int .i64 0, .int .i64 0, .slice (some ⟨g2, 0, none⟩) 1 1, .int .i64 0] ∧ Dat.HoldVals wq (S9 w.heap.size b c) (TProcedure.D (TProcedure.mk ⟨#[102]⟩ [⟨#[112]⟩] [] 14 ByteArray.empty 0 0 [(TExpr.mk 16 ByteArray.empty 0 0 [EA, EB9])] 0)) [.string ⟨#[102]⟩, .slice (some ⟨g, 0, none⟩) 1 1, .slice none 0 0, .int .i64 14, .string ByteArray.empty, .int .i64 0, .int .i64 0, .slice (some ⟨g2, 0, none⟩) 1 1, .int .i64 0]) | 5 => (∃ g : Nat, v = .slice (some ⟨g, 0, none⟩) 1 1 ∧ Dat.Holds wq (S9 w.heap.size b c) (.row 1 (strsD [⟨#[120]⟩])) (.slice (some ⟨g, 0, none⟩) 1 1)) | 6 => (v = .pointer (some ⟨c, 0, none⟩)) | 7 => (∃ (k : Int) (tx : ByteArray) (m l : Int) (ks : List TExpr) (A5 : Option Addr) (c5 : Nat), v = .agg #[.int .i64 k, .string tx, .int .i64 m, .int .i64 l, .slice A5 (List.length ks) c5] ∧ Dat.HoldVals wq (S9 w.heap.size b c) (TExpr.D (.mk k tx m l ks)) [.int .i64 k, .string tx, .int .i64 m, .int .i64 l, .slice A5 (List.length ks) c5] ∧ Dat.wtL (TExpr.D (.mk k tx m l ks)) ≤ wE 2) | 8 => (v = .pointer (some ⟨c, 0, none⟩)) | 9 => (∃ (k : Int) (tx : ByteArray) (m l : Int) (ks : List TExpr) (A5 : Option Addr) (c5 : Nat), v = .agg #[.int .i64 k, .string tx, .int .i64 m, .int .i64 l, .slice A5 (List.length ks) c5] ∧ Dat.HoldVals wq (S9 w.heap.size b c) (TExpr.D (.mk k tx m l ks)) [.int .i64 k, .string tx, .int .i64 m, .int .i64 l, .slice A5 (List.length ks) c5] ∧ Dat.wtL (TExpr.D (.mk k tx m l ks)) ≤ wE 3) | 10 => (∃ (e2 : TExpr) (g : Nat), v = .slice (some ⟨g, 0, none⟩) 1 1 ∧ Dat.Holds wq (S9 w.heap.size b c) (.row 5 ([e2].map TExpr.D)) (.slice (some ⟨g, 0, none⟩) 1 1) ∧ Dat.wtL (TExpr.D e2) ≤ wE 3) | 11 => (∃ (e2 : TExpr) (g : Nat), v = .agg #[.int .i64 19, .string ByteArray.empty, .int .i64 0, .int .i64 0, .slice (some ⟨g, 0, none⟩) 1 1] ∧ Dat.Holds wq (S9 w.heap.size b c) (.row 5 ([e2].map TExpr.D)) (.slice (some ⟨g, 0, none⟩) 1 1) ∧ Dat.wtL (TExpr.D e2) ≤ wE 3) | 12 => (∃ (e1 e2 : TExpr) (g : Nat), v = .slice (some ⟨g, 0, none⟩) 2 2 ∧ Dat.Holds wq (S9 w.heap.size b c) (.row 5 ([e1, TExpr.mk 19 ByteArray.empty 0 0 [e2]].map TExpr.D)) (.slice (some ⟨g, 0, none⟩) 2 2) ∧ Dat.wtL (TExpr.D e1) ≤ wE 2 ∧ Dat.wtL (TExpr.D e2) ≤ wE 3) | 13 => (∃ (e1 e2 : TExpr) (g : Nat), v = .agg #[.int .i64 14, .string ByteArray.empty, .int .i64 0, .int .i64 0, .slice (some ⟨g, 0, none⟩) 2 2] ∧ Dat.Holds wq (S9 w.heap.size b c) (.row 5 ([e1, TExpr.mk 19 ByteArray.empty 0 0 [e2]].map TExpr.D)) (.slice (some ⟨g, 0, none⟩) 2 2) ∧ Dat.wtL (TExpr.D e1) ≤ wE 2 ∧ Dat.wtL (TExpr.D e2) ≤ wE 3) | 14 => (∃ (e1 e2 : TExpr) (g g2 : Nat), v = .agg #[.string ⟨#[109, 97, 105, 110]⟩, .slice none 0 0, .slice (some ⟨g, 0, none⟩) 1 1, .int .i64 14, .string ByteArray.empty, .int .i64 0, .int .i64 0, .slice (some ⟨g2, 0, none⟩) 2 2, .int .i64 0] ∧ Dat.HoldVals wq (S9 w.heap.size b c) (TProcedure.D (TProcedure.mk ⟨#[109, 97, 105, 110]⟩ [] [⟨#[120]⟩] 14 ByteArray.empty 0 0 [e1, TExpr.mk 19 ByteArray.empty 0 0 [e2]] 0)) [.string ⟨#[109, 97, 105, 110]⟩, .slice none 0 0, .slice (some ⟨g, 0, none⟩) 1 1, .int .i64 14, .string ByteArray.empty, .int .i64 0, .int .i64 0, .slice (some ⟨g2, 0, none⟩) 2 2, .int .i64 0] ∧ Dat.wtL (TExpr.D e1) ≤ wE 2 ∧ Dat.wtL (TExpr.D e2) ≤ wE 3) | 15 => (∃ (e1 e2 : TExpr) (g : Nat), v = .slice (some ⟨g, 0, none⟩) 2 2 ∧ Dat.Holds wq (S9 w.heap.size b c) (.row 9 ([(TProcedure.mk ⟨#[102]⟩ [⟨#[112]⟩] [] 14 ByteArray.empty 0 0 [(TExpr.mk 16 ByteArray.empty 0 0 [EA, EB9])] 0), (TProcedure.mk ⟨#[109, 97, 105, 110]⟩ [] [⟨#[120]⟩] 14 ByteArray.empty 0 0 [e1, TExpr.mk 19 ByteArray.empty 0 0 [e2]] 0)].map TProcedure.D)) (.slice (some ⟨g, 0, none⟩) 2 2) ∧ Dat.wtL (TExpr.D e1) ≤ wE 2 ∧ Dat.wtL (TExpr.D e2) ≤ wE 3) | 16 => (v = .pointer (some ⟨b, 2, none⟩)) | _ => True) (fun wa wb => Oth c wa wb ∧ Cur wb c A n cap) (fun wa wb => Oth c wa wb ∧ Cur wb c A n cap) (fun wq => U9q w wq c A n cap b (.slice (some ⟨w3.heap.size + 1, 0, none⟩) 1 1) (.slice (some ⟨w4.heap.size, 0, none⟩) 1 1) (.slice A2 n2 c2) [.row 3 [TRecordType.D (TRecordType.mk ⟨#[112, 111, 105, 110, 116]⟩ [⟨#[110, 97, 109, 101]⟩, ⟨#[98]⟩] 0)], .row 1 (strsD [⟨#[103]⟩])] [.slice (some ⟨w3.heap.size + 1, 0, none⟩) 1 1, .slice (some ⟨w4.heap.size, 0, none⟩) 1 1] qb (TExpr.mk 16 ByteArray.empty 0 0 [EA, EB9]) (.slice (some ⟨gK, 0, none⟩) 2 2) ∧ wr.heap.size ≤ wq.heap.size) (fun wq => U9q w wq c A n cap b (.slice (some ⟨w3.heap.size + 1, 0, none⟩) 1 1) (.slice (some ⟨w4.heap.size, 0, none⟩) 1 1) (.slice A2 n2 c2) [.row 3 [TRecordType.D (TRecordType.mk ⟨#[112, 111, 105, 110, 116]⟩ [⟨#[110, 97, 109, 101]⟩, ⟨#[98]⟩] 0)], .row 1 (strsD [⟨#[103]⟩])] [.slice (some ⟨w3.heap.size + 1, 0, none⟩) 1 1, .slice (some ⟨w4.heap.size, 0, none⟩) 1 1] qb (TExpr.mk 16 ByteArray.empty 0 0 [EA, EB9]) (.slice (some ⟨gK, 0, none⟩) 2 2) ∧ wr.heap.size ≤ wq.heap.size) [(0, some 21), (1, some 22), (2, some 23), (3, some 24), (4, some 25), (5, some 26), (6, some 27), (7, some 28), (8, some 29), (9, some 30), (10, some 31), (11, some 32), (12, some 33), (13, some 34), (14, some 35), (15, some 36), (16, some 37), (17, none)] rfl (by kernel_rfl) (by kernel_rfl) (by decide) ?hG ?hR ?hR2 ?hG0 ?hG1 rfl rfl ?hstep ?hp ?hlast
   case hG => exact ⟨HG0.out, by simp⟩
   case hG0 => exact fun wa wb hk hg => ⟨hg.1.on hlt hbc hk.1 hk.2, Nat.le_trans hg.2 hk.1.size⟩
   case hG1 => exact fun wa wb hk hg => ⟨hg.1.on hlt hbc hk.1 hk.2, Nat.le_trans hg.2 hk.1.size⟩
   case hR =>
    intro j v wa wb hk hv
    match j, hv with
    | 0, hv => exact (by obtain ⟨g, e, h1⟩ := hv; exact ⟨g, e, hold_oth hk.1 h1⟩)
    | 1, hv => exact hv
    | 2, hv => exact (by obtain ⟨g, e, h1⟩ := hv; exact ⟨g, e, hold_oth hk.1 h1⟩)
    | 3, hv => exact (by obtain ⟨g, e, h1⟩ := hv; exact ⟨g, e, hold_oth hk.1 h1⟩)
    | 4, hv => exact (by obtain ⟨g, g2, e, h1⟩ := hv; exact ⟨g, g2, e, holds_oth hk.1 h1⟩)
    | 5, hv => exact (by obtain ⟨g, e, h1⟩ := hv; exact ⟨g, e, hold_oth hk.1 h1⟩)
    | 6, hv => exact hv
    | 7, hv => exact (by obtain ⟨k, tx, m, l, ks, A5, c5, e, h1, h2⟩ := hv; exact ⟨k, tx, m, l, ks, A5, c5, e, holds_oth hk.1 h1, h2⟩)
    | 8, hv => exact hv
    | 9, hv => exact (by obtain ⟨k, tx, m, l, ks, A5, c5, e, h1, h2⟩ := hv; exact ⟨k, tx, m, l, ks, A5, c5, e, holds_oth hk.1 h1, h2⟩)
    | 10, hv => exact (by obtain ⟨e2, g, e, h1, h2⟩ := hv; exact ⟨e2, g, e, hold_oth hk.1 h1, h2⟩)
    | 11, hv => exact (by obtain ⟨e2, g, e, h1, h2⟩ := hv; exact ⟨e2, g, e, hold_oth hk.1 h1, h2⟩)
    | 12, hv => exact (by obtain ⟨e1, e2, g, e, h1, h2, h3⟩ := hv; exact ⟨e1, e2, g, e, hold_oth hk.1 h1, h2, h3⟩)
    | 13, hv => exact (by obtain ⟨e1, e2, g, e, h1, h2, h3⟩ := hv; exact ⟨e1, e2, g, e, hold_oth hk.1 h1, h2, h3⟩)
    | 14, hv => exact (by obtain ⟨e1, e2, g, g2, e, h1, h2, h3⟩ := hv; exact ⟨e1, e2, g, g2, e, holds_oth hk.1 h1, h2, h3⟩)
    | 15, hv => exact (by obtain ⟨e1, e2, g, e, h1, h2, h3⟩ := hv; exact ⟨e1, e2, g, e, hold_oth hk.1 h1, h2, h3⟩)
    | 16, hv => exact hv
    | n + 17, hv => exact trivial
   case hR2 =>
    intro j v wa wb hjp hk hv
    match j, hv with
    | 0, hv => exact (by obtain ⟨g, e, h1⟩ := hv; exact ⟨g, e, hold_oth hk.1 h1⟩)
    | 1, hv => exact hv
    | 2, hv => exact (by obtain ⟨g, e, h1⟩ := hv; exact ⟨g, e, hold_oth hk.1 h1⟩)
    | 3, hv => exact (by obtain ⟨g, e, h1⟩ := hv; exact ⟨g, e, hold_oth hk.1 h1⟩)
    | 4, hv => exact (by obtain ⟨g, g2, e, h1⟩ := hv; exact ⟨g, g2, e, holds_oth hk.1 h1⟩)
    | 5, hv => exact (by obtain ⟨g, e, h1⟩ := hv; exact ⟨g, e, hold_oth hk.1 h1⟩)
    | 7, hv => exact (by obtain ⟨k, tx, m, l, ks, A5, c5, e, h1, h2⟩ := hv; exact ⟨k, tx, m, l, ks, A5, c5, e, holds_oth hk.1 h1, h2⟩)
    | 8, hv => exact hv
    | 9, hv => exact (by obtain ⟨k, tx, m, l, ks, A5, c5, e, h1, h2⟩ := hv; exact ⟨k, tx, m, l, ks, A5, c5, e, holds_oth hk.1 h1, h2⟩)
    | 10, hv => exact (by obtain ⟨e2, g, e, h1, h2⟩ := hv; exact ⟨e2, g, e, hold_oth hk.1 h1, h2⟩)
    | 11, hv => exact (by obtain ⟨e2, g, e, h1, h2⟩ := hv; exact ⟨e2, g, e, hold_oth hk.1 h1, h2⟩)
    | 12, hv => exact (by obtain ⟨e1, e2, g, e, h1, h2, h3⟩ := hv; exact ⟨e1, e2, g, e, hold_oth hk.1 h1, h2, h3⟩)
    | 13, hv => exact (by obtain ⟨e1, e2, g, e, h1, h2, h3⟩ := hv; exact ⟨e1, e2, g, e, hold_oth hk.1 h1, h2, h3⟩)
    | 14, hv => exact (by obtain ⟨e1, e2, g, g2, e, h1, h2, h3⟩ := hv; exact ⟨e1, e2, g, g2, e, holds_oth hk.1 h1, h2, h3⟩)
    | 15, hv => exact (by obtain ⟨e1, e2, g, e, h1, h2, h3⟩ := hv; exact ⟨e1, e2, g, e, hold_oth hk.1 h1, h2, h3⟩)
    | 16, hv => exact hv
    | 6, hv => exact absurd rfl hjp
    | n + 17, hv => exact trivial
   case hstep =>
    simp only [putP, Act.put, List.setIfInBounds_toArray, List.set_cons_zero, List.set_cons_succ, List.getElem_toArray, List.getElem_cons_zero, List.getElem_cons_succ]
    refine (steps_cons (i := 0) (i2 := 1) (o := _) rfl ?s0 (steps_cons (i := 1) (i2 := 2) (o := _) rfl ?s1 (steps_cons (i := 2) (i2 := 3) (o := _) rfl ?s2 (steps_cons (i := 3) (i2 := 4) (o := _) rfl ?s3 (steps_cons (i := 4) (i2 := 5) (o := _) rfl ?s4 (steps_cons (i := 5) (i2 := 6) (o := _) rfl ?s5 (steps_skip (p := 6) (p2 := 7) (steps_cons (i := 7) (i2 := 8) (o := _) rfl ?s7 (steps_cons (i := 8) (i2 := 9) (o := _) rfl ?s8 (steps_cons (i := 9) (i2 := 10) (o := _) rfl ?s9 (steps_cons (i := 10) (i2 := 11) (o := _) rfl ?s10 (steps_cons (i := 11) (i2 := 12) (o := _) rfl ?s11 (steps_cons (i := 12) (i2 := 13) (o := _) rfl ?s12 (steps_cons (i := 13) (i2 := 14) (o := _) rfl ?s13 (steps_cons (i := 14) (i2 := 15) (o := _) rfl ?s14 (steps_cons (i := 15) (i2 := 16) (o := _) rfl ?s15 (steps_cons (i := 16) (i2 := 17) (o := _) rfl ?s16 (steps_nil (by decide)))))))))))))))))))
    case s0 =>
     intro u wa hG hf K hK
     have hcur : Cur wa c A n cap := by rcases hG with q | ⟨q, -⟩ <;> exact q.1.cur
     have hz : wr.heap.size ≤ wa.heap.size := by rcases hG with q | ⟨q, -⟩ <;> exact q.2
     clear hf
     clear hG
     simp only [Act.put, List.setIfInBounds_toArray, List.set_cons_zero, List.set_cons_succ, List.getElem_toArray, List.getElem_cons_zero, List.getElem_cons_succ] at hK ⊢
     have hbx : Bel wa (wa.alloc (.cells #[.string ⟨#[112]⟩] 9)) := bl
     have ho : (wa.alloc (.cells #[.string ⟨#[112]⟩] 9)).heap[wa.heap.size]? = some (.cells #[.string ⟨#[112]⟩] 9) := heap_alloc_new _ _
     have hS : (S9 w.heap.size b c) wa.heap.size := ⟨by omega, by omega, by omega⟩
     go_simp
     exact hK.out _ _ ⟨Oth.of_bel hbx, hcur.bel hbx⟩ ⟨wa.heap.size, rfl, hold_obj (vs := [.string ⟨#[112]⟩]) ho hS (fl_strs [⟨#[112]⟩] (by decide +kernel)) (by unfold maxLen; simp)⟩
    case s5 =>
     intro u wa hG hf K hK
     have hcur : Cur wa c A n cap := by rcases hG with q | ⟨q, -⟩ <;> exact q.1.cur
     have hz : wr.heap.size ≤ wa.heap.size := by rcases hG with q | ⟨q, -⟩ <;> exact q.2
     clear hf
     clear hG
     simp only [Act.put, List.setIfInBounds_toArray, List.set_cons_zero, List.set_cons_succ, List.getElem_toArray, List.getElem_cons_zero, List.getElem_cons_succ] at hK ⊢
     have hbx : Bel wa (wa.alloc (.cells #[.string ⟨#[120]⟩] 9)) := bl
     have ho : (wa.alloc (.cells #[.string ⟨#[120]⟩] 9)).heap[wa.heap.size]? = some (.cells #[.string ⟨#[120]⟩] 9) := heap_alloc_new _ _
     have hS : (S9 w.heap.size b c) wa.heap.size := ⟨by omega, by omega, by omega⟩
     go_simp
     exact hK.out _ _ ⟨Oth.of_bel hbx, hcur.bel hbx⟩ ⟨wa.heap.size, rfl, hold_obj (vs := [.string ⟨#[120]⟩]) ho hS (fl_strs [⟨#[120]⟩] (by decide +kernel)) (by unfold maxLen; simp)⟩
    case s1 =>
     intro u wa hG hf K hK
     have hcur : Cur wa c A n cap := by rcases hG with q | ⟨q, -⟩ <;> exact q.1.cur
     have hz : wr.heap.size ≤ wa.heap.size := by rcases hG with q | ⟨q, -⟩ <;> exact q.2
     have g0 := hG.elim (fun q => q) (fun q => q.1)
     replace g0 := g0.1
     clear hf
     clear hG
     simp only [Act.put, List.setIfInBounds_toArray, List.set_cons_zero, List.set_cons_succ, List.getElem_toArray, List.getElem_cons_zero, List.getElem_cons_succ] at hK ⊢
     obtain ⟨l, f, c0, c1, c2, c3, c4⟩ := g0.bx
     clear g0
     go_simp
     exact hK.out _ _ ⟨Oth.refl _ _, hcur⟩ rfl
    case s2 =>
     intro u wa hG hf K hK
     have hcur : Cur wa c A n cap := by rcases hG with q | ⟨q, -⟩ <;> exact q.1.cur
     have hz : wr.heap.size ≤ wa.heap.size := by rcases hG with q | ⟨q, -⟩ <;> exact q.2
     have g0 := hG.elim (fun q => q) (fun q => q.1)
     replace g0 := g0.1
     have e1 := fact_of hf 1 (by kernel_rfl)
     (try dsimp only at e1)
     clear hf
     clear hG
     simp only [Act.put, List.setIfInBounds_toArray, List.set_cons_zero, List.set_cons_succ, List.getElem_toArray, List.getElem_cons_zero, List.getElem_cons_succ] at hK ⊢
     generalize u 1 = x1 at e1 hK ⊢
     subst e1
     have hbx : Bel wa (wa.alloc (.cells #[.int .i64 16, .string ByteArray.empty, .int .i64 0, .int .i64 0, .slice (some ⟨gK, 0, none⟩) 2 2] 42)) := bl
     have ho : (wa.alloc (.cells #[.int .i64 16, .string ByteArray.empty, .int .i64 0, .int .i64 0, .slice (some ⟨gK, 0, none⟩) 2 2] 42)).heap[wa.heap.size]? = some (.cells #[.int .i64 16, .string ByteArray.empty, .int .i64 0, .int .i64 0, .slice (some ⟨gK, 0, none⟩) 2 2] 42) := heap_alloc_new _ _
     have hS : (S9 w.heap.size b c) wa.heap.size := ⟨by omega, by omega, by omega⟩
     have hE := g0.ex
     clear g0
     go_simp
     exact hK.out _ _ ⟨Oth.of_bel hbx, hcur.bel hbx⟩ ⟨wa.heap.size, rfl, hold_obj (vs := [.int .i64 16, .string ByteArray.empty, .int .i64 0, .int .i64 0, .slice (some ⟨gK, 0, none⟩) 2 2]) ho hS (fl_one rfl (Dat.HoldVals.bel hbx hE)) (by unfold maxLen; simp)⟩
    case s3 =>
     intro u wa hG hf K hK
     have hcur : Cur wa c A n cap := by rcases hG with q | ⟨q, -⟩ <;> exact q.1.cur
     have hz : wr.heap.size ≤ wa.heap.size := by rcases hG with q | ⟨q, -⟩ <;> exact q.2
     have e2 := fact_of hf 2 (by kernel_rfl)
     (try dsimp only at e2)
     clear hf
     clear hG
     simp only [Act.put, List.setIfInBounds_toArray, List.set_cons_zero, List.set_cons_succ, List.getElem_toArray, List.getElem_cons_zero, List.getElem_cons_succ] at hK ⊢
     obtain ⟨g, e2, h1⟩ := e2
     generalize u 2 = x2 at e2 hK ⊢
     subst e2
     go_simp
     exact hK.out _ _ ⟨Oth.refl _ _, hcur⟩ ⟨g, rfl, h1⟩
    case s4 =>
     intro u wa hG hf K hK
     have hcur : Cur wa c A n cap := by rcases hG with q | ⟨q, -⟩ <;> exact q.1.cur
     have hz : wr.heap.size ≤ wa.heap.size := by rcases hG with q | ⟨q, -⟩ <;> exact q.2
     have e0 := fact_of hf 0 (by kernel_rfl)
     (try dsimp only at e0)
     have e3 := fact_of hf 3 (by kernel_rfl)
     (try dsimp only at e3)
     clear hf
     clear hG
     simp only [Act.put, List.setIfInBounds_toArray, List.set_cons_zero, List.set_cons_succ, List.getElem_toArray, List.getElem_cons_zero, List.getElem_cons_succ] at hK ⊢
     obtain ⟨g, e0, h1⟩ := e0
     generalize u 0 = x0 at e0 hK ⊢
     subst e0
     obtain ⟨g2, e3, h2⟩ := e3
     generalize u 3 = x3 at e3 hK ⊢
     subst e3
     go_simp
     exact hK.out _ _ ⟨Oth.refl _ _, hcur⟩ ⟨g, g2, rfl, hold_proc (ls := []) (by decide +kernel) h1 hold_nil h2⟩
    case s8 =>
     intro u wa hG hf K hK
     have hcur : Cur wa c A n cap := by rcases hG with q | ⟨q, -⟩ <;> exact q.1.cur
     have hz : wr.heap.size ≤ wa.heap.size := by rcases hG with q | ⟨q, -⟩ <;> exact q.2
     clear hf
     clear hG
     simp only [Act.put, List.setIfInBounds_toArray, List.set_cons_zero, List.set_cons_succ, List.getElem_toArray, List.getElem_cons_zero, List.getElem_cons_succ] at hK ⊢
     go_simp
     exact hK.out _ _ ⟨Oth.refl _ _, hcur⟩ rfl
    case s7 =>
     intro u wa hG hf K hK
     have hcur : Cur wa c A n cap := by rcases hG with q | ⟨q, -⟩ <;> exact q.1.cur
     have hz : wr.heap.size ≤ wa.heap.size := by rcases hG with q | ⟨q, -⟩ <;> exact q.2
     have e6 := fact_of hf 6 (by kernel_rfl)
     (try dsimp only at e6)
     clear hf
     clear hG
     simp only [Act.put, List.setIfInBounds_toArray, List.set_cons_zero, List.set_cons_succ, List.getElem_toArray, List.getElem_cons_zero, List.getElem_cons_succ] at hK ⊢
     generalize u 6 = x6 at e6 hK ⊢
     subst e6
     have hN : w.heap.size < wa.heap.size := by have := HE0.out; omega
     go_simp
     go_at_call 26
     refine (l6Tree_any c A n cap 2 _ 3 hcur (by omega) (by omega) (by omega)).mono ?_
     intro e w2 he
     obtain ⟨k, tx, m, l, ks, A5, c5, rfl, hv, hwt, hC2, hO2⟩ := ExprP.hold (N := w.heap.size) (b := b) he hN (by omega)
     exact hK.out _ _ ⟨hO2, hC2⟩ ⟨k, tx, m, l, ks, A5, c5, rfl, hv, hwt⟩
    case s9 =>
     intro u wa hG hf K hK
     have hcur : Cur wa c A n cap := by rcases hG with q | ⟨q, -⟩ <;> exact q.1.cur
     have hz : wr.heap.size ≤ wa.heap.size := by rcases hG with q | ⟨q, -⟩ <;> exact q.2
     have e8 := fact_of hf 8 (by kernel_rfl)
     (try dsimp only at e8)
     clear hf
     clear hG
     simp only [Act.put, List.setIfInBounds_toArray, List.set_cons_zero, List.set_cons_succ, List.getElem_toArray, List.getElem_cons_zero, List.getElem_cons_succ] at hK ⊢
     generalize u 8 = x8 at e8 hK ⊢
     subst e8
     have hN : w.heap.size < wa.heap.size := by have := HE0.out; omega
     go_simp
     go_at_call 26
     refine (l6Tree_any c A n cap 3 _ 4 hcur (by omega) (by omega) (by omega)).mono ?_
     intro e w2 he
     obtain ⟨k, tx, m, l, ks, A5, c5, rfl, hv, hwt, hC2, hO2⟩ := ExprP.hold (N := w.heap.size) (b := b) he hN (by omega)
     exact hK.out _ _ ⟨hO2, hC2⟩ ⟨k, tx, m, l, ks, A5, c5, rfl, hv, hwt⟩
    case s10 =>
     intro u wa hG hf K hK
     have hcur : Cur wa c A n cap := by rcases hG with q | ⟨q, -⟩ <;> exact q.1.cur
     have hz : wr.heap.size ≤ wa.heap.size := by rcases hG with q | ⟨q, -⟩ <;> exact q.2
     have e9 := fact_of hf 9 (by kernel_rfl)
     (try dsimp only at e9)
     clear hf
     clear hG
     simp only [Act.put, List.setIfInBounds_toArray, List.set_cons_zero, List.set_cons_succ, List.getElem_toArray, List.getElem_cons_zero, List.getElem_cons_succ] at hK ⊢
     obtain ⟨k, tx, m, l, ks, A5, c5, e9, h1, h2⟩ := e9
     generalize u 9 = x9 at e9 hK ⊢
     subst e9
     have hbx : Bel wa (wa.alloc (.cells #[.int .i64 k, .string tx, .int .i64 m, .int .i64 l, .slice A5 (List.length ks) c5] 42)) := bl
     have ho : (wa.alloc (.cells #[.int .i64 k, .string tx, .int .i64 m, .int .i64 l, .slice A5 (List.length ks) c5] 42)).heap[wa.heap.size]? = some (.cells #[.int .i64 k, .string tx, .int .i64 m, .int .i64 l, .slice A5 (List.length ks) c5] 42) := heap_alloc_new _ _
     have hS : (S9 w.heap.size b c) wa.heap.size := ⟨by omega, by omega, by omega⟩
     go_simp
     exact hK.out _ _ ⟨Oth.of_bel hbx, hcur.bel hbx⟩ ⟨.mk k tx m l ks, wa.heap.size, rfl, hold_obj (vs := [.int .i64 k, .string tx, .int .i64 m, .int .i64 l, .slice A5 (List.length ks) c5]) ho hS (fl_one rfl (Dat.HoldVals.bel hbx h1)) (by unfold maxLen; simp), h2⟩
    case s11 =>
     intro u wa hG hf K hK
     have hcur : Cur wa c A n cap := by rcases hG with q | ⟨q, -⟩ <;> exact q.1.cur
     have hz : wr.heap.size ≤ wa.heap.size := by rcases hG with q | ⟨q, -⟩ <;> exact q.2
     have e10 := fact_of hf 10 (by kernel_rfl)
     (try dsimp only at e10)
     clear hf
     clear hG
     simp only [Act.put, List.setIfInBounds_toArray, List.set_cons_zero, List.set_cons_succ, List.getElem_toArray, List.getElem_cons_zero, List.getElem_cons_succ] at hK ⊢
     obtain ⟨e2, g, e10, h1, h2⟩ := e10
     generalize u 10 = x10 at e10 hK ⊢
     subst e10
     go_simp
     exact hK.out _ _ ⟨Oth.refl _ _, hcur⟩ ⟨e2, g, rfl, h1, h2⟩
    case s12 =>
     intro u wa hG hf K hK
     have hcur : Cur wa c A n cap := by rcases hG with q | ⟨q, -⟩ <;> exact q.1.cur
     have hz : wr.heap.size ≤ wa.heap.size := by rcases hG with q | ⟨q, -⟩ <;> exact q.2
     have e7 := fact_of hf 7 (by kernel_rfl)
     (try dsimp only at e7)
     have e11 := fact_of hf 11 (by kernel_rfl)
     (try dsimp only at e11)
     clear hf
     clear hG
     simp only [Act.put, List.setIfInBounds_toArray, List.set_cons_zero, List.set_cons_succ, List.getElem_toArray, List.getElem_cons_zero, List.getElem_cons_succ] at hK ⊢
     obtain ⟨k, tx, m, l, ks, A5, c5, e7, h1, h2⟩ := e7
     generalize u 7 = x7 at e7 hK ⊢
     subst e7
     obtain ⟨e2, g, e11, h3, h4⟩ := e11
     generalize u 11 = x11 at e11 hK ⊢
     subst e11
     have hbx : Bel wa (wa.alloc (.cells #[.int .i64 k, .string tx, .int .i64 m, .int .i64 l, .slice A5 (List.length ks) c5, .int .i64 19, .string ByteArray.empty, .int .i64 0, .int .i64 0, .slice (some ⟨g, 0, none⟩) 1 1] 42)) := bl
     have ho : (wa.alloc (.cells #[.int .i64 k, .string tx, .int .i64 m, .int .i64 l, .slice A5 (List.length ks) c5, .int .i64 19, .string ByteArray.empty, .int .i64 0, .int .i64 0, .slice (some ⟨g, 0, none⟩) 1 1] 42)).heap[wa.heap.size]? = some (.cells #[.int .i64 k, .string tx, .int .i64 m, .int .i64 l, .slice A5 (List.length ks) c5, .int .i64 19, .string ByteArray.empty, .int .i64 0, .int .i64 0, .slice (some ⟨g, 0, none⟩) 1 1] 42) := heap_alloc_new _ _
     have hS : (S9 w.heap.size b c) wa.heap.size := ⟨by omega, by omega, by omega⟩
     go_simp
     exact hK.out _ _ ⟨Oth.of_bel hbx, hcur.bel hbx⟩ ⟨.mk k tx m l ks, e2, wa.heap.size, rfl, hold_obj (vs := [.int .i64 k, .string tx, .int .i64 m, .int .i64 l, .slice A5 (List.length ks) c5] ++ [.int .i64 19, .string ByteArray.empty, .int .i64 0, .int .i64 0, .slice (some ⟨g, 0, none⟩) 1 1]) ho hS (fl_two rfl rfl (Dat.HoldVals.bel hbx h1) (Dat.HoldVals.bel hbx (hold_expr (by unfold InI; omega) h3))) (by unfold maxLen; simp), h2, h4⟩
    case s13 =>
     intro u wa hG hf K hK
     have hcur : Cur wa c A n cap := by rcases hG with q | ⟨q, -⟩ <;> exact q.1.cur
     have hz : wr.heap.size ≤ wa.heap.size := by rcases hG with q | ⟨q, -⟩ <;> exact q.2
     have e12 := fact_of hf 12 (by kernel_rfl)
     (try dsimp only at e12)
     clear hf
     clear hG
     simp only [Act.put, List.setIfInBounds_toArray, List.set_cons_zero, List.set_cons_succ, List.getElem_toArray, List.getElem_cons_zero, List.getElem_cons_succ] at hK ⊢
     obtain ⟨e1, e2, g, e12, h1, h2, h3⟩ := e12
     generalize u 12 = x12 at e12 hK ⊢
     subst e12
     go_simp
     exact hK.out _ _ ⟨Oth.refl _ _, hcur⟩ ⟨e1, e2, g, rfl, h1, h2, h3⟩
    case s14 =>
     intro u wa hG hf K hK
     have hcur : Cur wa c A n cap := by rcases hG with q | ⟨q, -⟩ <;> exact q.1.cur
     have hz : wr.heap.size ≤ wa.heap.size := by rcases hG with q | ⟨q, -⟩ <;> exact q.2
     have e5 := fact_of hf 5 (by kernel_rfl)
     (try dsimp only at e5)
     have e13 := fact_of hf 13 (by kernel_rfl)
     (try dsimp only at e13)
     clear hf
     clear hG
     simp only [Act.put, List.setIfInBounds_toArray, List.set_cons_zero, List.set_cons_succ, List.getElem_toArray, List.getElem_cons_zero, List.getElem_cons_succ] at hK ⊢
     obtain ⟨g, e5, h1⟩ := e5
     generalize u 5 = x5 at e5 hK ⊢
     subst e5
     obtain ⟨e1, e2, g2, e13, h2, h3, h4⟩ := e13
     generalize u 13 = x13 at e13 hK ⊢
     subst e13
     go_simp
     exact hK.out _ _ ⟨Oth.refl _ _, hcur⟩ ⟨e1, e2, g, g2, rfl, hold_proc (ps := []) (by decide +kernel) hold_nil h1 h2, h3, h4⟩
    case s15 =>
     intro u wa hG hf K hK
     have hcur : Cur wa c A n cap := by rcases hG with q | ⟨q, -⟩ <;> exact q.1.cur
     have hz : wr.heap.size ≤ wa.heap.size := by rcases hG with q | ⟨q, -⟩ <;> exact q.2
     have e4 := fact_of hf 4 (by kernel_rfl)
     (try dsimp only at e4)
     have e14 := fact_of hf 14 (by kernel_rfl)
     (try dsimp only at e14)
     clear hf
     clear hG
     simp only [Act.put, List.setIfInBounds_toArray, List.set_cons_zero, List.set_cons_succ, List.getElem_toArray, List.getElem_cons_zero, List.getElem_cons_succ] at hK ⊢
     obtain ⟨ga, gb, e4, h1⟩ := e4
     generalize u 4 = x4 at e4 hK ⊢
     subst e4
     obtain ⟨e1, e2, g, g2, e14, h2, h3, h4⟩ := e14
     generalize u 14 = x14 at e14 hK ⊢
     subst e14
     have hbx : Bel wa (wa.alloc (.cells #[.string ⟨#[102]⟩, .slice (some ⟨ga, 0, none⟩) 1 1, .slice none 0 0, .int .i64 14, .string ByteArray.empty, .int .i64 0, .int .i64 0, .slice (some ⟨gb, 0, none⟩) 1 1, .int .i64 0, .string ⟨#[109, 97, 105, 110]⟩, .slice none 0 0, .slice (some ⟨g, 0, none⟩) 1 1, .int .i64 14, .string ByteArray.empty, .int .i64 0, .int .i64 0, .slice (some ⟨g2, 0, none⟩) 2 2, .int .i64 0] 44)) := bl
     have ho : (wa.alloc (.cells #[.string ⟨#[102]⟩, .slice (some ⟨ga, 0, none⟩) 1 1, .slice none 0 0, .int .i64 14, .string ByteArray.empty, .int .i64 0, .int .i64 0, .slice (some ⟨gb, 0, none⟩) 1 1, .int .i64 0, .string ⟨#[109, 97, 105, 110]⟩, .slice none 0 0, .slice (some ⟨g, 0, none⟩) 1 1, .int .i64 14, .string ByteArray.empty, .int .i64 0, .int .i64 0, .slice (some ⟨g2, 0, none⟩) 2 2, .int .i64 0] 44)).heap[wa.heap.size]? = some (.cells #[.string ⟨#[102]⟩, .slice (some ⟨ga, 0, none⟩) 1 1, .slice none 0 0, .int .i64 14, .string ByteArray.empty, .int .i64 0, .int .i64 0, .slice (some ⟨gb, 0, none⟩) 1 1, .int .i64 0, .string ⟨#[109, 97, 105, 110]⟩, .slice none 0 0, .slice (some ⟨g, 0, none⟩) 1 1, .int .i64 14, .string ByteArray.empty, .int .i64 0, .int .i64 0, .slice (some ⟨g2, 0, none⟩) 2 2, .int .i64 0] 44) := heap_alloc_new _ _
     have hS : (S9 w.heap.size b c) wa.heap.size := ⟨by omega, by omega, by omega⟩
     go_simp
     exact hK.out _ _ ⟨Oth.of_bel hbx, hcur.bel hbx⟩ ⟨e1, e2, wa.heap.size, rfl, hold_obj (vs := [.string ⟨#[102]⟩, .slice (some ⟨ga, 0, none⟩) 1 1, .slice none 0 0, .int .i64 14, .string ByteArray.empty, .int .i64 0, .int .i64 0, .slice (some ⟨gb, 0, none⟩) 1 1, .int .i64 0] ++ [.string ⟨#[109, 97, 105, 110]⟩, .slice none 0 0, .slice (some ⟨g, 0, none⟩) 1 1, .int .i64 14, .string ByteArray.empty, .int .i64 0, .int .i64 0, .slice (some ⟨g2, 0, none⟩) 2 2, .int .i64 0]) ho hS (fl_two rfl rfl (Dat.HoldVals.bel hbx h1) (Dat.HoldVals.bel hbx h2)) (by unfold maxLen; simp), h3, h4⟩
    case s16 =>
     intro u wa hG hf K hK
     have hcur : Cur wa c A n cap := by rcases hG with q | ⟨q, -⟩ <;> exact q.1.cur
     have hz : wr.heap.size ≤ wa.heap.size := by rcases hG with q | ⟨q, -⟩ <;> exact q.2
     clear hf
     clear hG
     simp only [Act.put, List.setIfInBounds_toArray, List.set_cons_zero, List.set_cons_succ, List.getElem_toArray, List.getElem_cons_zero, List.getElem_cons_succ] at hK ⊢
     go_simp
     exact hK.out _ _ ⟨Oth.refl _ _, hcur⟩ rfl
   case hp =>
    simp only [putP, Act.put, List.setIfInBounds_toArray, List.set_cons_zero, List.set_cons_succ, List.getElem_toArray, List.getElem_cons_zero, List.getElem_cons_succ]
    intro u wa hG hf K hK
    clear hf
    have hcur := hG.1.cur
    go_simp
    exact hK.out _ _ ⟨Oth.refl _ _, hcur⟩ hG rfl
   case hlast =>
    simp only [putP, Act.put, List.setIfInBounds_toArray, List.set_cons_zero, List.set_cons_succ, List.getElem_toArray, List.getElem_cons_zero, List.getElem_cons_succ]
    intro u wa hG hf K hK
    have e15 := hf 15 (by decide)
    (try dsimp only at e15)
    have e16 := hf 16 (by decide)
    (try dsimp only at e16)
    clear hf
    obtain ⟨e1, e2, g, e15, h1, h2, h3⟩ := e15
    generalize u 15 = x15 at e15 hK ⊢
    subst e15
    generalize u 16 = x16 at e16 hK ⊢
    subst e16
    obtain ⟨l, f, c0, c1, c2⟩ := hG.1.u.box
    have TZ := hide (U9.put HC.out hG.1.u hwb 2 (.slice (some ⟨g, 0, none⟩) 2 2) (hG.1.u.box.put2 _) (es := TUnit.D (.mk [TRecordType.mk ⟨#[112, 111, 105, 110, 116]⟩ [⟨#[110, 97, 109, 101]⟩, ⟨#[98]⟩] 0] [⟨#[103]⟩] [(TProcedure.mk ⟨#[102]⟩ [⟨#[112]⟩] [] 14 ByteArray.empty 0 0 [(TExpr.mk 16 ByteArray.empty 0 0 [EA, EB9])] 0), (TProcedure.mk ⟨#[109, 97, 105, 110]⟩ [] [⟨#[120]⟩] 14 ByteArray.empty 0 0 [e1, TExpr.mk 19 ByteArray.empty 0 0 [e2]] 0)])) (us := [.slice (some ⟨w3.heap.size + 1, 0, none⟩) 1 1, .slice (some ⟨w4.heap.size, 0, none⟩) 1 1, .slice (some ⟨g, 0, none⟩) 2 2]) (by rw [TUnit.D_mk]; obtain ⟨q0, q1, -⟩ := hG.1.u.val; exact ⟨q0, q1, h1, trivial⟩))
    have hwu := unit9_wt (x1 := ⟨#[112, 111, 105, 110, 116]⟩) (x2 := ⟨#[110, 97, 109, 101]⟩) (x3 := ⟨#[98]⟩) (x4 := ⟨#[103]⟩) (x5 := ⟨#[102]⟩) (x6 := ⟨#[112]⟩) (x7 := ⟨#[109, 97, 105, 110]⟩) (x8 := ⟨#[120]⟩) (by decide +kernel) (by decide +kernel) (by decide +kernel) (by decide +kernel) (by decide +kernel) (by decide +kernel) (by decide +kernel) (by decide +kernel) HWa.out HWb.out h2 h3
    go_simp
    refine hK.out undef _ ?_
    clear hK
    go_wp2_with (fail)
    all_goals go_meet
    all_goals exact ⟨_, _, _, _, TZ.out, hwu⟩
 case rest =>
  obtain ⟨v0, v1, v2, t9, T, hwt9⟩ := hcut
  clear T2 T3
  have T9 := hide T
  clear T
  rename World => wr
  obtain ⟨B0, m0, d0, B1, m1, d1, B2, m2, d2, rfl, rfl, rfl⟩ := unit_slices T9.out.val
  have HF := hide (U9.fin HC.out T9.out hwt9)
  have HRB := hide T9.out.res
  obtain ⟨hl9, f9, k90, k91, k92⟩ := T9.out.box
  go_upto_region 7 with (fail)
  refine wp_region_lit ?_
  refine wpList_plain rfl fun K hK => ?_
  go_simp
  refine hK _ _ ?_
  refine wpList_store_mid rfl 28 (.tmp 2) (.tmp 38) rfl w.heap.size 0 #[.slice B0 m0 d0, .slice B1 m1 d1, .slice B2 m2 d2] rfl rfl HRB.out.there (by kernel_rfl) (by simp [Value.oneCell']) ?_
  refine wpList_namedF fun wz hwz => ?_
  obtain ⟨PZ, QZ⟩ := HF.out wz hwz
  obtain ⟨-, -, e0, e1, e2⟩ := PZ
  clear hwz k90 k91 k92 HRB HF
  refine wpList_nil ?_
  go_simp
  rename_i hKr
  refine hKr _ _ ?_
  clear hKr hK
  refine wp_ret ?_
  exact bodyPost_ret (v := .agg #[.slice B0 m0 d0, .slice B1 m1 d1, .slice B2 m2 d2]) (by simp [results, Tryd.results11, e0, e1, e2, go_sem]; try rfl) rfl QZ
theorem ret_named {P : Program} {fn : Func} {Q : Ending → World → Prop} {ex : Exit} {a : Act} {W : World} (h : ∀ wz, wz = W → bodyPost P fn Q ex a wz) : bodyPost P fn Q ex a W := h W rfl
def DrawLN (w : World) (e : Ending) (w' : World) : Prop :=
 ∃ (t : TUnit) (x0 x1 x2 : Value) (k : Int), e = .returned (.tuple #[.agg #[x0, x1, x2], .int .i64 k]) ∧ Dat.HoldVals w' (fun _ => True) t.D [x0, x1, x2] ∧ Dat.wtL t.D ≤ 1000000 ∧ -1 ≤ k ∧ k ≤ 2 ∧ Bel w w'
set_option maxHeartbeats 1000000 in
theorem drawLocalNames_any (A : Option Addr) (n cap : Nat) (w : World) (hn : n ≤ 1048576) (hB : ∀ c, w.heap.size ≤ c → Bts w c A n) :
  Calls Tryd.prog 5 #[.slice A n cap] w (DrawLN w) := by
 have HB := hide hB
 clear hB
 go_enter Tryd.func5, Tryd.ntmps5
 go_upto_region 2 with (go_at_call 10; refine (l1New_any A n cap _ hn (fun c h => (HB.out c (by simp at h; omega)).on (Oth.of_bel bl))).mono ?_; rintro e w1 ⟨rfl, hC1, hb1⟩; have HC1 := hide hC1; have Hb1 := hide (show Bel w w1 from bl); have R1 := hide ((TB.new w 28 (v0 := .slice none 0 0) (v1 := .slice none 0 0) (v2 := .slice none 0 0)).on hb1); clear hC1 hb1)
 simp only [World.size_alloc] at HC1 ⊢
 have hcw : w.heap.size ≤ w.heap.size + 1 := by omega
 have hrc : w.heap.size ≠ w.heap.size + 1 := by omega
 generalize w.heap.size + 1 = c at HC1 hcw hrc ⊢
 have hr1 := R1.out.1
 go_wp2_with (first
  | (go_at_call 11; refine (l9Unit_any c A n cap _ HC1.out).mono ?_; rintro e w2 ⟨t, x0, x1, x2, rfl, hv, hwt, hC2, hO2⟩; have HV := hide hv; have HWT := hide hwt; have HC2 := hide hC2; have HO2 := hide hO2; have R2 := hide (R1.out.oth hO2 hrc); clear hv hwt hC2 hO2; obtain ⟨A0, n0, c0, A1, n1, c1, A2, n2, c2, rfl, rfl, rfl⟩ := unit_slices HV.out)
  | (go_at_call 12; refine (l1Below_any 4 c A n cap _ HC2.out (by unfold InI; omega)).mono ?_; rintro e w3 ⟨k, k1, k2, rfl, hC3, hO3⟩; have k3 : k ≤ 3 := k2; clear k2; have HO3 := hide (HO2.out.trans hO3); have R3 := hide (R2.out.oth hO3 hrc); have HV3 := hide (show Dat.HoldVals w3 (fun k => w1.heap.size ≤ k ∧ k ≠ c) _ _ from Dat.HoldVals.keep hO3.size (fun _ _ hb hl => hO3.cell hl hb.2) (fun _ h => h) _ _ HV.out); have hw3 : IntKind.i64.wrap (k - 1) = k - 1 := (by rw [IntKind.wrap_i64]; omega); obtain ⟨rl, rf, r0, r1, r2⟩ := R3.out; clear hC3 hO3))
 refine ret_named fun wz hwz => ?_
 have PZ : TB wz w.heap.size (.slice A0 n0 c0) (.slice A1 n1 c1) (.slice A2 n2 c2) := by rw [hwz]; exact ((R3.out.put0 _).put1 _).put2 _
 have hsame : ∀ k, w.heap.size ≠ k → wz.heap[k]? = w3.heap[k]? := fun k hk => by rw [hwz, set_block 2 _ hk, set_block 1 _ hk, set_block 0 _ hk]
 have hbz : Bel w wz := by
  rw [hwz]
  exact ((Below.setCell (Oth.bel Hb1.out HO3.out hcw) (Nat.le_refl _) _).setCell (Nat.le_refl _) _).setCell (Nat.le_refl _) _
 have hvz : Dat.HoldVals wz (fun _ => True) t.D [.slice A0 n0 c0, .slice A1 n1 c1, .slice A2 n2 c2] := Dat.HoldVals.keep (by rw [hwz]; simp) (fun x o hb _ => World.cell?_of_block (hsame x (by have := hb.1; omega))) (fun _ _ => trivial) _ _ HV3.out
 obtain ⟨-, -, d0, d1, d2⟩ := PZ
 exact bodyPost_ret (v := .tuple #[.agg #[.slice A0 n0 c0, .slice A1 n1 c1, .slice A2 n2 c2], .int .i64 (k - 1)]) (by simp [results, Tryd.results5, d0, d1, d2, go_sem]; try rfl) rfl ⟨t, _, _, _, k - 1, rfl, hvz, HWT.out, by omega, by omega, hbz⟩
end Go.Proofs.YtdacpljinffnaaaDoor
