/- The least length and the first bytes of a pattern of few nodes. -/
import Derived.Test.YtdjbfneniohaaaaPP4
import Derived.Test.YtdjbfneniohaaaaPP14
import Derived.Test.YtdjbfneniohaaaaPJk
import Derived.Test.YtdjbfneniohaaaaPJg
import Derived.Test.YtdjbfneniohaaaaPFp6
namespace Go.Proofs.Ytdjbfneniohaaaa
set_option linter.unusedVariables false
set_option linter.unusedSimpArgs false
set_option maxRecDepth 100000
open Go.RowKit
set_option maxHeartbeats 400000 in
theorem implLeastLength_cnt (t : TPattern) (S : Nat → Prop) (w : World) (vs : List Value) (hv : Dat.HoldVals w S t.D vs) (hw : t.cnt ≤ 2000000) :
  Calls Try.prog 12 #[.agg vs.toArray] w fun e w' => e = .returned (.int .i64 (leastR t)) ∧ Bel w w' := by
 have HV := hide hv
 have HW := hide hw
 have hv' := hv
 obtain ⟨x0, x1, x2, x3, x4, x5⟩ := t
 obtain ⟨A, c, rfl, -⟩ := TPattern.vals hv'
 clear hv hv' hw
 cases hk : okP 24 (TPattern.mk x0 x1 x2 x3 x4 x5)
 ·
  have HK := hide hk
  clear hk
  go_enter Try.func12, Try.ntmps12
  go_wp2_with (fail)
  refine (implIsValidPattern_any _ _ _ _ _ (Dat.HoldVals.bel bl HV.out) HW.out).mono ?_
  rintro e w1 ⟨rfl, hb1⟩
  rw [HK.out]
  go_wp2_with (fail)
  all_goals
   go_returns
   exact ⟨ret_i64 (by unfold leastR; rw [HK.out]; rfl), bl⟩
 ·
  have HK := hide hk
  clear hk
  go_enter Try.func12, Try.ntmps12
  go_wp2_with (fail)
  refine (implIsValidPattern_any _ _ _ _ _ (Dat.HoldVals.bel bl HV.out) HW.out).mono ?_
  rintro e w1 ⟨rfl, hb1⟩
  rw [HK.out]
  (have hz1 := hb1.sz; obtain ⟨hk1_0, hf1_0, hl1_0, hn1_0⟩ := hb1.lay (w.heap.size))
  go_wp2_with (fail)
  refine (leastLength_any 24 _ _ _ _ (Dat.HoldVals.bel bl HV.out) (okP_vld HK.out).2.2.2).mono ?_
  rintro e w2 ⟨rfl, hb2⟩
  go_wp2_with (fail)
  all_goals
   go_returns
   exact ⟨ret_i64 (by unfold leastR; rw [HK.out]; rfl), bl⟩
def fbR (t : TPattern) : FB := if okP 24 t then t.fb else ⟨0, 0, true⟩
set_option maxHeartbeats 1000000 in
theorem specFirstBytes_cnt (t : TPattern) (S : Nat → Prop) (w : World) (vs : List Value) (hv : Dat.HoldVals w S t.D vs) (hw : t.cnt ≤ 2000000) :
  Calls Try.prog 14 #[.agg vs.toArray] w fun e w' => e = .returned (.tuple #[.agg #[.int .i64 (fbR t).lo, .int .i64 (fbR t).hi], .bool (fbR t).any]) ∧ Bel w w' := by
 have HV := hide hv
 have HW := hide hw
 have hv' := hv
 obtain ⟨x0, x1, x2, x3, x4, x5⟩ := t
 obtain ⟨A, c, rfl, -⟩ := TPattern.vals hv'
 clear hv hv' hw
 cases hk : okP 24 (TPattern.mk x0 x1 x2 x3 x4 x5)
 ·
  have HK := hide hk
  have HE : Hid (fbR (TPattern.mk x0 x1 x2 x3 x4 x5) = ⟨0, 0, true⟩) := by show _ = _; unfold fbR; rw [hk]; rfl
  clear hk
  go_enter Try.func14, Try.ntmps14
  go_wp2_with (fail)
  refine (specIsValidPattern_any _ _ _ _ _ (Dat.HoldVals.bel bl HV.out)).mono ?_
  rintro e w1 ⟨rfl, hb1⟩
  rw [HK.out]
  (have hz1 := hb1.sz; obtain ⟨hk1_0, hf1_0, hl1_0, hn1_0⟩ := hb1.lay (w.heap.size); obtain ⟨hk1_1, hf1_1, hl1_1, hn1_1⟩ := hb1.lay (w.heap.size + 1))
  go_wp2_with (fail)
  all_goals exact bodyPost_ret (v := .tuple #[.agg #[.int .i64 0, .int .i64 0], .bool true]) (by simp [results, Try.results14, go_sem, hk1_1, hf1_1, hl1_1, hn1_1]) rfl ⟨by rw [HE.out], bl⟩
 ·
  have HK := hide hk
  have HE : Hid (fbR (TPattern.mk x0 x1 x2 x3 x4 x5) = (TPattern.mk x0 x1 x2 x3 x4 x5).fb) := by show _ = _; unfold fbR; rw [hk]; rfl
  clear hk
  go_enter Try.func14, Try.ntmps14
  go_wp2_with (fail)
  refine (specIsValidPattern_any _ _ _ _ _ (Dat.HoldVals.bel bl HV.out)).mono ?_
  rintro e w1 ⟨rfl, hb1⟩
  rw [HK.out]
  (have hz1 := hb1.sz; obtain ⟨hk1_0, hf1_0, hl1_0, hn1_0⟩ := hb1.lay (w.heap.size); obtain ⟨hk1_1, hf1_1, hl1_1, hn1_1⟩ := hb1.lay (w.heap.size + 1))
  go_wp2_with (fail)
  refine (l21First_any 24 _ _ _ _ (Dat.HoldVals.bel bl HV.out) (okP_vld HK.out).2.2.2).mono ?_
  rintro e w2 ⟨rfl, hb2⟩
  generalize (TPattern.mk x0 x1 x2 x3 x4 x5).fb = r at HE ⊢
  obtain ⟨r0, r1, r2⟩ := r
  simp only
  (have hz2 := hb2.sz; obtain ⟨hk2_0, hf2_0, hl2_0, hn2_0⟩ := hb2.lay (w.heap.size); obtain ⟨hk2_1, hf2_1, hl2_1, hn2_1⟩ := hb2.lay (w.heap.size + 1))
  go_wp2_with (fail)
  all_goals exact bodyPost_ret (v := .tuple #[.agg #[.int .i64 r0, .int .i64 r1], .bool r2]) (by simp [results, Try.results14, go_sem, hk1_1, hf1_1, hl1_1, hn1_1, hk2_1, hf2_1, hl2_1, hn2_1]) rfl ⟨by rw [HE.out], bl⟩
set_option maxHeartbeats 1000000 in
theorem implFirstBytes_cnt (t : TPattern) (S : Nat → Prop) (w : World) (vs : List Value) (hv : Dat.HoldVals w S t.D vs) (hw : t.cnt ≤ 2000000) :
  Calls Try.prog 13 #[.agg vs.toArray] w fun e w' => e = .returned (.tuple #[.agg #[.int .i64 (fbR t).lo, .int .i64 (fbR t).hi], .bool (fbR t).any]) ∧ Bel w w' := by
 have HV := hide hv
 have HW := hide hw
 have hv' := hv
 obtain ⟨x0, x1, x2, x3, x4, x5⟩ := t
 obtain ⟨A, c, rfl, -⟩ := TPattern.vals hv'
 clear hv hv' hw
 cases hk : okP 24 (TPattern.mk x0 x1 x2 x3 x4 x5)
 ·
  have HK := hide hk
  have HE : Hid (fbR (TPattern.mk x0 x1 x2 x3 x4 x5) = ⟨0, 0, true⟩) := by show _ = _; unfold fbR; rw [hk]; rfl
  clear hk
  go_enter Try.func13, Try.ntmps13
  go_wp2_with (fail)
  refine (implIsValidPattern_any _ _ _ _ _ (Dat.HoldVals.bel bl HV.out) HW.out).mono ?_
  rintro e w1 ⟨rfl, hb1⟩
  rw [HK.out]
  (have hz1 := hb1.sz; obtain ⟨hk1_0, hf1_0, hl1_0, hn1_0⟩ := hb1.lay (w.heap.size); obtain ⟨hk1_1, hf1_1, hl1_1, hn1_1⟩ := hb1.lay (w.heap.size + 1))
  go_wp2_with (fail)
  all_goals exact bodyPost_ret (v := .tuple #[.agg #[.int .i64 0, .int .i64 0], .bool true]) (by simp [results, Try.results13, go_sem, hk1_1, hf1_1, hl1_1, hn1_1]) rfl ⟨by rw [HE.out], bl⟩
 ·
  have HK := hide hk
  have HE : Hid (fbR (TPattern.mk x0 x1 x2 x3 x4 x5) = (TPattern.mk x0 x1 x2 x3 x4 x5).fb) := by show _ = _; unfold fbR; rw [hk]; rfl
  clear hk
  go_enter Try.func13, Try.ntmps13
  go_wp2_with (fail)
  refine (implIsValidPattern_any _ _ _ _ _ (Dat.HoldVals.bel bl HV.out) HW.out).mono ?_
  rintro e w1 ⟨rfl, hb1⟩
  rw [HK.out]
  (have hz1 := hb1.sz; obtain ⟨hk1_0, hf1_0, hl1_0, hn1_0⟩ := hb1.lay (w.heap.size); obtain ⟨hk1_1, hf1_1, hl1_1, hn1_1⟩ := hb1.lay (w.heap.size + 1))
  go_wp2_with (fail)
  refine (firstBytes_any 24 _ _ _ _ (Dat.HoldVals.bel bl HV.out) (okP_vld HK.out).2.2.2).mono ?_
  rintro e w2 ⟨rfl, hb2⟩
  generalize (TPattern.mk x0 x1 x2 x3 x4 x5).fb = r at HE ⊢
  obtain ⟨r0, r1, r2⟩ := r
  simp only
  (have hz2 := hb2.sz; obtain ⟨hk2_0, hf2_0, hl2_0, hn2_0⟩ := hb2.lay (w.heap.size); obtain ⟨hk2_1, hf2_1, hl2_1, hn2_1⟩ := hb2.lay (w.heap.size + 1))
  go_wp2_with (fail)
  all_goals exact bodyPost_ret (v := .tuple #[.agg #[.int .i64 r0, .int .i64 r1], .bool r2]) (by simp [results, Try.results13, go_sem, hk1_1, hf1_1, hl1_1, hn1_1, hk2_1, hf2_1, hl2_1, hn2_1]) rfl ⟨by rw [HE.out], bl⟩
end Go.Proofs.Ytdjbfneniohaaaa
namespace Go.Proofs.Ytdjbfneniohaaaa
set_option linter.unusedVariables false
set_option linter.unusedSimpArgs false
set_option maxRecDepth 100000
open Go.RowKit
theorem bitI_orB (x : Int) (b : Nat) (h : b < 64) : bitI (orB x b) b = true := by
 unfold orB bitI
 have e : BitVec.ofInt 64 (IntKind.i64.wrap ((BitVec.ofInt 64 x ||| BitVec.twoPow 64 b).toNat : Int)) = (BitVec.ofInt 64 x ||| BitVec.twoPow 64 b) := by
  apply BitVec.eq_of_toNat_eq
  have := (BitVec.ofInt 64 x ||| BitVec.twoPow 64 b).isLt
  rw [BitVec.toNat_ofInt, IntKind.wrap_i64]
  generalize (BitVec.ofInt 64 x ||| BitVec.twoPow 64 b).toNat = n at *
  omega
 rw [e, BitVec.getLsbD_or, BitVec.getLsbD_twoPow]
 simp [h]
theorem hasBit_one (b : Nat) (h : b ≤ 127) : hasBit (addLo 0 b) (addHi 0 b) b = true := by
 unfold hasBit addLo addHi
 by_cases hb : b < 64
 ·
  simp only [if_pos hb]
  exact bitI_orB 0 b hb
 ·
  simp only [if_neg hb]
  rw [if_pos (by omega)]
  exact bitI_orB 0 (b - 64) (by omega)
theorem fbT_bit {t : ByteArray} (h : (fbT t).any = false) : 0 < t.size ∧ hasBit (fbT t).lo (fbT t).hi (byteAt t 0) = true := by
 unfold fbT at h ⊢
 by_cases h0 : t.size = 0
 ·
  rw [if_pos h0] at h
  cases h
 ·
  rw [if_neg h0] at h ⊢
  have hp : 0 < t.size := by omega
  simp only [Bool.not_eq_false'] at h
  by_cases hb : byteAt t 0 ≤ 127
  ·
   refine ⟨hp, ?_⟩
   have e := ns1 _ (head_size hp)
   rw [head_byte hp, if_pos hb] at e
   show hasBit (nsLo _) (nsHi _) _ = true
   unfold nsLo nsHi
   rw [e]
   exact hasBit_one _ hb
  ·
   rw [(fbT_hi hp hb).1] at h
   cases h
theorem endsE_first {vars : Int} {ds : List TPattern} {s : ByteArray} (hds : ∀ q ∈ ds, q.vld vars = true) : ∀ (d f : Nat) (p : TPattern) (a : Nat), p.vld vars = true → a ≤ s.size → ∀ l st g, endsE ds s d f p a = some (l, st, g) → p.fb.any = false → l ≠ [] → a < s.size ∧ hasBit p.fb.lo p.fb.hi (byteAt s a) = true
 | 0, f, p, a, _, _, l, st, g, h => by simp [endsE] at h
 | d + 1, 0, p, a, _, _, l, st, g, h => by simp [endsE] at h
 | d + 1, f + 1, .mk op t n lo hi ks, a, hv, ha, l, st, g, h => by
  have IH := endsE_first (s := s) hds d
  intro hf hne
  unfold endsE at h
  by_cases h14 : op = 14
  ·
   rw [if_neg (by omega), if_neg (by omega), if_pos h14] at h
   obtain ⟨p, q, rfl, hp, hq⟩ := TPattern.kids2 hv (by subst h14; rfl)
   have hfb : (TPattern.mk op t n lo hi [p, q]).fb = p.fb := by subst h14; simp [TPattern.fb, TPattern.fbs]
   rw [hfb] at hf ⊢
   simp only at h
   cases he : endsE ds s d f p a with
   | none => rw [he] at h; simp at h
   | some y =>
    obtain ⟨first, stop, g1⟩ := y
    rw [he] at h
    simp only at h
    obtain ⟨halt, ht, -⟩ := orE_some h
    refine IH f p a hp ha first stop g1 he hf (fun e => ?_)
    subst e
    unfold thenE at ht
    simp only [Option.some.injEq, Prod.mk.injEq] at ht
    exact hne ht.1.symm
  by_cases h15 : op = 15
  ·
   rw [if_neg (by omega), if_neg (by omega), if_neg h14, if_pos h15] at h
   obtain ⟨p, q, rfl, hp, hq⟩ := TPattern.kids2 hv (by subst h15; rfl)
   have hfb : (TPattern.mk op t n lo hi [p, q]).fb = if p.fb.any = true ∨ q.fb.any = true then ⟨0, 0, true⟩ else ⟨bits .or .i64 p.fb.lo q.fb.lo, bits .or .i64 p.fb.hi q.fb.hi, false⟩ := by subst h15; simp [TPattern.fb, TPattern.fbs]
   rw [hfb] at hf ⊢
   by_cases hany : p.fb.any = true ∨ q.fb.any = true
   ·
    rw [if_pos hany] at hf
    cases hf
   rw [if_neg hany]
   simp only
   rw [hasBit_or, Bool.or_eq_true]
   have hpa : p.fb.any = false := by cases hh : p.fb.any with
    | false => rfl
    | true => exact absurd (Or.inl hh) hany
   have hqa : q.fb.any = false := by cases hh : q.fb.any with
    | false => rfl
    | true => exact absurd (Or.inr hh) hany
   simp only at h
   cases he : endsE ds s d f p a with
   | none => rw [he] at h; simp at h
   | some y =>
    obtain ⟨first, stop, g1⟩ := y
    rw [he] at h
    cases stop with
    | true =>
     simp only at h
     obtain ⟨rfl, -⟩ := one_in h
     have := IH f p a hp ha l true g1 he hpa hne
     exact ⟨this.1, Or.inl this.2⟩
    | false =>
     simp only at h
     cases hf2 : endsE ds s d g1 q a with
     | none => rw [hf2] at h; simp at h
     | some y =>
      obtain ⟨second, halt, g2⟩ := y
      rw [hf2] at h
      simp only at h
      obtain ⟨rfl, -⟩ := one_in h
      by_cases h1 : first = []
      ·
       have h2 : second ≠ [] := fun e => hne (by rw [h1, e]; rfl)
       have := IH g1 q a hq ha second halt g2 hf2 hqa h2
       exact ⟨this.1, Or.inr this.2⟩
      ·
       have := IH f p a hp ha first false g1 he hpa h1
       exact ⟨this.1, Or.inl this.2⟩
  by_cases h16 : op = 16
  ·
   rw [if_neg (by omega), if_neg (by omega), if_neg h14, if_neg h15, if_pos h16] at h
   obtain ⟨p, rfl, hp⟩ := TPattern.kids1 hv (by subst h16; rfl)
   have hfb : (TPattern.mk op t n lo hi [p]).fb = p.fb := by subst h16; simp [TPattern.fb, TPattern.fbs]
   rw [hfb] at hf ⊢
   simp only at h
   cases he : endsE ds s d f p a with
   | none => rw [he] at h; simp at h
   | some y =>
    obtain ⟨first, stop, g1⟩ := y
    rw [he] at h
    simp only at h
    obtain ⟨rfl, -⟩ := one_in h
    exact IH f p a hp ha first stop g1 he hf (fun e => hne (by rw [e]; rfl))
  by_cases h17 : op = 17
  ·
   rw [if_neg (by omega), if_neg (by omega), if_neg h14, if_neg h15, if_neg h16, if_pos h17] at h
   obtain ⟨p, rfl, hp⟩ := TPattern.kids1 hv (by subst h17; rfl)
   have hfb : (TPattern.mk op t n lo hi [p]).fb = p.fb := by subst h17; simp [TPattern.fb, TPattern.fbs]
   rw [hfb] at hf ⊢
   exact IH f p a hp ha l st g h hf hne
  by_cases hone : op = 1 ∨ op = 7 ∨ op = 9 ∨ op = 23
  ·
   rw [if_neg (by omega), if_neg (by omega), if_neg h14, if_neg h15, if_neg h16, if_neg h17, if_neg (by omega), if_neg (by omega), if_neg (by omega), if_neg (by omega)] at h
   cases ho : oneE op n lo hi t s a with
   | none =>
    rw [ho] at h
    simp only at h
    obtain ⟨rfl, -⟩ := one_in h
    exact absurd rfl hne
   | some e =>
    unfold oneE at ho
    rcases hone with rfl | rfl | rfl | rfl
    ·
     rw [if_pos rfl] at ho
     obtain ⟨c, rfl⟩ := ite_some ho
     have hfb : (TPattern.mk 1 t n lo hi ks).fb = fbT t := by simp [TPattern.fb]
     rw [hfb] at hf ⊢
     obtain ⟨h1, h2⟩ := fbT_bit hf
     refine ⟨by omega, ?_⟩
     have hb : byteAt t 0 = byteAt s a := by
      rw [← byteAt_eq t 0 h1, ← byteAt_eq s a (by omega)]
      have e2 := c.2
      have h3 : 0 < (s.extract a (a + t.size)).size := by rw [e2]; exact h1
      have e3 : (s.extract a (a + t.size))[0]'h3 = t[0] := by simp only [e2]
      rw [← e3, ByteArray.getElem_extract]
      simp
     rw [← hb]
     exact h2
    ·
     simp only [show ((7 : Int) = 1) = False by simp, show ((7 : Int) = 2) = False by simp, show ((7 : Int) = 3) = False by simp, show ((7 : Int) = 4) = False by simp, show ((7 : Int) = 5) = False by simp, show ((7 : Int) = 6) = False by simp, if_false, true_or, if_true] at ho
     obtain ⟨c, rfl⟩ := ite_some ho
     have hfb : (TPattern.mk 7 t n lo hi ks).fb = ⟨lo, hi, false⟩ := by simp [TPattern.fb]
     rw [hfb]
     exact ⟨c.1, by simpa using c.2⟩
    ·
     rw [if_neg (by decide), if_neg (by decide), if_neg (by decide), if_neg (by decide), if_neg (by decide), if_neg (by decide), if_neg (by decide), if_pos rfl] at ho
     obtain ⟨c, rfl⟩ := ite_some ho
     have hfb : (TPattern.mk 9 t n lo hi ks).fb = ⟨lo, hi, false⟩ := by simp [TPattern.fb]
     rw [hfb]
     by_cases hlt : a < s.size
     ·
      refine ⟨hlt, ?_⟩
      rw [show s.size - a = (s.size - a - 1) + 1 by omega] at c
      unfold scanE at c
      by_cases hh : hasBit lo hi (byteAt s a) = true
      ·
       exact hh
      ·
       rw [if_neg hh] at c
       omega
     ·
      rw [show s.size - a = 0 by omega] at c
      unfold scanE at c
      omega
    ·
     rw [if_neg (by decide), if_neg (by decide), if_neg (by decide), if_neg (by decide), if_neg (by decide), if_neg (by decide), if_neg (by decide), if_neg (by decide), if_neg (by decide), if_neg (by decide), if_neg (by decide)] at ho
     cases ho
  ·
   exfalso
   simp only [TPattern.fb] at hf
   rw [if_neg (by omega), if_neg (by omega), if_neg (by omega), if_neg h15, if_neg (by omega)] at hf
   cases hf
theorem endT_some {ds : List TPattern} {p : TPattern} {s : ByteArray} {a : Int} {es : List TEnding} {st ok : Bool} (h : endT ds p s a = (es, st, ok)) :
  (es = [] ∧ ok = false) ∨ (ok = true ∧ okD ds p = true ∧ 0 ≤ a ∧ a ≤ s.size ∧ ∃ g, endsE ds s 3000 3000 p a.toNat = some (es, st, g)) := by
 unfold endT at h
 split at h
 ·
  rename_i hc
  unfold endV at h
  cases he : endsE ds s 3000 3000 p a.toNat with
  | none =>
   rw [he] at h
   simp only [Prod.mk.injEq] at h
   exact Or.inl ⟨h.1.symm, h.2.2.symm⟩
  | some y =>
   obtain ⟨l, st', g⟩ := y
   rw [he] at h
   simp only [Prod.mk.injEq] at h
   obtain ⟨rfl, rfl, rfl⟩ := h
   exact Or.inr ⟨rfl, hc.1, hc.2.2.1, hc.2.2.2, g, rfl⟩
 ·
  simp only [Prod.mk.injEq] at h
  exact Or.inl ⟨h.1.symm, h.2.2.symm⟩
theorem ends_good {ds : List TPattern} {p : TPattern} {s : ByteArray} {a : Int} {es : List TEnding} {st ok : Bool} (h : endT ds p s a = (es, st, ok)) :
  ∀ (k : Nat) (hk : k < es.length), ∃ K : Nat, es[k].pos = K ∧ K ≤ s.size ∧ a + leastR p ≤ K ∧ ∀ (j : Nat) (hj : j < es[k].cs.length), a ≤ es[k].cs[j].fr ∧ es[k].cs[j].fr ≤ es[k].cs[j].to ∧ es[k].cs[j].to ≤ K ∧ es[k].cs[j].var < ds.length := by
 rcases endT_some h with ⟨rfl, -⟩ | ⟨-, hok, h0, h1, g, he⟩
 ·
  intro k hk
  simp at hk
 ·
  intro k hk
  obtain ⟨hp, hds⟩ := okD_parts hok
  obtain ⟨-, -, h3⟩ := endsE_ok (s := s) hds 3000 3000 p a.toNat hp (by omega) es st g he
  obtain ⟨K, e1, e2, e3, e4, e5⟩ := h3 es[k] (List.getElem_mem hk)
  have e6 := endsE_least (s := s) hds 3000 3000 p a.toNat hp (by omega) es st g he es[k] (List.getElem_mem hk)
  have e7 : leastR p = p.least ∨ leastR p = 0 := by unfold leastR; split; exact Or.inl rfl; exact Or.inr rfl
  refine ⟨K, e1, e3, by omega, fun j hj => ?_⟩
  have := e5 _ (List.getElem_mem hj)
  omega
theorem leastR_in {p : TPattern} : 0 ≤ leastR p ∧ leastR p ≤ 121 := by
 unfold leastR
 split
 ·
  rename_i h
  exact TPattern.least_in p (okP_vld h).2.2.2
 ·
  omega
theorem ends_first {ds : List TPattern} {p : TPattern} {s : ByteArray} {a : Int} {es : List TEnding} {st ok : Bool} (h : endT ds p s a = (es, st, ok)) (hf : (fbR p).any = false) (hne : es ≠ []) :
  0 ≤ a ∧ a < s.size ∧ hasBit (fbR p).lo (fbR p).hi (byteAt s a.toNat) = true := by
 rcases endT_some h with ⟨rfl, -⟩ | ⟨-, hok, h0, h1, g, he⟩
 ·
  exact absurd rfl hne
 ·
  obtain ⟨hp, hds⟩ := okD_parts hok
  unfold fbR at hf ⊢
  split at hf
  ·
   rename_i hk
   rw [if_pos hk]
   have := endsE_first (s := s) hds 3000 3000 p a.toNat hp (by omega) es st g he hf hne
   exact ⟨h0, by omega, this.2⟩
  ·
   cases hf
theorem arbno_law {ds : List TPattern} {p : TPattern} {s : ByteArray} {a : Int} {t1 t2 t3 t4 t5 : ByteArray} {n1 n2 n3 n4 l1 l2 l3 l4 h1 h2 h3 h4 : Int} {la lb lc : List TEnding} {sa sb sc : Bool}
  (hA : endT ds (.mk 13 t1 n1 l1 h1 [p]) s a = (la, sa, true)) (hB : endT ds (.mk 15 t2 n2 l2 h2 [.mk 22 t3 n3 l3 h3 [], .mk 14 t4 n4 l4 h4 [p, .mk 13 t1 n1 l1 h1 [p]]]) s a = (lb, sb, true)) (hC : endT ds p s a = (lc, sc, true)) (hall : ∀ x ∈ lc, a < x.pos) : la = lb ∧ sa = sb := by
 rcases endT_some hA with ⟨-, h⟩ | ⟨-, hok, h0, h9, g, hea⟩
 ·
  cases h
 rcases endT_some hB with ⟨-, h⟩ | ⟨-, hokB, -, -, g', heb⟩
 ·
  cases h
 rcases endT_some hC with ⟨-, h⟩ | ⟨-, hokC, -, -, g'', hec⟩
 ·
  cases h
 obtain ⟨hvm, hds⟩ := okD_parts hok
 obtain ⟨hp, -⟩ := okD_parts hokC
 unfold endsE at hea heb
 rw [if_neg (by decide), if_pos rfl] at hea
 rw [if_neg (by decide), if_neg (by decide), if_neg (by decide), if_pos rfl] at heb
 simp only at hea heb
 cases he1 : endsE ds s 2999 2999 p a.toNat with
 | none => rw [he1] at hea; simp at hea
 | some y =>
  obtain ⟨first, stop, k1⟩ := y
  rw [he1] at hea
  simp only at hea
  obtain ⟨halt, ht, rfl⟩ := orE_some hea
  obtain ⟨rfl, -⟩ := endsE_agree (s := s) hds 3000 2999 3000 2999 p a.toNat hp lc sc g'' first stop k1 hec he1
  have he22 : endsE ds s 2999 2999 (.mk 22 t3 n3 l3 h3 []) a.toNat = some ([.mk a.toNat []], false, 2998) := by
   unfold endsE
   simp [oneE]
  rw [he22] at heb
  simp only at heb
  cases he2 : endsE ds s 2999 2998 (.mk 14 t4 n4 l4 h4 [p, .mk 13 t1 n1 l1 h1 [p]]) a.toNat with
  | none => rw [he2] at heb; simp at heb
  | some y =>
   obtain ⟨second, halt2, k2⟩ := y
   rw [he2] at heb
   simp only at heb
   obtain ⟨rfl, rfl⟩ := one_in heb
   unfold endsE at he2
   rw [if_neg (by decide), if_neg (by decide), if_pos rfl] at he2
   simp only at he2
   cases he3 : endsE ds s 2998 2997 p a.toNat with
   | none => rw [he3] at he2; simp at he2
   | some y =>
    obtain ⟨first', stop', k3⟩ := y
    rw [he3] at he2
    simp only at he2
    obtain ⟨halt3, ht3, rfl⟩ := orE_some he2
    obtain ⟨rfl, rfl⟩ := endsE_agree (s := s) hds 2999 2998 2999 2997 p a.toNat hp lc stop k1 first' stop' k3 he1 he3
    obtain ⟨m, rfl, rfl, rfl⟩ := thenE_agree (fun f f' x r st g r' st' g' z z' => endsE_agree (s := s) hds 2999 2998 f f' _ x hvm r st g r' st' g' z z') lc k1 k3 [.mk a.toNat []] [] (fun x hx => by
     have := hall x hx
     omega) _ _ _ _ _ _ ht ht3
    exact ⟨by simp, rfl⟩
end Go.Proofs.Ytdjbfneniohaaaa
namespace Go.Proofs.Ytdjbfneniohaaaa
set_option linter.unusedVariables false
set_option linter.unusedSimpArgs false
set_option maxRecDepth 100000
open Go.RowKit
theorem lawBig_any (A : Option Addr) (n cap : Nat) (w : World) :
  Calls Try.prog 7 #[.slice A n cap] w fun e w' => e = .returned (.bool (decide ((1048576 : Int) < (n : Int)))) ∧ w = w' := by
 go_enter Try.func7, Try.ntmps7
 go_wp2
 all_goals
  go_returns
  exact ⟨rfl, rfl⟩
structure DrE (w0 w : World) (A : Option Addr) (c : Nat) (ds : List TPattern) (b : Nat) (x0 : Int) (x1 : ByteArray) (x2 x3 x4 : Int) (A5 : Option Addr) (c5 : Nat) (x5 : List TPattern) : Prop where
 bel : Bel w0 w
 row : Row w (fun _ => True) 6 A c (ds.map TPattern.D)
 vals : Dat.HoldVals w (fun _ => True) (TPattern.mk x0 x1 x2 x3 x4 x5).D [.int .i64 x0, .string x1, .int .i64 x2, .int .i64 x3, .int .i64 x4, .slice A5 x5.length c5]
 box : PB w b (.int .i64 x0) (.string x1) (.int .i64 x2) (.int .i64 x3) (.int .i64 x4) (.slice A5 x5.length c5)
theorem DrE.on {w0 w w' : World} {A : Option Addr} {c : Nat} {ds : List TPattern} {b : Nat} {x0 : Int} {x1 : ByteArray} {x2 x3 x4 : Int} {A5 : Option Addr} {c5 : Nat} {x5 : List TPattern} (h : DrE w0 w A c ds b x0 x1 x2 x3 x4 A5 c5 x5) (k : Bel w w') : DrE w0 w' A c ds b x0 x1 x2 x3 x4 A5 c5 x5 :=
 ⟨h.bel.trans k, h.row.bel k, h.vals.bel k, h.box.on k⟩
def B2 (w : World) (b : Nat) (v0 v1 : Value) : Prop := b < w.heap.size ∧ w.cell? ⟨b, 0, none⟩ = some v0 ∧ w.cell? ⟨b, 1, none⟩ = some v1
theorem B2.on {w w' : World} {b : Nat} {v0 v1 : Value} (h : B2 w b v0 v1) (k : Bel w w') : B2 w' b v0 v1 := ⟨Nat.lt_of_lt_of_le h.1 k.size, (k.box b h.1 0).trans h.2.1, (k.box b h.1 1).trans h.2.2⟩
theorem EndsMade.row {w w' : World} {r : List TEnding × Bool × Bool} {e : Ending} (h : EndsMade w r e w') : ∃ B d, e = .returned (.tuple #[.slice B r.1.length d, .bool r.2.1, .bool r.2.2]) ∧ Row w' (fun _ => True) 2 B d (r.1.map TEnding.D) ∧ Bel w w' := by
 obtain ⟨v, L, rfl, hO, -, hb⟩ := h
 obtain ⟨B, d, rfl, hr⟩ := hO.row (S := fun _ => True) (fun _ _ => trivial)
 rw [List.length_map]
 exact ⟨B, d, rfl, hr, hb⟩
end Go.Proofs.Ytdjbfneniohaaaa
