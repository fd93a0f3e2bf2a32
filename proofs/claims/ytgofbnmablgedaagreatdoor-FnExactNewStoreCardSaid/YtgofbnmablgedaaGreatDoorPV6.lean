/- Valid programs: what decides; the program's list of records. -/
import Derived.Test.YtgofbnmablgedaaGreatDoorPV3z
import Derived.Test.YtgofbnmablgedaaGreatDoorPV4
import Derived.Test.YtgofbnmablgedaaGreatDoorPTV
import Derived.Test.YtgofbnmablgedaaGreatDoorPP4C
namespace Go.Proofs.YtgofbnmablgedaaGreatDoor
set_option linter.unusedVariables false
set_option linter.unusedSimpArgs false
set_option maxRecDepth 100000
open Go.RowKit
def TRecordType.name : TRecordType → ByteArray | .mk x _ _ => x
def TRecordType.fields : TRecordType → List ByteArray | .mk _ x _ => x
def TRecordType.line : TRecordType → Int | .mk _ _ x => x
def recB (r : TRecordType) : Bool := nameB r.name && r.fields.all nameB && decide (r.fields.length ≤ 6) && !twiceB r.fields && decide (0 ≤ r.line)
theorem all_mem {α : Type} {f : α → Bool} {l : List α} (h : ∀ j (hj : j < l.length), f l[j] = true) : l.all f = true := List.all_eq_true.2 fun x hx => by
 obtain ⟨k, hk, rfl⟩ := List.mem_iff_getElem.1 hx
 exact h k hk
def TRoutine.body : TRoutine → TCore | .mk _ _ _ k op n li t ks => .mk k op n li t ks
def TRoutine.nm : TRoutine → ByteArray | .mk x _ _ _ _ _ _ _ _ => x
def TRoutine.par : TRoutine → Int | .mk _ x _ _ _ _ _ _ _ => x
def TRoutine.slo : TRoutine → List ByteArray | .mk _ _ x _ _ _ _ _ _ => x
def rtB (gl ro re : Int) (r : TRoutine) : Bool := nameB r.nm && decide (r.slo.length ≤ 24) && decide (0 ≤ r.par) && decide (r.par ≤ (r.slo.length : Int)) && !(r.slo.any badS) && decide (r.body.dep ≤ 400) && r.body.vld (r.slo.length : Int) gl ro re false false
def cntR : List TRoutine → Nat
 | [] => 0
 | x :: r => x.body.cnt + cntR r
def mainB (R : List TRoutine) (mn : Int) : Bool := decide (0 ≤ mn) && decide (mn < (R.length : Int)) && (match R[mn.toNat]? with | some r => decide (r.par = 0) | none => false)
def progB : TProgram → Bool
 | .mk R C G mn => decide (1 ≤ R.length) && decide (R.length ≤ 12) && decide (C.length ≤ 8) && G.all nameB && decide (G.length ≤ 12) && mainB R mn && C.all recB && R.all (rtB (G.length : Int) (R.length : Int) (C.length : Int)) && decide (cntR R ≤ 40000)
theorem cntR_take : ∀ (l : List TRoutine) (k : Nat) (h : k < l.length), cntR (l.take (k + 1)) = cntR (l.take k) + l[k].body.cnt
 | x :: r, 0, _ => by simp [cntR]
 | x :: r, k + 1, h => by
  have := cntR_take r k (by simpa using h)
  simp only [List.take_succ_cons, cntR, List.getElem_cons_succ, this]
  omega
theorem cntR_bound (b : Nat) : ∀ (l : List TRoutine), (∀ x ∈ l, TCore.cnt (TRoutine.body x) ≤ b) → cntR l ≤ l.length * b
 | [], _ => by simp [cntR]
 | x :: r, h => by
  have h1 := h x (by simp)
  have h2 := cntR_bound b r (fun y hy => h y (by simp [hy]))
  simp only [cntR, List.length_cons, Nat.add_mul, Nat.one_mul]
  omega
theorem cntR_twelve (l : List TRoutine) (m : Nat) (h : ∀ k (hk : k < l.length), l[k].body.cnt ≤ 1048577) (hl : l.length ≤ 12) : cntR (l.take m) ≤ 12582924 := by
 have h1 := cntR_bound 1048577 (l.take m) (fun x hx => by
  obtain ⟨k, hk, rfl⟩ := List.mem_iff_getElem.1 hx
  rw [List.getElem_take]
  exact h k (by simp at hk; omega))
 have h2 : (l.take m).length ≤ 12 := by simp; omega
 generalize (l.take m).length = n at h1 h2
 generalize cntR (l.take m) = c at h1
 clear h
 omega
theorem main_yes {R : List TRoutine} {m : Nat} (h : m < R.length) (h0 : R[m].par = 0) : mainB R (m : Int) = true := by
 unfold mainB
 rw [decide_eq_true (by omega), decide_eq_true (by omega), Int.toNat_natCast, List.getElem?_eq_getElem h]
 simp [h0]
theorem main_no {R : List TRoutine} {m : Nat} (h : m < R.length) (h0 : ¬ R[m].par = 0) : mainB R (m : Int) = false := by
 unfold mainB
 rw [Int.toNat_natCast, List.getElem?_eq_getElem h]
 simp [h0]
theorem main_out {R : List TRoutine} {mn : Int} (h : ¬ (0 ≤ mn ∧ mn < (R.length : Int))) : mainB R mn = false := by
 unfold mainB
 by_cases h0 : 0 ≤ mn
 ·
  rw [decide_eq_false (show ¬ mn < (R.length : Int) from fun q => h ⟨h0, q⟩)]; simp
 ·
  rw [decide_eq_false h0]; simp
abbrev headP (R : List TRoutine) (C : List TRecordType) (G : List ByteArray) (mn : Int) : Bool := decide (1 ≤ R.length) && decide (R.length ≤ 12) && decide (C.length ≤ 8) && G.all nameB && decide (G.length ≤ 12) && mainB R mn
theorem head_names {R : List TRoutine} {C : List TRecordType} {G : List ByteArray} {mn : Int} (h : (G.all nameB && decide ((G.length : Int) ≤ 12)) = false) : headP R C G mn = false := by
 unfold headP
 rw [Bool.and_eq_false_iff, decide_eq_false_iff_not] at h
 rcases h with h | h
 ·
  rw [h]; simp
 ·
  rw [decide_eq_false (show ¬ G.length ≤ 12 by omega)]; simp
theorem prog_head {R : List TRoutine} {C : List TRecordType} {G : List ByteArray} {mn : Int} (h : headP R C G mn = false) : progB (.mk R C G mn) = false := by
 unfold headP at h
 simp only [progB, h, Bool.false_and]
theorem prog_recs {R : List TRoutine} {C : List TRecordType} {G : List ByteArray} {mn : Int} (h : (C.all recB && decide (C.length ≤ 8)) = false) : progB (.mk R C G mn) = false := by
 rw [Bool.and_eq_false_iff] at h
 rcases h with h | h
 ·
  simp only [progB, h, Bool.false_and, Bool.and_false]
 ·
  exact prog_head (by unfold headP; rw [h]; simp)
theorem prog_rec {R : List TRoutine} {C : List TRecordType} {G : List ByteArray} {mn : Int} (m : Nat) (hm : m < C.length) (h : recB C[m] = false) : progB (.mk R C G mn) = false := by
 have : C.all recB = false := List.all_eq_false.2 ⟨_, List.getElem_mem hm, by rw [h]; simp⟩
 simp only [progB, this, Bool.false_and, Bool.and_false]
theorem prog_rt {R : List TRoutine} {C : List TRecordType} {G : List ByteArray} {mn : Int} (m : Nat) (hm : m < R.length) (h : rtB (G.length : Int) (R.length : Int) (C.length : Int) R[m] = false) : progB (.mk R C G mn) = false := by
 have : R.all (rtB (G.length : Int) (R.length : Int) (C.length : Int)) = false := List.all_eq_false.2 ⟨_, List.getElem_mem hm, by rw [h]; simp⟩
 simp only [progB, this, Bool.false_and, Bool.and_false]
theorem prog_end {R : List TRoutine} {C : List TRecordType} {G : List ByteArray} {mn : Int} (h1 : headP R C G mn = true) (h2 : ∀ j (hj : j < C.length), recB C[j] = true) (h3 : ∀ j (hj : j < R.length), rtB (G.length : Int) (R.length : Int) (C.length : Int) R[j] = true) : progB (.mk R C G mn) = decide (cntR R ≤ 40000) := by
 have a2 : C.all recB = true := List.all_eq_true.2 fun x hx => by
  obtain ⟨k, hk, rfl⟩ := List.mem_iff_getElem.1 hx
  exact h2 k hk
 have a3 : R.all (rtB (G.length : Int) (R.length : Int) (C.length : Int)) = true := List.all_eq_true.2 fun x hx => by
  obtain ⟨k, hk, rfl⟩ := List.mem_iff_getElem.1 hx
  exact h3 k hk
 unfold headP at h1
 simp only [progB, h1, a2, a3, Bool.true_and]
abbrev ProgC (f : FuncId) (t : TProgram) : Prop := ∀ (S : Nat → Prop) (w : World) (vs : List Value), Sp w → Dat.HoldVals w S t.D vs → Dat.wtL t.D ≤ 1048576 → Calls Tryz.prog f #[.agg vs.toArray] w fun e w' => e = .returned (.bool (progB t)) ∧ Bel w w'
theorem wtR_getV : ∀ (l : List (List Dat)) (i : Nat) (h : i < l.length), Dat.wtL l[i] ≤ Dat.wtR l
 | x :: r, 0, _ => by simp only [Dat.wtR, List.getElem_cons_zero]; omega
 | x :: r, i + 1, h => by
  have := wtR_getV r i (by simpa using h)
  simp only [Dat.wtR, List.getElem_cons_succ]; omega
theorem rt_wt {l : List TRoutine} {m : Nat} (h : m < l.length) {b : Nat} (hw : Dat.wtR (l.map TRoutine.D) ≤ b) : l[m].body.cnt ≤ b + 1 := by
 have h1 := wtR_getV (l.map TRoutine.D) m (by simpa using h)
 rw [List.getElem_map] at h1
 have h2 := l[m].body.cnt_le
 have h3 : Dat.wtL l[m].body.D ≤ Dat.wtL l[m].D := by
  cases hq : l[m]
  simp only [TRoutine.body, TRoutine.D_mk, TCore.D_mk, Dat.wtL]
  omega
 omega
set_option maxHeartbeats 1000000 in
theorem validRecords_row (l : List TRecordType) (S : Nat → Prop) (w : World) (A : Option Addr) (c : Nat) (hR : Row w S 3 A c (l.map TRecordType.D)) (ht : Sp w) :
  Calls Tryz.prog 50 #[.slice A l.length c] w fun e w' => e = .returned (.bool (l.all recB && decide (l.length ≤ 8))) ∧ Bel w w' := by
 have HR := hide hR
 have HT := hide ht
 have hlen := hR.1
 have hcm := hR.2.1
 simp only [List.length_map] at hlen
 unfold maxLen at hcm
 clear hR ht
 go_enter Tryz.func50, Tryz.ntmps50
 go_wp2_with (fail)
 go_loopw [7] (fun v wr => ∃ m : Nat, v = .int .i64 m ∧ m ≤ l.length ∧ Hid (∀ j (hj : j < l.length), j < m → recB l[j] = true) ∧ Bel w wr) (fun v _ => l.length - (intOf v).toNat)
 case atStart => exact ⟨0, rfl, by omega, fun j _ hj => by omega, bl⟩
 case round =>
  obtain ⟨m, rfl, m1, hm, hbw⟩ := hrel
  by_cases h1 : m < l.length
  ·
   have hd : decide ((m : Int) < (l.length : Int)) = true := by simp [h1]
   (obtain ⟨b1, o1, x1_0, x1_1, x1_2, A1_1, C1_1, hA1, hS1, hl1, hx1, hv1, g1_0, g1_1, g1_2, c1_0, c1_1, c1_2⟩ := TRecordType.at HR.out m h1; subst hA1; have HV1 := hide (Dat.HoldVals.bel hbw hv1); have hh1 := hbw.box b1 hl1; have hw1 := Nat.lt_of_lt_of_le hl1 (Bel.size hbw); replace c1_0 := (hh1 _).trans c1_0; replace c1_1 := (hh1 _).trans c1_1; replace c1_2 := (hh1 _).trans c1_2; have HX1 := hide hx1; have GR1_1 := hide g1_1; clear hh1 hv1 hx1 hS1 g1_1)
   have hne1 : ¬ b1 = wr.heap.size := by omega
   have HRC := hide (show recB l[m] = (nameB x1_0 && x1_1.all nameB && decide (x1_1.length ≤ 6) && !twiceB x1_1 && decide (0 ≤ x1_2)) by rw [HX1.out]; rfl)
   have hf := GR1_1.out.1
   have hfm := GR1_1.out.2.1
   simp only [List.length_map] at hf
   unfold maxLen at hfm g1_0
   cases hn : nameB x1_0
   case false =>
    have HR0 := hide (show recB l[m] = false by rw [HRC.out]; simp [hn])
    have Hhn := hide hn
    clear hn
    go_wp2_with (first | (go_at_call 52; refine (implIsName_any x1_0 _ (HT.out.on bl)).mono ?_; rintro e wa ⟨rfl, hba⟩; (try rw [Hhn.out]); (have hza := hba.sz; obtain ⟨hka_0, hfa_0, hla_0, hna_0⟩ := hba.lay (wr.heap.size); obtain ⟨hka_1, hfa_1, hla_1, hna_1⟩ := hba.lay (b1))) | (go_at_call 51; refine (allNames_row x1_1 S _ _ _ (Row.bel bl GR1_1.out) (HT.out.on bl)).mono ?_; rintro e wb ⟨rfl, hbb⟩; (try rw [Hha.out]); (have hzb := hbb.sz; obtain ⟨hkb_0, hfb_0, hlb_0, hnb_0⟩ := hbb.lay (wr.heap.size); obtain ⟨hkb_1, hfb_1, hlb_1, hnb_1⟩ := hbb.lay (b1))) | (go_at_call 76; refine (repeated_row x1_1 S _ _ _ (Row.bel bl GR1_1.out)).mono ?_; rintro e wc ⟨rfl, hbc⟩; (try rw [Hht.out]); (have hzc := hbc.sz; obtain ⟨hkc_0, hfc_0, hlc_0, hnc_0⟩ := hbc.lay (wr.heap.size); obtain ⟨hkc_1, hfc_1, hlc_1, hnc_1⟩ := hbc.lay (b1))))
    all_goals
     go_returns
     exact ⟨ret_bl (show (l.all recB && decide (l.length ≤ 8)) = false by rw [show l.all recB = false from List.all_eq_false.2 ⟨_, List.getElem_mem h1, by rw [HR0.out]; simp⟩]; rfl).symm, bl⟩
   case true =>
   have Hhn := hide hn
   clear hn
   by_cases hlen : x1_1.length ≤ 6
   case neg =>
    have HR0 := hide (show recB l[m] = false by rw [HRC.out]; simp [hlen])
    have dhlen : decide ((6 : Int) < (x1_1.length : Int)) = true := by simp; omega
    have dl : decide ((x1_1.length : Int) ≤ 6) = false := by simp; omega
    go_wp2_with (first | (go_at_call 52; refine (implIsName_any x1_0 _ (HT.out.on bl)).mono ?_; rintro e wa ⟨rfl, hba⟩; (try rw [Hhn.out]); (have hza := hba.sz; obtain ⟨hka_0, hfa_0, hla_0, hna_0⟩ := hba.lay (wr.heap.size); obtain ⟨hka_1, hfa_1, hla_1, hna_1⟩ := hba.lay (b1))) | (go_at_call 51; refine (allNames_row x1_1 S _ _ _ (Row.bel bl GR1_1.out) (HT.out.on bl)).mono ?_; rintro e wb ⟨rfl, hbb⟩; (try rw [Hha.out]); (have hzb := hbb.sz; obtain ⟨hkb_0, hfb_0, hlb_0, hnb_0⟩ := hbb.lay (wr.heap.size); obtain ⟨hkb_1, hfb_1, hlb_1, hnb_1⟩ := hbb.lay (b1))) | (go_at_call 76; refine (repeated_row x1_1 S _ _ _ (Row.bel bl GR1_1.out)).mono ?_; rintro e wc ⟨rfl, hbc⟩; (try rw [Hht.out]); (have hzc := hbc.sz; obtain ⟨hkc_0, hfc_0, hlc_0, hnc_0⟩ := hbc.lay (wr.heap.size); obtain ⟨hkc_1, hfc_1, hlc_1, hnc_1⟩ := hbc.lay (b1))))
    all_goals
     go_returns
     exact ⟨ret_bl (show (l.all recB && decide (l.length ≤ 8)) = false by rw [show l.all recB = false from List.all_eq_false.2 ⟨_, List.getElem_mem h1, by rw [HR0.out]; simp⟩]; rfl).symm, bl⟩
   case pos =>
   have dhlen : decide ((6 : Int) < (x1_1.length : Int)) = false := by simp; omega
   have dl : decide ((x1_1.length : Int) ≤ 6) = true := by simp; omega
   cases ha : x1_1.all nameB
   case false =>
    have HR0 := hide (show recB l[m] = false by rw [HRC.out]; simp [ha])
    have Hha := hide ha
    clear ha
    go_wp2_with (first | (go_at_call 52; refine (implIsName_any x1_0 _ (HT.out.on bl)).mono ?_; rintro e wa ⟨rfl, hba⟩; (try rw [Hhn.out]); (have hza := hba.sz; obtain ⟨hka_0, hfa_0, hla_0, hna_0⟩ := hba.lay (wr.heap.size); obtain ⟨hka_1, hfa_1, hla_1, hna_1⟩ := hba.lay (b1))) | (go_at_call 51; refine (allNames_row x1_1 S _ _ _ (Row.bel bl GR1_1.out) (HT.out.on bl)).mono ?_; rintro e wb ⟨rfl, hbb⟩; (try rw [Hha.out]); (have hzb := hbb.sz; obtain ⟨hkb_0, hfb_0, hlb_0, hnb_0⟩ := hbb.lay (wr.heap.size); obtain ⟨hkb_1, hfb_1, hlb_1, hnb_1⟩ := hbb.lay (b1))) | (go_at_call 76; refine (repeated_row x1_1 S _ _ _ (Row.bel bl GR1_1.out)).mono ?_; rintro e wc ⟨rfl, hbc⟩; (try rw [Hht.out]); (have hzc := hbc.sz; obtain ⟨hkc_0, hfc_0, hlc_0, hnc_0⟩ := hbc.lay (wr.heap.size); obtain ⟨hkc_1, hfc_1, hlc_1, hnc_1⟩ := hbc.lay (b1))))
    all_goals
     go_returns
     exact ⟨ret_bl (show (l.all recB && decide (l.length ≤ 8)) = false by rw [show l.all recB = false from List.all_eq_false.2 ⟨_, List.getElem_mem h1, by rw [HR0.out]; simp⟩]; rfl).symm, bl⟩
   case true =>
   have Hha := hide ha
   clear ha
   cases ht : twiceB x1_1
   case true =>
    have HR0 := hide (show recB l[m] = false by rw [HRC.out]; simp [ht])
    have Hht := hide ht
    clear ht
    go_wp2_with (first | (go_at_call 52; refine (implIsName_any x1_0 _ (HT.out.on bl)).mono ?_; rintro e wa ⟨rfl, hba⟩; (try rw [Hhn.out]); (have hza := hba.sz; obtain ⟨hka_0, hfa_0, hla_0, hna_0⟩ := hba.lay (wr.heap.size); obtain ⟨hka_1, hfa_1, hla_1, hna_1⟩ := hba.lay (b1))) | (go_at_call 51; refine (allNames_row x1_1 S _ _ _ (Row.bel bl GR1_1.out) (HT.out.on bl)).mono ?_; rintro e wb ⟨rfl, hbb⟩; (try rw [Hha.out]); (have hzb := hbb.sz; obtain ⟨hkb_0, hfb_0, hlb_0, hnb_0⟩ := hbb.lay (wr.heap.size); obtain ⟨hkb_1, hfb_1, hlb_1, hnb_1⟩ := hbb.lay (b1))) | (go_at_call 76; refine (repeated_row x1_1 S _ _ _ (Row.bel bl GR1_1.out)).mono ?_; rintro e wc ⟨rfl, hbc⟩; (try rw [Hht.out]); (have hzc := hbc.sz; obtain ⟨hkc_0, hfc_0, hlc_0, hnc_0⟩ := hbc.lay (wr.heap.size); obtain ⟨hkc_1, hfc_1, hlc_1, hnc_1⟩ := hbc.lay (b1))))
    all_goals
     go_returns
     exact ⟨ret_bl (show (l.all recB && decide (l.length ≤ 8)) = false by rw [show l.all recB = false from List.all_eq_false.2 ⟨_, List.getElem_mem h1, by rw [HR0.out]; simp⟩]; rfl).symm, bl⟩
   case false =>
   have Hht := hide ht
   clear ht
   by_cases hl : 0 ≤ x1_2
   case neg =>
    have HR0 := hide (show recB l[m] = false by rw [HRC.out]; simp [hl])
    have dhl : decide (x1_2 < 0) = true := by simp; omega
    go_wp2_with (first | (go_at_call 52; refine (implIsName_any x1_0 _ (HT.out.on bl)).mono ?_; rintro e wa ⟨rfl, hba⟩; (try rw [Hhn.out]); (have hza := hba.sz; obtain ⟨hka_0, hfa_0, hla_0, hna_0⟩ := hba.lay (wr.heap.size); obtain ⟨hka_1, hfa_1, hla_1, hna_1⟩ := hba.lay (b1))) | (go_at_call 51; refine (allNames_row x1_1 S _ _ _ (Row.bel bl GR1_1.out) (HT.out.on bl)).mono ?_; rintro e wb ⟨rfl, hbb⟩; (try rw [Hha.out]); (have hzb := hbb.sz; obtain ⟨hkb_0, hfb_0, hlb_0, hnb_0⟩ := hbb.lay (wr.heap.size); obtain ⟨hkb_1, hfb_1, hlb_1, hnb_1⟩ := hbb.lay (b1))) | (go_at_call 76; refine (repeated_row x1_1 S _ _ _ (Row.bel bl GR1_1.out)).mono ?_; rintro e wc ⟨rfl, hbc⟩; (try rw [Hht.out]); (have hzc := hbc.sz; obtain ⟨hkc_0, hfc_0, hlc_0, hnc_0⟩ := hbc.lay (wr.heap.size); obtain ⟨hkc_1, hfc_1, hlc_1, hnc_1⟩ := hbc.lay (b1))))
    all_goals
     go_returns
     exact ⟨ret_bl (show (l.all recB && decide (l.length ≤ 8)) = false by rw [show l.all recB = false from List.all_eq_false.2 ⟨_, List.getElem_mem h1, by rw [HR0.out]; simp⟩]; rfl).symm, bl⟩
   case pos =>
   have dhl : decide (x1_2 < 0) = false := by simp; omega
   have HR0 := hide (show recB l[m] = true by rw [HRC.out, Hhn.out, Hha.out, Hht.out, decide_eq_true hlen, decide_eq_true hl]; first | done | rfl)
   go_wp2_with (first | (go_at_call 52; refine (implIsName_any x1_0 _ (HT.out.on bl)).mono ?_; rintro e wa ⟨rfl, hba⟩; (try rw [Hhn.out]); (have hza := hba.sz; obtain ⟨hka_0, hfa_0, hla_0, hna_0⟩ := hba.lay (wr.heap.size); obtain ⟨hka_1, hfa_1, hla_1, hna_1⟩ := hba.lay (b1))) | (go_at_call 51; refine (allNames_row x1_1 S _ _ _ (Row.bel bl GR1_1.out) (HT.out.on bl)).mono ?_; rintro e wb ⟨rfl, hbb⟩; (try rw [Hha.out]); (have hzb := hbb.sz; obtain ⟨hkb_0, hfb_0, hlb_0, hnb_0⟩ := hbb.lay (wr.heap.size); obtain ⟨hkb_1, hfb_1, hlb_1, hnb_1⟩ := hbb.lay (b1))) | (go_at_call 76; refine (repeated_row x1_1 S _ _ _ (Row.bel bl GR1_1.out)).mono ?_; rintro e wc ⟨rfl, hbc⟩; (try rw [Hht.out]); (have hzc := hbc.sz; obtain ⟨hkc_0, hfc_0, hlc_0, hnc_0⟩ := hbc.lay (wr.heap.size); obtain ⟨hkc_1, hfc_1, hlc_1, hnc_1⟩ := hbc.lay (b1))))
   go_roundw
   case rel => exact ⟨m + 1, by go_num, by omega, fun j hj hjm => by
    by_cases e : j = m
    ·
     subst e; exact HR0.out
    ·
     exact hm.out j hj (by omega), bl⟩
   case measure => simp [intOf]; omega
  ·
   have hd : decide ((m : Int) < (l.length : Int)) = false := by simp [h1]
   have HE := hide (show decide ((l.length : Int) ≤ 8) = (l.all recB && decide (l.length ≤ 8)) by rw [all_mem (f := recB) (l := l) fun k hk => hm.out k hk (by omega), Bool.true_and]; rw [Bool.eq_iff_iff]; simp; omega)
   go_wp2_with (fail)
   all_goals
    go_returns
    exact ⟨ret_bl HE.out, bl⟩
end Go.Proofs.YtgofbnmablgedaaGreatDoor
