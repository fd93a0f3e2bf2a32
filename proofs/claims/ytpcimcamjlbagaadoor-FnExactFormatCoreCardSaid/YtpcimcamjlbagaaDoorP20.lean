/- The text of a core: plain. -/
import Derived.Test.YtpcimcamjlbagaaDoorP16
import Derived.Test.YtpcimcamjlbagaaDoorP4C
import Derived.Test.YtpcimcamjlbagaaDoorE5
namespace Go.Proofs.YtpcimcamjlbagaaDoor
set_option linter.unusedVariables false
set_option linter.unusedSimpArgs false
set_option maxRecDepth 100000
open Go.RowKit

def coreNames : List ByteArray := [⟨#[63]⟩, ⟨#[105, 110, 116, 101, 103, 101, 114]⟩, ⟨#[115, 116, 114, 105, 110, 103]⟩, ⟨#[99, 115, 101, 116]⟩, ⟨#[110, 117, 108, 108]⟩, ⟨#[108, 111, 99, 97, 108]⟩, ⟨#[103, 108, 111, 98, 97, 108]⟩, ⟨#[112, 114, 111, 99, 101, 100, 117, 114, 101]⟩, ⟨#[102, 117, 110, 99, 116, 105, 111, 110]⟩, ⟨#[99, 111, 110, 115, 116, 114, 117, 99, 116, 111, 114]⟩, ⟨#[107, 101, 121, 119, 111, 114, 100]⟩, ⟨#[111, 112, 101, 114, 97, 116, 101]⟩, ⟨#[99, 97, 108, 108]⟩, ⟨#[97, 108, 116, 101, 114, 110, 97, 116, 101]⟩, ⟨#[114, 101, 112, 101, 97, 116]⟩, ⟨#[108, 105, 109, 105, 116]⟩, ⟨#[98, 108, 111, 99, 107]⟩, ⟨#[105, 102]⟩, ⟨#[119, 104, 105, 108, 101]⟩, ⟨#[101, 118, 101, 114, 121]⟩, ⟨#[98, 114, 101, 97, 107]⟩, ⟨#[110, 101, 120, 116]⟩, ⟨#[115, 99, 97, 110]⟩, ⟨#[114, 101, 116, 117, 114, 110]⟩, ⟨#[102, 97, 105, 108]⟩, ⟨#[115, 117, 115, 112, 101, 110, 100]⟩, ⟨#[99, 114, 101, 97, 116, 101]⟩, ⟨#[97, 99, 116, 105, 118, 97, 116, 101]⟩, ⟨#[110, 111, 110, 101]⟩]
/-- The name of a kind. -/
def nmC (k : Int) : ByteArray := if 1 ≤ k ∧ k ≤ 28 then coreNames.getD k.toNat ByteArray.empty else ⟨#[63]⟩
/-- What stands behind the name. -/
def midC (k op n : Int) (t : ByteArray) : ByteArray :=
  if k = 2 ∨ k = 3 then ⟨#[58]⟩ ++ qt 34 t else if k = 11 then ⟨#[58]⟩ ++ opT op else if k = 1 ∨ (5 ≤ k ∧ k ≤ 10) then ⟨#[58]⟩ ++ ⟨(Lib.itoa n).toArray⟩ else ByteArray.empty
def joinR (by_ : ByteArray) : List ByteArray → ByteArray
  | [] => ByteArray.empty
  | x :: r => by_ ++ x ++ joinR by_ r
def joinC (by_ : ByteArray) : List ByteArray → ByteArray
  | [] => ByteArray.empty
  | x :: r => x ++ joinR by_ r
theorem joinR_snoc (b x : ByteArray) : ∀ l, joinR b (l ++ [x]) = joinR b l ++ b ++ x
  | [] => by simp [joinR]
  | y :: r => by simp only [List.cons_append, joinR, joinR_snoc b x r, ByteArray.append_assoc]
theorem joinC_take (b : ByteArray) : ∀ (l : List ByteArray) (k : Nat) (h : k < l.length), joinC b (l.take (k + 1)) = joinC b (l.take k) ++ (if 0 < k then b else ByteArray.empty) ++ l[k]
  | x :: r, 0, _ => by simp [joinC, joinR]
  | x :: r, k + 1, h => by
    have hk : k < r.length := by simpa using h
    have e : r.take (k + 1) = r.take k ++ [r[k]] := by rw [List.take_succ_eq_append_getElem hk]
    simp only [List.take_succ_cons, joinC, e, joinR_snoc, List.getElem_cons_succ, Nat.zero_lt_succ, if_true, ByteArray.append_assoc]
theorem joinR_size (b : ByteArray) : ∀ l, (joinR b l).size = b.size * l.length + sumS l
  | [] => by simp [joinR, sumS]
  | x :: r => by simp only [joinR, ByteArray.size_append, joinR_size b r, sumS, List.length_cons, Nat.mul_add]; omega
theorem joinC_size (b : ByteArray) : ∀ l, (joinC b l).size ≤ b.size * l.length + sumS l
  | [] => by simp [joinC, sumS]
  | x :: r => by simp only [joinC, ByteArray.size_append, joinR_size b r, sumS, List.length_cons, Nat.mul_add]; omega
mutual
def TCore.fmt : TCore → ByteArray
  | .mk k op n _ t ks => nmC k ++ midC k op n t ++ (if ks = [] then ByteArray.empty else ⟨#[40]⟩ ++ joinC ⟨#[44, 32]⟩ (TCore.fmts ks) ++ ⟨#[41]⟩)
def TCore.fmts : List TCore → List ByteArray
  | [] => []
  | x :: r => TCore.fmt x :: TCore.fmts r
end
theorem TCore.fmts_eq : ∀ l, TCore.fmts l = l.map TCore.fmt
  | [] => by simp [TCore.fmts]
  | x :: r => by simp [TCore.fmts, TCore.fmts_eq r]
theorem nmC_size (k : Int) : (nmC k).size ≤ 20 := by
  unfold nmC
  split
  · rename_i h
    obtain ⟨h1, h2⟩ := h
    have : ∀ j < 29, (coreNames.getD j ByteArray.empty).size ≤ 20 := by decide +kernel
    exact this _ (by omega)
  · decide
theorem opT_size8 (n : Int) : (opT n).size ≤ 8 := by
  unfold opT
  have := opT_size (n - 200)
  have h2 := opT_size n
  split
  · have h4 : (⟨#[58, 61]⟩ : ByteArray).size = 2 := by decide
    rw [ByteArray.size_append]; omega
  · omega
theorem midC_size {k op n : Int} {t : ByteArray} (h : InI n) : (midC k op n t).size ≤ 80 + 4 * t.size := by
  have h1 := itoa_size h
  have h2 := qt_size 34 t
  have h3 := opT_size8 op
  have l : ∀ (x : Array UInt8), (⟨x⟩ : ByteArray).size = x.size := fun _ => rfl
  have h4 : (⟨#[58]⟩ : ByteArray).size = 1 := by decide
  unfold midC
  split
  · rw [ByteArray.size_append, h4]; omega
  · split
    · rw [ByteArray.size_append, h4]; omega
    · split
      · rw [ByteArray.size_append, h4]; omega
      · show 0 ≤ _; omega
mutual
theorem TCore.fmt_size {w : World} {S : Nat → Prop} : ∀ (t : TCore) (vs : List Value), Dat.HoldVals w S t.D vs → t.fmt.size + 2 ≤ 200 * t.cnt + 4 * Dat.wtL t.D
  | .mk k op n li t ks, vs, hv => by
    obtain ⟨A, c, -, -, -, hn, -, -, hR⟩ := TCore.vals hv
    have h0 := TCore.fmts_size ks A c hR
    have h1 := joinC_size ⟨#[44, 32]⟩ (TCore.fmts ks)
    have h2 := nmC_size k
    have h3 := midC_size (k := k) (op := op) (t := t) hn
    have h4 : (⟨#[40]⟩ : ByteArray).size = 1 := by decide
    have h5 : (⟨#[41]⟩ : ByteArray).size = 1 := by decide
    have h6 : (⟨#[44, 32]⟩ : ByteArray).size = 2 := by decide
    rw [TCore.D_mk]
    rw [h6, TCore.fmts_eq, List.length_map] at h1
    rw [TCore.fmts_eq] at h0
    simp only [TCore.fmt, TCore.fmts_eq, TCore.cnt, Dat.wtL, Dat.wt, List.length_map, ByteArray.size_append]
    split
    · have h7 : ByteArray.empty.size = 0 := rfl
      omega
    · simp only [ByteArray.size_append, h4, h5]
      omega
theorem TCore.fmts_size {w : World} {S : Nat → Prop} : ∀ (l : List TCore) (A : Option Addr) (c : Nat), Row w S 6 A c (l.map TCore.D) → sumS (TCore.fmts l) + 2 * l.length ≤ 200 * TCore.cnts l + 4 * Dat.wtR (l.map TCore.D)
  | [], _, _, _ => by simp [TCore.fmts, sumS]
  | x :: r, A, c, hR => by
    obtain ⟨b, o, vs, rfl, hS, hb, hv, -, -⟩ := Row.at hR 0 (by simp)
    have h1 := TCore.fmt_size x vs hv
    have hR2 : Row w S 6 (some ⟨b, o + 6, none⟩) c (r.map TCore.D) := by
      obtain ⟨hl, hc, hx⟩ := hR
      refine ⟨by simp at hl ⊢; omega, hc, fun hne => ?_⟩
      obtain ⟨b', o', hA, g1, g2, hr⟩ := hx (by simp)
      injection Option.some.inj hA with q1 q2 _
      subst q1 q2
      simp only [List.map_cons, Dat.HoldRows] at hr
      exact ⟨b, o + 6, rfl, g1, g2, hr.2.2⟩
    have h2 := TCore.fmts_size r _ c hR2
    have h3 : 1 ≤ x.cnt := by cases x; simp only [TCore.cnt]; omega
    simp only [TCore.fmts, sumS, TCore.cnts, List.map_cons, Dat.wtR, List.length_cons]
    omega
end
end Go.Proofs.YtpcimcamjlbagaaDoor
