/- Slices as arguments; the laws' helpers over slices, whole. -/
import Derived.Test.YtdjbfneniohaaaaHPattern
import Derived.Test.YtdjbfneniohaaaaHCore
namespace Go.Proofs.Ytdjbfneniohaaaa
set_option linter.unusedVariables false
set_option linter.unusedSimpArgs false
set_option maxRecDepth 100000
open Go.ChangeShapes Go.WideShapes Go.RowKit Go.Deep

theorem openSPattern {H : Type} {enc : TypeId × Value → H} {w : World} {spare : Nat → Bool} {held : Bool} {r : Reach} {b0 : Nat} {v : Value} {d : DataW H} {p : List MemPlace} (hv : Value.okWide Try.prog w r b0 44 v) (h : DataW.Trod enc Try.prog w 0 spare held 44 v d p) :
    ∃ (l : List TPattern) (A : Option Addr) (c : Nat), v = .slice A l.length c ∧ Row w (fun _ => True) 6 A c (l.map TPattern.D) := by
  obtain ⟨A, m, c, rfl⟩ := okWide_slice Try.underlying44 hv
  obtain ⟨fuel, hf⟩ := h
  obtain ⟨l, A2, c2, e, hR⟩ := open_row TPattern.D (k := 6) Try.underlying44 (by kernel_rfl) (by decide) TPattern.D_len (fun m _ cs x h => trodTPattern m cs x h) hf
  simp only [Value.cells, List.cons.injEq, and_true] at e
  exact ⟨l, A2, c2, e, hR⟩
theorem szPatternS_any (ks : List TPattern) (S : Nat → Prop) (w : World) (A : Option Addr) (c : Nat) (left : Int) (hR : Row w S 6 A c (ks.map TPattern.D)) (h0 : 0 ≤ left) (h1 : left ≤ 1048576) :
    Calls Try.prog 16 #[.slice A ks.length c, .int .i64 left] w fun e w' => e = .returned (.int .i64 (szL (ks.length + Dat.wtR (ks.map TPattern.D)) left)) ∧ Bel w w' := szPatternS_of ks (fun _ _ => szPattern_any _) S w A c left hR h0 h1
theorem toPatternS_any (ks : List TPattern) (S : Nat → Prop) (w : World) (A : Option Addr) (c : Nat) (hR : Row w S 6 A c (ks.map TPattern.D)) (hwt : ks.length + Dat.wtR (ks.map TPattern.D) ≤ 1048576) :
    Calls Try.prog 18 #[.slice A ks.length c] w (MadeR w 6 (ks.map TPattern.D)) := toPatternS_of ks (fun _ _ => toPattern_any _) S w A c hR hwt
theorem eqPatternS_any (ks : List TPattern) (S S' : Nat → Prop) (w : World) (A A' : Option Addr) (c c' : Nat) (hR : Row w S 6 A c (ks.map TPattern.D)) (hR' : Row w S' 6 A' c' (ks.map TPattern.D)) :
    Calls Try.prog 21 #[.slice A ks.length c, .slice A' ks.length c'] w fun e w' => e = .returned (.bool true) ∧ Bel w w' := eqPatternS_of ks (fun _ _ => eqPattern_any _) S S' w A A' c c' hR hR'
end Go.Proofs.Ytdjbfneniohaaaa
