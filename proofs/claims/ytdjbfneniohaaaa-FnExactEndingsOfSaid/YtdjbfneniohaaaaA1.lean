/- Walks of the small text functions: MatchAt, AnyAt, ManyAt, UptoFrom. -/
import Derived.Test.YtdjbfneniohaaaaB
namespace Go.Proofs.Ytdjbfneniohaaaa
set_option linter.unusedVariables false
set_option linter.unusedSimpArgs false
set_option maxRecDepth 100000
open Go.RowKit

def goodPl (s : ByteArray) (n : Int) : Bool := decide (s.size ≤ 120) && decide (1 ≤ n) && decide (n ≤ s.size + 1)
theorem goodPl_iff (s : ByteArray) (n : Int) : goodPl s n = true ↔ s.size ≤ 120 ∧ 1 ≤ n ∧ n ≤ s.size + 1 := by
  simp [goodPl, and_assoc]


/-- What MatchAt comes to. -/
def matchAt (p s : ByteArray) (n : Int) : Bool := goodPl s n && decide ((p.size : Int) ≤ s.size - n + 1) && ((s.extract (n.toNat - 1) (n - 1 + p.size).toNat).toList == p.toList)
def matchAtN (p s : ByteArray) (n : Int) : Int := if matchAt p s n then n + p.size else 0
theorem extract_sub (s : ByteArray) (n : Int) (m : Nat) (h1 : 1 ≤ n) (h : m ≤ s.size - (n.toNat - 1)) :
    ((s.extract (n.toNat - 1) s.size).extract 0 m) = s.extract (n.toNat - 1) (n - 1 + m).toNat := by
  have e : (n - 1 + m).toNat = n.toNat - 1 + m := by omega
  rw [e]
  apply ByteArray.ext
  simp only [ByteArray.data_extract]
  apply Array.toList_inj.1
  simp [List.take_take, List.extract]
  omega
end Go.Proofs.Ytdjbfneniohaaaa
