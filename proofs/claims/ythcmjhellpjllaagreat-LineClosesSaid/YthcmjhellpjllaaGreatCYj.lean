/- Walk: alike (of the laws). Conditions: both systems can be asked at each point. -/
import Derived.Test.YthcmjhellpjllaaGreatCYf
import Derived.Test.YthcmjhellpjllaaGreatCYc
import Derived.Test.YthcmjhellpjllaaGreatA5
namespace Go.Proofs.YthcmjhellpjllaaGreat
open Go Go.RowKit Go.Shelf

def rowSame (R : Nat) (bs cs : List Bd) (a : Nat) : Bool := decide ((distancesP R bs a).1 = (distancesP R cs a).1) && decide ((distancesP R bs a).2.1 = (distancesP R cs a).2.1)
def alikeP (R : Nat) (bs cs : List Bd) : Bool := (List.range R).all (rowSame R bs cs)
theorem alike_bad {R : Nat} {bs cs : List Bd} {k : Nat} (hk : k < R) (h : rowSame R bs cs k = false) : alikeP R bs cs = false := by
  unfold alikeP
  rw [List.all_eq_false]
  exact ⟨k, List.mem_range.2 hk, by rw [h]; simp⟩

end Go.Proofs.YthcmjhellpjllaaGreat
