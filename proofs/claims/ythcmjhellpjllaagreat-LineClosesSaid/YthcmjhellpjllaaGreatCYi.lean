/- Walk: taken (of the laws). -/
import Derived.Test.YthcmjhellpjllaaGreatCYd2
import Derived.Test.YthcmjhellpjllaaGreatP2
namespace Go.Proofs.YthcmjhellpjllaaGreat
open Go Go.RowKit Go.Shelf

def takenK (bs : List Bd) (l : List Int) (k : Nat) : List Bd := selB bs ((List.range k).filter fun i => !(l.contains (i : Int)))
theorem takenK_all (bs : List Bd) (l : List Int) : takenK bs l bs.length = takenP bs l := rfl
theorem takenK_succ {bs : List Bd} {l : List Int} {k : Nat} (hk : k < bs.length) : takenK bs l (k + 1) = takenK bs l k ++ (if l.contains (k : Int) = true then [] else [bs[k]]) := by
  unfold takenK
  rw [List.range_succ, List.filter_append]
  by_cases h : l.contains (k : Int) = true
  · rw [if_pos h, List.filter_cons, if_neg (by rw [h]; decide)]; simp
  · rw [if_neg h, List.filter_cons, if_pos (by simpa using h), List.filter_nil]
    simp [selB, List.getD_eq_getElem?_getD, hk]
theorem takenK_len (bs : List Bd) (l : List Int) (k : Nat) : (takenK bs l k).length ≤ k := by
  unfold takenK selB
  rw [List.length_map]
  have := List.length_filter_le (fun i : Nat => !(l.contains (i : Int))) (List.range k)
  simpa using this
theorem contains_snoc (A : List Int) (x n : Int) : (A ++ [x]).contains n = (A.contains n || (n == x)) := by
  rw [Bool.eq_iff_iff]; simp
theorem contains_take {l : List Int} {j : Nat} (hj : j < l.length) (n : Int) : (l.take (j + 1)).contains n = ((l.take j).contains n || (n == l[j])) := by
  rw [List.take_succ_eq_append_getElem hj, contains_snoc]

end Go.Proofs.YthcmjhellpjllaaGreat
