/- Walks: the reference's without and Blame. -/
import Derived.Test.YthcmjhellpjllaaGreatCYd
import Derived.Test.YthcmjhellpjllaaGreatCY8
namespace Go.Proofs.YthcmjhellpjllaaGreat
open Go Go.RowKit Go.Shelf
attribute [local go_sem] Oper.semAt_some

/-- What stands between two rounds of the reference's without. -/
structure WoSt (w W : World) (N : Int) (a : Option Addr) (len cap : Nat) (v : Value) (l : List Bd) : Prop where
  x0 : W.heap[w.heap.size]? = some (.cells #[.int .i64 N, .slice a len cap] 24 (0,0))
  x4 : W.heap[w.heap.size + 1]? = some (.cells #[.int .i64 0, .slice none 0 0] 24 (0,0))
  x5 : W.heap[w.heap.size + 2]? = some (.cells #[.int .i64 N, v] 24 (0,0))
  own : BoundsOut l (w.heap.size + 3) v W
  bl : Below w.heap.size w W
theorem withoutP_snoc {bs : List Bd} {l : List Int} {k : Nat} (hk : k < bs.length) : withoutP (bs.take (k + 1)) l = withoutP (bs.take k) l ++ (if l.contains bs[k].rcd = true then [] else [bs[k]]) := by
  unfold withoutP
  rw [List.take_succ_eq_append_getElem hk, List.filter_append]
  congr 1
  by_cases h : l.contains bs[k].rcd = true
  · rw [if_pos h, List.filter_cons, if_neg (by rw [h]; decide)]; rfl
  · rw [if_neg h, List.filter_cons, if_pos (by simpa using h)]; rfl

end Go.Proofs.YthcmjhellpjllaaGreat
