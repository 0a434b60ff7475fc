/- Walk: SameFlags. No conditions beyond those stated. -/
import Derived.Test.YthcmjhellpjllaaGreatA5
namespace Go.Proofs.YthcmjhellpjllaaGreat
open Go Go.RowKit Go.Shelf

theorem takeB_succ {a b : List Bool} {k : Nat} (ha : k < a.length) (hb : k < b.length) (h : a.take k = b.take k) (e : a[k] = b[k]) : a.take (k + 1) = b.take (k + 1) := by
  rw [List.take_succ_eq_append_getElem ha, List.take_succ_eq_append_getElem hb, h, e]
theorem BoolsAt.get {w : World} {a : Option Addr} {xs : List Bool} (h : BoolsAt w a xs) {k : Nat} (hk : k < xs.length) : ∃ b off, a = some ⟨b, off, none⟩ ∧ b < w.heap.size ∧ w.cell? ⟨b, off + k, none⟩ = some (.bool xs[k]) := by
  rcases h with h | ⟨b, off, e, hl, hc⟩
  · subst h; simp at hk
  · exact ⟨b, off, e, hl, hc k hk⟩

end Go.Proofs.YthcmjhellpjllaaGreat
