/- Walks: the reference's Distance, span, Between, Range. Conditions: at most 40 points where the system is checked. -/
import Derived.Test.YthcmjhellpjllaaGreatCY8b
import Derived.Test.YthcmjhellpjllaaGreatA3b
namespace Go.Proofs.YthcmjhellpjllaaGreat
open Go Go.RowKit Go.Shelf

theorem matrix_net (w : World) (R : Nat) (a : Option Addr) (cap : Nat) (bs : List Bd) (t : List Int) (H : NetOk R bs t) (h40 : R ≤ 40) (hB : BoundsAt w a bs) :
    Calls Tryz.prog 27 #[.agg #[.int .i64 (R : Int), .slice a bs.length cap]] w fun e w' => e = .returned (.slice (some ⟨w.heap.size + 1, 0, none⟩) R R) ∧ MatAt w' (w.heap.size + 1) R (matrixP R bs) ∧ Below w.heap.size w w' :=
  matrix_any w R a cap bs H.n0 h40 (by have := H.len; omega) hB H.valid H.noNeg
theorem matrix_dim {R : Nat} {bs : List Bd} {t : List Int} (H : NetOk R bs t) : Dim R (matrixP R bs) := (pivS_ok H.valid H.noNeg (Nat.le_refl R)).1
theorem matrix_size {R : Nat} {bs : List Bd} {t : List Int} (H : NetOk R bs t) (h40 : R ≤ 40) {i j : Nat} (hi : i < R) (hj : j < R) : -2000000000000000000 ≤ (mget (matrixP R bs) i j).s ∧ (mget (matrixP R bs) i j).s ≤ 2000000000000000000 := by
  have h := pivS_bd H.valid H.noNeg R (Nat.le_refl R) i j hi hj
  have hp := pow2_le R 40 h40
  rw [pow2_40] at hp
  have hp0 := pow2_pos R
  have e : pivS R bs R = matrixP R bs := rfl
  rw [e] at h
  omega

/-- What stands while the reference's span is filled. -/
structure SpSt (w W : World) (B R : Nat) (d : List (List Fr)) (c : Array Value) : Prop where
  x6 : W.heap[w.heap.size]? = some (.cells #[.int .i64 0, .int .i64 0, .bool false, .bool false] 39 (0,0))
  x7 : W.heap[w.heap.size + 1]? = some (.cells c 39 (0,0))
  mat : MatAt W B R d
  lB : B < w.heap.size
  lr : ∀ i, i < R → B + 1 + i < w.heap.size
  bl : Below w.heap.size w W
theorem SpSt.set {w W : World} {B R : Nat} {d : List (List Fr)} {c : Array Value} (h : SpSt w W B R d c) (i : Nat) (v : Value) : SpSt w (W.setCell ⟨w.heap.size + 1, i, none⟩ v) B R d (c.setIfInBounds i v) :=
  ⟨by rw [heap_setCell_other _ _ _ _ (by simp)]; exact h.x6, heap_setCell_same _ _ _ _ _ _ h.x7,
    ⟨by rw [heap_setCell_other _ _ _ _ (by have := h.lB; simp; omega)]; exact h.mat.out, fun k hk => by rw [heap_setCell_other _ _ _ _ (by have := h.lr k hk; simp; omega)]; exact h.mat.row k hk⟩, h.lB, h.lr, h.bl.setCell (by simp) _⟩

end Go.Proofs.YthcmjhellpjllaaGreat
