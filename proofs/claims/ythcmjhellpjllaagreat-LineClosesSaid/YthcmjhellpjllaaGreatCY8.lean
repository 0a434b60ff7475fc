/- How the reference's Matrix lies in memory; a law for regions whose last operation waits. No conditions. -/
import Derived.Test.YthcmjhellpjllaaGreatCY7
import Derived.Test.YthcmjhellpjllaaGreatCPureJ
import Derived.Test.YthcmjhellpjllaaGreatA2
import Derived.Deep.OwnRows
namespace Go.Proofs.YthcmjhellpjllaaGreat
open Go Go.RowKit Go.Shelf

theorem Tryz.info65 : (Tryz.prog.info? 65).map (fun i => (i.zero, i.size, i.bytes)) = some (some (.slice none 0 0), 1, 24) := by kernel_rfl
theorem Tryz.info64 : (Tryz.prog.info? 64).map (fun i => (i.zero, i.size, i.bytes)) = some (some (.agg #[.int .i64 0, .bool false]), 2, 16) := by kernel_rfl

section
variable {P : Program} {ops : Array Oper} {Q : Exit → Act → World → Prop} {md : Region.Mode} {S : World → Prop} {last : Nat}
theorem wpAnyF_step {fuel : Nat} {listed : Array Bool} {a : Act} {w : World} (i : Nat) {o : Oper} (ho : ops[i]? = some o) (hr : Region.ready md ops listed = [i])
    (h : ∀ K' : Act → World → Prop, Shut (∀ a w, (i = last ∨ S w) → wpAnyF P md ops Q S last fuel (listed.setIfInBounds i true) a w → K' a w) → if Region.wanted o (yielded ops a.tmps) = true then Oper.wp P o a w K' Q else K' (a.put o.dst undef) w) :
    wpAnyF P md ops Q S last (fuel + 1) listed a w :=
  wpAnyF_one i hr (wpOp_step ho fun K' hK => h K' fun a w h1 h2 => hK a w ⟨h1, h2⟩)
end

theorem below_of_drew {W W' : World} (h : Below W.drew.heap.size W.drew W') : Below W.heap.size W W' := ((Below.refl _ W).drew).trans h

/-- A row of sums, cell by cell. -/
def frCells (r : List Fr) : List Value := r.flatMap fun x => [.int .i64 x.s, .bool x.ok]

theorem frCells_cons (x : Fr) (r : List Fr) : frCells (x :: r) = .int .i64 x.s :: .bool x.ok :: frCells r := rfl
theorem frCells_length : ∀ r : List Fr, (frCells r).length = r.length * 2
  | [] => rfl
  | x :: r => by rw [frCells_cons, List.length_cons, List.length_cons, List.length_cons, frCells_length r]; omega
theorem frCells_get0 : ∀ (r : List Fr) (j : Nat), j < r.length → (frCells r)[j * 2]? = some (.int .i64 (r.getD j fr0).s)
  | [], j, h => by simp at h
  | x :: r, 0, _ => rfl
  | x :: r, j + 1, h => by
    rw [frCells_cons, show (j + 1) * 2 = j * 2 + 1 + 1 by omega, List.getElem?_cons_succ, List.getElem?_cons_succ, frCells_get0 r j (by simpa using h)]
    rfl
theorem frCells_get1 : ∀ (r : List Fr) (j : Nat), j < r.length → (frCells r)[j * 2 + 1]? = some (.bool (r.getD j fr0).ok)
  | [], j, h => by simp at h
  | x :: r, 0, _ => rfl
  | x :: r, j + 1, h => by
    rw [frCells_cons, show (j + 1) * 2 + 1 = j * 2 + 1 + 1 + 1 by omega, List.getElem?_cons_succ, List.getElem?_cons_succ, frCells_get1 r j (by simpa using h)]
    rfl
theorem frCells_set : ∀ (r : List Fr) (j : Nat) (x : Fr), j < r.length → ((frCells r).set (j * 2) (.int .i64 x.s)).set (j * 2 + 1) (.bool x.ok) = frCells (r.set j x)
  | [], j, _, h => by simp at h
  | y :: r, 0, x, _ => rfl
  | y :: r, j + 1, x, h => by
    rw [frCells_cons, show (j + 1) * 2 + 1 = j * 2 + 1 + 1 + 1 by omega, show (j + 1) * 2 = j * 2 + 1 + 1 by omega, List.set_cons_succ, List.set_cons_succ, List.set_cons_succ, List.set_cons_succ, frCells_set r j x (by simpa using h)]
    rfl

theorem frReplicate : ∀ R : Nat, (List.range (R * 2)).map (fun i => (#[Value.int .i64 0, .bool false] : Array Value)[i % 2]!) = frCells (List.replicate R fr0)
  | 0 => rfl
  | R + 1 => by
    rw [show (R + 1) * 2 = R * 2 + 1 + 1 by omega, List.range_succ, List.range_succ, List.map_append, List.map_append, frReplicate R]
    have e1 : R * 2 % 2 = 0 := by omega
    have e2 : (R * 2 + 1) % 2 = 1 := by omega
    simp only [List.map_cons, List.map_nil, e1, e2]
    rw [List.replicate_succ', frCells, frCells, List.flatMap_append]
    simp [fr0]
theorem madeFr (R : Nat) : madeCells #[Value.int .i64 0, .bool false] (R * 2) = (frCells (List.replicate R fr0)).toArray := by
  apply Array.ext'
  rw [← frReplicate]
  simp [madeCells, Array.toList_map, Array.toList_range]

set_option maxRecDepth 100000 in
/-- make of a row of sums. -/
theorem run_make_fr (R : Nat) (hR : R ≤ 1000) (W : World) :
    (Instr.makeSlice 65 (.int .i64 (R : Int)) (.int .i64 (R : Int))).run Tryz.prog W = .ok (.slice (some ⟨W.heap.size, 0, none⟩) R R) (W.alloc (.cells (frCells (List.replicate R fr0)).toArray 64)) := by
  obtain ⟨i, hi, hz, hs, hb⟩ := info_parts Tryz.info64
  have h := run_make (P := Tryz.prog) W 65 64 i _ Tryz.underlying65 hi hz .i64 .i64 R R (by omega) (Int.le_refl _) (by rw [hb]; omega) (by omega)
  rw [hs, Int.toNat_natCast] at h
  rw [h]
  congr 2
  rw [← madeFr]
  rfl

/-- The outer cell of row i. -/
def slV (B R i : Nat) : Value := .slice (some ⟨B + 1 + i, 0, none⟩) R R
/-- A matrix of sums: the rows' slices at block B, row i at block B + 1 + i. -/
structure MatAt (W : World) (B R : Nat) (d : List (List Fr)) : Prop where
  out : W.heap[B]? = some (.cells ((List.range R).map (slV B R)).toArray 65 (0,0))
  row : ∀ i, i < R → W.heap[B + 1 + i]? = some (.cells (frCells (d.getD i [])).toArray 64 (0,0))

theorem MatAt.below {W W' : World} {B R : Nat} {d : List (List Fr)} (h : MatAt W B R d) (hb : Below W.heap.size W W') : MatAt W' B R d :=
  ⟨blk_below hb (lt_of_block h.out) h.out, fun i hi => blk_below hb (lt_of_block (h.row i hi)) (h.row i hi)⟩
theorem MatAt.slot {W : World} {B R : Nat} {d : List (List Fr)} (h : MatAt W B R d) {i : Nat} (hi : i < R) : W.cell? ⟨B, i, none⟩ = some (.slice (some ⟨B + 1 + i, 0, none⟩) R R) := by
  rw [cell_of_row _ _ _ _ _ _ h.out]
  simp [hi, slV]
theorem MatAt.cells {W : World} {B R : Nat} {d : List (List Fr)} (h : MatAt W B R d) (hd : Dim R d) {i j : Nat} (hi : i < R) (hj : j < R) :
    W.cell? ⟨B + 1 + i, j * 2, none⟩ = some (.int .i64 (mget d i j).s) ∧ W.cell? ⟨B + 1 + i, j * 2 + 1, none⟩ = some (.bool (mget d i j).ok) ∧ ∀ k, W.frozen? ⟨B + 1 + i, k, none⟩ = false := by
  have hl : j < (d.getD i []).length := by rw [hd.2 i hi]; exact hj
  refine ⟨?_, ?_, fun k => frozen_of_row _ _ _ _ _ (h.row i hi)⟩
  · rw [cell_of_row _ _ _ _ _ _ (h.row i hi), List.getElem?_toArray, frCells_get0 _ _ hl]; rfl
  · rw [cell_of_row _ _ _ _ _ _ (h.row i hi), List.getElem?_toArray, frCells_get1 _ _ hl]; rfl
theorem MatAt.set {W : World} {B R : Nat} {d : List (List Fr)} (h : MatAt W B R d) (hd : Dim R d) {i j : Nat} (hi : i < R) (hj : j < R) (x : Fr) :
    MatAt ((W.setCell ⟨B + 1 + i, j * 2, none⟩ (.int .i64 x.s)).setCell ⟨B + 1 + i, j * 2 + 1, none⟩ (.bool x.ok)) B R (mset d i j x) := by
  have hl : j < (d.getD i []).length := by rw [hd.2 i hi]; exact hj
  refine ⟨?_, fun k hk => ?_⟩
  · rw [heap_setCell_other _ _ _ _ (by simp; omega), heap_setCell_other _ _ _ _ (by simp; omega)]; exact h.out
  · rw [mset_row hd hi]
    by_cases e : k = i
    · subst e
      rw [if_pos rfl]
      have h1 := heap_setCell_same _ _ (j * 2 + 1) _ _ (Value.bool x.ok) (heap_setCell_same _ _ (j * 2) _ _ (Value.int .i64 x.s) (h.row k hk))
      rw [h1]
      congr 2
      rw [← frCells_set _ _ _ hl]
      simp
    · rw [if_neg e, heap_setCell_other _ _ _ _ (by simp; omega), heap_setCell_other _ _ _ _ (by simp; omega)]; exact h.row k hk

/-- What stands between two looks of Matrix. -/
structure MSt (w W : World) (R : Nat) (a : Option Addr) (len cap : Nat) (d : List (List Fr)) : Prop where
  box : W.heap[w.heap.size]? = some (.cells #[.int .i64 (R : Int), .slice a len cap] 24 (0,0))
  mat : MatAt W (w.heap.size + 1) R d
  dim : Dim R d
  bl : Below w.heap.size w W

theorem MSt.grow {w W W' : World} {R : Nat} {a : Option Addr} {len cap : Nat} {d : List (List Fr)} (h : MSt w W R a len cap d) (hb : Below W.heap.size W W') : MSt w W' R a len cap d :=
  ⟨blk_below hb (lt_of_block h.box) h.box, h.mat.below hb, h.dim, h.bl.trans (hb.mono h.bl.size)⟩
theorem MSt.set {w W : World} {R : Nat} {a : Option Addr} {len cap : Nat} {d : List (List Fr)} (h : MSt w W R a len cap d) {i j : Nat} (hi : i < R) (hj : j < R) (x : Fr) :
    MSt w ((W.setCell ⟨w.heap.size + 1 + 1 + i, j * 2, none⟩ (.int .i64 x.s)).setCell ⟨w.heap.size + 1 + 1 + i, j * 2 + 1, none⟩ (.bool x.ok)) R a len cap (mset d i j x) :=
  ⟨by rw [heap_setCell_other _ _ _ _ (by simp; omega), heap_setCell_other _ _ _ _ (by simp; omega)]; exact h.box, h.mat.set h.dim hi hj x, mset_dim h.dim _ _ _, (h.bl.setCell (by simp; omega) _).setCell (by simp; omega) _⟩

theorem half_get (f : Nat → Value) (z : Value) {R k : Nat} (hk : k < R) : ((List.range k).map f ++ List.replicate (R - k) z)[k]? = some z := by
  rw [List.getElem?_append_right (by simp), List.length_map, List.length_range, Nat.sub_self, List.getElem?_replicate, if_pos (by omega)]
theorem half_set (f : Nat → Value) (z v : Value) {R k : Nat} (hk : k < R) : (((List.range k).map f ++ List.replicate (R - k) z).toArray.setIfInBounds k v)[k]? = some v := by
  rw [Array.getElem?_setIfInBounds, if_pos rfl, if_pos (by simp; omega)]

/-- What stands while the rows are made. -/
structure MSt0 (w W : World) (R : Nat) (a : Option Addr) (len cap k : Nat) : Prop where
  box : W.heap[w.heap.size]? = some (.cells #[.int .i64 (R : Int), .slice a len cap] 24 (0,0))
  out : W.heap[w.heap.size + 1]? = some (.cells ((List.range k).map (slV (w.heap.size + 1) R) ++ List.replicate (R - k) (Value.slice none 0 0)).toArray 65 (0,0))
  row : ∀ i, i < k → W.heap[w.heap.size + 1 + 1 + i]? = some (.cells (frCells ((List.replicate R fr0).set i ⟨0, true⟩)).toArray 64 (0,0))
  size : W.heap.size = w.heap.size + 1 + 1 + k
  bl : Below w.heap.size w W

theorem MSt0.done {w W : World} {R : Nat} {a : Option Addr} {len cap : Nat} (h : MSt0 w W R a len cap R) : MSt w W R a len cap (mat0 R) := by
  refine ⟨h.box, ⟨?_, fun i hi => ?_⟩, mat0_dim R, h.bl⟩
  · have := h.out
    rw [Nat.sub_self, List.replicate_zero, List.append_nil] at this
    exact this
  · rw [h.row i hi]
    simp [mat0, hi]

/-- One row more. -/
theorem MSt0.next {w W : World} {R : Nat} {a : Option Addr} {len cap k : Nat} (h : MSt0 w W R a len cap k) (hk : k < R) {W' : World}
    (hb : Below (w.heap.size + 1) W W') (ho : W'.heap[w.heap.size + 1]? = some (.cells (((List.range k).map (slV (w.heap.size + 1) R) ++ List.replicate (R - k) (Value.slice none 0 0)).toArray.setIfInBounds k (slV (w.heap.size + 1) R k)) 65 (0,0)))
    (hr : ∀ i, i < k → W'.heap[w.heap.size + 1 + 1 + i]? = W.heap[w.heap.size + 1 + 1 + i]?) (hn : W'.heap[w.heap.size + 1 + 1 + k]? = some (.cells (frCells ((List.replicate R fr0).set k ⟨0, true⟩)).toArray 64 (0,0)))
    (hs : W'.heap.size = W.heap.size + 1) : MSt0 w W' R a len cap (k + 1) := by
  refine ⟨blk_below hb (by omega) h.box, ?_, fun i hi => ?_, by rw [hs, h.size]; omega, h.bl.trans (hb.mono (by omega))⟩
  · rw [ho]
    congr 2
    rw [List.setIfInBounds_toArray, fill_map _ _ hk]
  · by_cases e : i = k
    · subst e; exact hn
    · rw [hr i (by omega)]; exact h.row i (by omega)

end Go.Proofs.YthcmjhellpjllaaGreat
