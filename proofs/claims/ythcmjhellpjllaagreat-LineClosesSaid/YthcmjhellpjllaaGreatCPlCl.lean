/- Plain laws: how the closure of a system grows row by row; it stands in order. No conditions beyond those stated. -/
import Derived.Test.YthcmjhellpjllaaGreatP2
import Derived.Test.YthcmjhellpjllaaGreatCS2
namespace Go.Proofs.YthcmjhellpjllaaGreat

/-- The row of a point, up to another one. -/
def rowTo (D : Nat → Nat → Int) (a b : Nat) : List Bd := closeRow b D a
/-- The closure, up to a pair of points. -/
def closeAt (D : Nat → Nat → Int) (N k b : Nat) : List Bd := (List.range k).flatMap (closeRow N D) ++ rowTo D k b

theorem rowTo_zero (D : Nat → Nat → Int) (a : Nat) : rowTo D a 0 = [] := rfl
theorem rowTo_skip {D : Nat → Nat → Int} {a b : Nat} (h : b = a ∨ farI ≤ D a b) : rowTo D a (b + 1) = rowTo D a b := by
  unfold rowTo closeRow
  rw [List.range_succ, List.filter_append, List.filter_cons, if_neg, List.filter_nil, List.append_nil]
  unfold nB
  unfold farI at h
  rcases h with h | h <;> simp [h]
theorem rowTo_take {D : Nat → Nat → Int} {a b : Nat} (h1 : b ≠ a) (h2 : D a b < farI) : rowTo D a (b + 1) = rowTo D a b ++ [⟨(a : Int), (b : Int), D a b, 0⟩] := by
  unfold rowTo closeRow
  rw [List.range_succ, List.filter_append, List.filter_cons, if_pos, List.filter_nil, List.map_append]
  · rfl
  · unfold nB
    unfold farI at h2
    simp [h1, h2]
theorem closeAt_zero (D : Nat → Nat → Int) (N : Nat) : closeAt D N 0 0 = [] := rfl
theorem closeAt_skip {D : Nat → Nat → Int} {N a b : Nat} (h : b = a ∨ farI ≤ D a b) : closeAt D N a (b + 1) = closeAt D N a b := by
  unfold closeAt; rw [rowTo_skip h]
theorem closeAt_take {D : Nat → Nat → Int} {N a b : Nat} (h1 : b ≠ a) (h2 : D a b < farI) : closeAt D N a (b + 1) = closeAt D N a b ++ [⟨(a : Int), (b : Int), D a b, 0⟩] := by
  unfold closeAt; rw [rowTo_take h1 h2, List.append_assoc]
theorem closeAt_row (D : Nat → Nat → Int) (N k : Nat) : closeAt D N k N = closeAt D N (k + 1) 0 := by
  unfold closeAt
  rw [List.range_succ, List.flatMap_append, rowTo_zero]
  simp [rowTo]
theorem closeAt_end (D : Nat → Nat → Int) (N : Nat) : closeAt D N N 0 = closeL N D := by
  unfold closeAt closeL; rw [rowTo_zero, List.append_nil]
theorem closeAt_grow (D : Nat → Nat → Int) (N a : Nat) {b : Nat} : ∀ (n : Nat), b + n ≤ N → ∃ r, closeAt D N a (b + n) = closeAt D N a b ++ r
  | 0, _ => ⟨[], by simp⟩
  | n + 1, h => by
    obtain ⟨r, hr⟩ := closeAt_grow D N a n (b := b) (by omega)
    rw [← Nat.add_assoc]
    by_cases hc : b + n = a ∨ farI ≤ D a (b + n)
    · exact ⟨r, by rw [closeAt_skip hc, hr]⟩
    · refine ⟨r ++ [⟨(a : Int), ((b + n : Nat) : Int), D a (b + n), 0⟩], ?_⟩
      rw [closeAt_take (by omega) (by omega), hr, List.append_assoc]
theorem closeAt_rows (D : Nat → Nat → Int) (N a : Nat) : ∀ (n : Nat), ∃ r, closeAt D N (a + n) 0 = closeAt D N a 0 ++ r
  | 0 => ⟨[], by simp⟩
  | n + 1 => by
    obtain ⟨r, hr⟩ := closeAt_rows D N a n
    obtain ⟨r2, hr2⟩ := closeAt_grow D N (a + n) (b := 0) N (by omega)
    rw [Nat.zero_add] at hr2
    exact ⟨r ++ r2, by rw [← Nat.add_assoc, ← closeAt_row, hr2, hr, List.append_assoc]⟩
/-- What was gathered is a beginning of the closure. -/
theorem closeAt_prefix {D : Nat → Nat → Int} {N a b : Nat} (ha : a < N) (hb : b ≤ N) : ∃ r, closeL N D = closeAt D N a b ++ r := by
  obtain ⟨r1, h1⟩ := closeAt_grow D N a (b := b) (N - b) (by omega)
  rw [show b + (N - b) = N by omega, closeAt_row] at h1
  obtain ⟨r2, h2⟩ := closeAt_rows D N (a + 1) (N - (a + 1))
  rw [show a + 1 + (N - (a + 1)) = N by omega, closeAt_end, h1] at h2
  exact ⟨r1 ++ r2, by rw [h2, List.append_assoc]⟩
theorem closeAt_len {D : Nat → Nat → Int} {N a b : Nat} (ha : a < N) (hb : b ≤ N) : (closeAt D N a b).length ≤ N * N := by
  obtain ⟨r, h⟩ := closeAt_prefix (D := D) ha hb
  have := closeL_len N D
  rw [h, List.length_append] at this
  omega

/-- A distance too great ends it. -/
theorem close_bad {D : Nat → Nat → Int} {N a b : Nat} (ha : a < N) (hb : b < N) (h1 : b ≠ a) (h2 : D a b < farI) (h3 : inR (D a b) (-1000000) 1000000 = false) : closeBad N D = true := by
  unfold closeBad
  rw [List.any_eq_true]
  exact ⟨⟨(a : Int), (b : Int), D a b, 0⟩, mem_closeL.2 ⟨a, b, ha, hb, h1, h2, rfl⟩, by rw [h3]; rfl⟩
/-- So do too many. -/
theorem close_full {D : Nat → Nat → Int} {N a b : Nat} (ha : a < N) (hb : b < N) (h1 : b ≠ a) (h2 : D a b < farI) (h3 : 2000 ≤ (closeAt D N a b).length) : 2000 < (closeL N D).length := by
  obtain ⟨r, h⟩ := closeAt_prefix (D := D) (b := b + 1) ha (by omega)
  rw [h, closeAt_take h1 h2]
  simp only [List.length_append, List.length_singleton]
  omega
/-- Nothing bad so far. -/
def closeFine (l : List Bd) : Prop := (l.any fun x => !inR x.most (-1000000) 1000000) = false ∧ l.length ≤ 2000
theorem closeFine_nil : closeFine [] := ⟨rfl, by simp⟩
theorem closeFine_snoc {l : List Bd} {x : Bd} (h : closeFine l) (h1 : inR x.most (-1000000) 1000000 = true) (h2 : l.length < 2000) : closeFine (l ++ [x]) :=
  ⟨by rw [List.any_append, h.1]; simp [h1], by simp; omega⟩
theorem closeE_ok {N : Nat} {bs : List Bd} (he : askedE N bs [] = 0) (h : closeFine (closeL N (distN N bs))) : closeE N bs = ((N : Int), closeL N (distN N bs), 0) := by
  unfold closeE
  rw [if_pos he, Int.toNat_natCast, if_neg]
  rintro (q | q)
  · unfold closeBad at q; rw [h.1] at q; cases q
  · have := h.2; omega
theorem closeE_bad {N : Nat} {bs : List Bd} (he : askedE N bs [] = 0) (h : closeBad N (distN N bs) = true ∨ 2000 < (closeL N (distN N bs)).length) : closeE N bs = (0, [], 2) := by
  unfold closeE
  rw [if_pos he, Int.toNat_natCast, if_pos h]

theorem cmpI_pos {a b : Int} (h : b ≤ a) : 0 ≤ cmpI a b := by unfold cmpI; split <;> (try split) <;> omega
theorem cmpI_gt {a b : Int} (h : b < a) : cmpI a b = 1 := by unfold cmpI; rw [if_neg (by omega), if_pos h]
theorem cmpI_self (a : Int) : cmpI a a = 0 := by unfold cmpI; rw [if_neg (by omega), if_neg (by omega)]
theorem closeRow_pair (N : Nat) (D : Nat → Nat → Int) (a : Nat) : (closeRow N D a).Pairwise fun x y => 0 ≤ cmpB y x := by
  unfold closeRow
  rw [List.pairwise_map]
  refine List.Pairwise.imp ?_ ((List.pairwise_lt_range (n := N)).filter _)
  intro x y h
  unfold cmpB
  simp only [cmpI_self, if_true]
  exact cmpI_pos (by omega)
theorem closeL_pair (N : Nat) (D : Nat → Nat → Int) : (closeL N D).Pairwise fun x y => 0 ≤ cmpB y x := by
  unfold closeL
  rw [List.flatMap_def, List.pairwise_flatten]
  refine ⟨fun l hl => ?_, ?_⟩
  · obtain ⟨a, _, rfl⟩ := List.mem_map.1 hl
    exact closeRow_pair N D a
  · rw [List.pairwise_map]
    refine List.Pairwise.imp ?_ (List.pairwise_lt_range (n := N))
    intro x y h u hu v hv
    unfold closeRow at hu hv
    obtain ⟨p, _, rfl⟩ := List.mem_map.1 hu
    obtain ⟨q, _, rfl⟩ := List.mem_map.1 hv
    unfold cmpB
    simp only [cmpI_gt (show (x : Int) < (y : Int) by omega)]
    rw [if_neg (by decide)]
    decide
theorem closeL_ordered (N : Nat) (D : Nat → Nat → Int) : OrderedB (closeL N D) := by
  intro i j hi hj h
  exact List.pairwise_iff_getElem.1 (closeL_pair N D) i j hi hj h

end Go.Proofs.YthcmjhellpjllaaGreat
