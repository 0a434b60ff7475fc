/- Walks: Distances, of the program and of the reference. Conditions: at most 40 points where the system is checked (the reference). -/
import Derived.Test.YthcmjhellpjllaaGreatCYa
import Derived.Test.YthcmjhellpjllaaGreatCYd
import Derived.Test.YthcmjhellpjllaaGreatA3b
namespace Go.Proofs.YthcmjhellpjllaaGreat
open Go Go.RowKit Go.Shelf

/-- Distances: the numbers, whether there are paths, the error. -/
def distancesP (N : Int) (bs : List Bd) (x : Int) : List Int × List Bool × Int :=
  if askedE N bs [x] = 0 then ((List.range N.toNat).map (fun b => nV (distN N.toNat bs x.toNat b)), (List.range N.toNat).map (fun b => nB (distN N.toNat bs x.toNat b)), 0) else ([], [], askedE N bs [x])
/-- Two lists and an error are handed back. -/
def DistPost (d : List Int × List Bool × Int) (e : Ending) (w' : World) : Prop :=
  ∃ a1 c1 a2 c2, e = .returned (.tuple #[.slice a1 d.1.length c1, .slice a2 d.2.1.length c2, .int .i64 d.2.2]) ∧ IntsAt w' a1 d.1 ∧ BoolsAt w' a2 d.2.1

theorem ints_of_row {w : World} {b : Nat} {l : List Int} (h : w.heap[b]? = some (.cells (rowA l) 3 (0,0))) : IntsAt w (some ⟨b, 0, none⟩) l :=
  .inr ⟨b, 0, rfl, lt_of_block h, fun i hi => by rw [cell_of_row _ _ _ _ _ _ h, Nat.zero_add, rowA_get hi, getD_get l 0 hi]⟩
theorem bools_of_row {w : World} {b : Nat} {l : List Bool} (h : w.heap[b]? = some (.cells (boolA l) 4 (0,0))) : BoolsAt w (some ⟨b, 0, none⟩) l :=
  .inr ⟨b, 0, rfl, lt_of_block h, fun i hi => by rw [cell_of_row _ _ _ _ _ _ h, Nat.zero_add, boolA_get hi]; simp [List.getD_eq_getElem?_getD, hi]⟩

theorem boolsV_oneV (l : List Bool) : ∀ u ∈ boolsV l, u.oneCell' = true := by intro u hu; simp [boolsV] at hu; rcases hu with ⟨_, rfl⟩ | ⟨_, rfl⟩ <;> rfl
theorem boolsV_cat (a b : List Bool) : boolsV (a ++ b) = boolsV a ++ boolsV b := by simp [boolsV]
theorem append_bool (w : World) (base : Nat) (v : Value) (xs : List Bool) (hown : w.ownsRow base 4 1 v xs.length (boolsV xs)) (b : Nat) (q : Bool) (h : w.heap[b]? = some (.cells #[.bool q] 4 (0,0))) (hx : xs.length ≤ 100000) (hb : base ≤ w.heap.size) (ty : TypeId) :
    ∃ v' w', (Builtin.append_ #[80, 80] ty #[v, .slice (some ⟨b, 0, none⟩) 1 1]).run Tryz.prog w = .ok v' w' ∧ w'.ownsRow base 4 1 v' (xs ++ [q]).length (boolsV (xs ++ [q])) ∧ Below base w w' ∧ (∀ q, q < w.heap.size → v.ownBlock ≠ some q → w'.heap[q]? = w.heap[q]?) := by
  obtain ⟨i0, hi, hz0, hz1, hz2⟩ := info_parts Tryz.info4'
  have hnews : ∀ j u, (boolsV [q])[j]? = some u → w.cell? ((⟨b, 0, none⟩ : Addr).add j) = some u := by
    intro j u hj
    rw [show ((⟨b, 0, none⟩ : Addr).add j) = ⟨b, 0 + j, none⟩ from by unfold Addr.add; split <;> simp_all]
    rw [cell_of_row _ _ _ _ _ _ h, Nat.zero_add]
    simpa [boolsV] using hj
  obtain ⟨v', w', hrun, h2, h3, _, h5⟩ := run_append_own_at (P := Tryz.prog) w base 80 ty 4 i0 _ 1 1 Tryz.underlying80 hi hz0 hz1 hz2 rfl (by decide) v _ _ hown ⟨b, 0, none⟩ 1 1 (boolsV [q]) (by simp [boolsV]) hnews (boolsV_oneV _) (by unfold maxLen; omega) (by omega) hb
  refine ⟨v', w', hrun, by rw [List.length_append, boolsV_cat]; exact h2, (Below.refl base w).grown h3 hb (fun q e => ?_), fun q hq hne => h3.block q hq (fun e => hne e.symm)⟩
  rcases hown.2 with ⟨e1, _⟩ | ⟨g1, cp', cu, e1, hge, hh, _⟩
  · rw [e1] at e; simp [Value.ownBlock] at e
  · rw [e1] at e
    simp only [Value.ownBlock, Option.some.injEq] at e
    omega
theorem append_int (w : World) (base : Nat) (v : Value) (xs : List Int) (hown : w.ownsRow base 3 1 v xs.length (intsV xs)) (b : Nat) (q : Int) (h : w.heap[b]? = some (.cells #[.int .i64 q] 3 (0,0))) (hx : xs.length ≤ 100000) (hb : base ≤ w.heap.size) (ty : TypeId) :
    ∃ v' w', (Builtin.append_ #[35, 35] ty #[v, .slice (some ⟨b, 0, none⟩) 1 1]).run Tryz.prog w = .ok v' w' ∧ w'.ownsRow base 3 1 v' (xs ++ [q]).length (intsV (xs ++ [q])) ∧ Below base w w' ∧ (∀ q, q < w.heap.size → v.ownBlock ≠ some q → w'.heap[q]? = w.heap[q]?) := by
  obtain ⟨i0, hi, hz0, hz1, hz2⟩ := info_parts info3
  have hnews : ∀ j u, (intsV [q])[j]? = some u → w.cell? ((⟨b, 0, none⟩ : Addr).add j) = some u := by
    intro j u hj
    rw [show ((⟨b, 0, none⟩ : Addr).add j) = ⟨b, 0 + j, none⟩ from by unfold Addr.add; split <;> simp_all]
    rw [cell_of_row _ _ _ _ _ _ h, Nat.zero_add]
    simpa [intsV] using hj
  obtain ⟨v', w', hrun, h2, h3, _, h5⟩ := run_append_own_at (P := Tryz.prog) w base 35 ty 3 i0 _ 1 8 Tryz.underlying35 hi hz0 hz1 hz2 rfl (by decide) v _ _ hown ⟨b, 0, none⟩ 1 1 (intsV [q]) (by simp [intsV]) hnews (intsV_oneV _) (by unfold maxLen; omega) (by omega) hb
  refine ⟨v', w', hrun, by rw [List.length_append, intsV_cat]; exact h2, (Below.refl base w).grown h3 hb (fun q e => ?_), fun q hq hne => h3.block q hq (fun e => hne e.symm)⟩
  rcases hown.2 with ⟨e1, _⟩ | ⟨g1, cp', cu, e1, hge, hh, _⟩
  · rw [e1] at e; simp [Value.ownBlock] at e
  · rw [e1] at e
    simp only [Value.ownBlock, Option.some.injEq] at e
    omega
theorem boolsAt_of_owns {W : World} {base : Nat} {v : Value} {l : List Bool} (h : W.ownsRow base 4 1 v l.length (boolsV l)) : ∃ o cap, v = .slice o l.length cap ∧ BoolsAt W o l := by
  rcases h.2 with ⟨e, h0⟩ | ⟨gb, cp, cur, e, _, hh, hn, _, hsz, htk⟩
  · exact ⟨none, 0, by rw [e, h0], .inl (List.length_eq_zero_iff.1 h0)⟩
  · refine ⟨_, _, e, .inr ⟨gb, 0, rfl, lt_of_block hh, fun i hi => ?_⟩⟩
    rw [cell_of_row _ _ _ _ _ _ hh, Nat.zero_add]
    have h2 : (cur.toList.take (l.length * 1))[i]? = (boolsV l)[i]? := by rw [htk]
    rw [List.getElem?_take_of_lt (by omega)] at h2
    rw [← Array.getElem?_toList, h2]
    simp [boolsV, hi]
/-- A run that appends keeps what another value owns. -/
theorem owns_apart {W W' : World} {base base' : Nat} {e e' : TypeId} {size size' : Nat} {v v' : Value} {n n' : Nat} {xs xs' : List Value} (h : W.ownsRow base e size v n xs) (k : ∀ q, q < W.heap.size → v'.ownBlock ≠ some q → W'.heap[q]? = W.heap[q]?) (h' : W.ownsRow base' e' size' v' n' xs') (hne : e ≠ e') : W'.ownsRow base e size v n xs :=
  ownsRow_of_block h (fun q hq => k q (owns_lt' h hq) (fun hq' => by
    rcases h.2 with ⟨e1, _⟩ | ⟨g1, cp1, cu1, e1, _, hh1, _⟩
    · rw [e1] at hq; simp [Value.ownBlock] at hq
    · rcases h'.2 with ⟨e2, _⟩ | ⟨g2, cp2, cu2, e2, _, hh2, _⟩
      · rw [e2] at hq'; simp [Value.ownBlock] at hq'
      · rw [e1] at hq
        rw [e2] at hq'
        simp only [Value.ownBlock, Option.some.injEq] at hq hq'
        subst hq
        subst hq'
        rw [hh1] at hh2
        cases hh2
        exact hne rfl))

end Go.Proofs.YthcmjhellpjllaaGreat
