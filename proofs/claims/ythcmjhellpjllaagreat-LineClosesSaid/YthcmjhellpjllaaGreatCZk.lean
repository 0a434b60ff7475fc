/- How lists of lists lie in memory; SameLists at equal lists. No conditions beyond those stated. -/
import Derived.Test.YthcmjhellpjllaaGreatCYf
import Derived.Test.YthcmjhellpjllaaGreatCYe
import Derived.Test.YthcmjhellpjllaaGreatA5
import Derived.Deep.RegionHeld3
import Derived.Deep.DeepCutAuto
namespace Go.Proofs.YthcmjhellpjllaaGreat
open Go Go.RowKit Go.Shelf

theorem Tryz.info35 : (Tryz.prog.info? 35).map (fun i => (i.zero, i.size, i.bytes)) = some (some (.slice none 0 0), 1, 24) := by kernel_rfl

/-- A list of lists lies at a slice's address. -/
def ListsAt (w : World) (a : Option Addr) (ls : List (List Int)) : Prop :=
  ls = [] ∨ ∃ b off, a = some ⟨b, off, none⟩ ∧ b < w.heap.size ∧ ∀ i (h : i < ls.length), ∃ o c, w.cell? ⟨b, off + i, none⟩ = some (.slice o ls[i].length c) ∧ IntsAt w o ls[i]

theorem ListsAt.below {B : Nat} {w w' : World} {a : Option Addr} {ls : List (List Int)} (h : ListsAt w a ls) (hb : Below B w w') (hB : w.heap.size ≤ B) : ListsAt w' a ls := by
  rcases h with h | ⟨b, off, e, hl, hc⟩
  · exact .inl h
  · refine .inr ⟨b, off, e, Nat.lt_of_lt_of_le hl hb.size, fun i hi => ?_⟩
    obtain ⟨o, c, h1, h2⟩ := hc i hi
    exact ⟨o, c, (hb.cell (by exact Nat.lt_of_lt_of_le hl hB)).trans h1, h2.below hb hB⟩
theorem ListsAt.at {w : World} {a : Option Addr} {ls : List (List Int)} (h : ListsAt w a ls) {k : Nat} (hk : k < ls.length) : ∃ b off o c, a = some ⟨b, off, none⟩ ∧ b < w.heap.size ∧ w.cell? ⟨b, off + k, none⟩ = some (.slice o ls[k].length c) ∧ IntsAt w o ls[k] := by
  rcases h with h | ⟨b, off, e, hl, hc⟩
  · subst h; simp at hk
  · obtain ⟨o, c, h1, h2⟩ := hc k hk
    exact ⟨b, off, o, c, e, hl, h1, h2⟩

/-- A list of lists of the call's own. -/
def OwnsL (W : World) (base : Nat) (v : Value) (ls : List (List Int)) : Prop :=
  ∃ sls : List Value, W.ownsRow base 35 1 v sls.length sls ∧ sls.length = ls.length ∧ ∀ i (_ : i < ls.length), ∃ s, sls[i]? = some s ∧ W.ownsRow base 3 1 s ls[i].length (intsV ls[i])

theorem ownsL_nil (W : World) (base : Nat) : OwnsL W base (.slice none 0 0) [] := ⟨[], World.ownsRow_nil _ _ _ _, rfl, fun i hi => by simp at hi⟩
theorem OwnsL.base {W : World} {base base' : Nat} {v : Value} {ls : List (List Int)} (h : OwnsL W base v ls) (hb : base' ≤ base) : OwnsL W base' v ls := by
  obtain ⟨sls, h1, h2, h3⟩ := h
  exact ⟨sls, ownsRow_base h1 hb, h2, fun i hi => by obtain ⟨s, a, b⟩ := h3 i hi; exact ⟨s, a, ownsRow_base b hb⟩⟩
theorem owns_type {W : World} {base : Nat} {e e' : TypeId} {size : Nat} {v : Value} {n : Nat} {xs : List Value} {b : Nat} {c : Array Value} (h : W.ownsRow base e size v n xs) (hb : W.heap[b]? = some (.cells c e' (0,0))) (hne : e ≠ e') {g : Nat} (hg : v.ownBlock = some g) : g ≠ b := by
  intro q
  subst q
  rcases h.2 with ⟨e1, _⟩ | ⟨g1, cp1, cu1, e1, _, hh1, _⟩
  · rw [e1] at hg; simp [Value.ownBlock] at hg
  · rw [e1] at hg
    simp only [Value.ownBlock, Option.some.injEq] at hg
    subst hg
    rw [hh1] at hb
    cases hb
    exact hne rfl
/-- All blocks but one of another type stay as they were. -/
theorem OwnsL.keep {W W' : World} {base : Nat} {v : Value} {ls : List (List Int)} (h : OwnsL W base v ls) {b : Nat} {c : Array Value} {e : TypeId} (hb : W.heap[b]? = some (.cells c e (0,0))) (h27 : (35 : TypeId) ≠ e) (h3 : (3 : TypeId) ≠ e) (k : ∀ q, q ≠ b → q < W.heap.size → W'.heap[q]? = W.heap[q]?) : OwnsL W' base v ls := by
  obtain ⟨sls, h1, h2, h4⟩ := h
  refine ⟨sls, ownsRow_of_block h1 (fun g hg => k g (owns_type h1 hb h27 hg) (owns_lt' h1 hg)), h2, fun i hi => ?_⟩
  obtain ⟨s, a, d⟩ := h4 i hi
  exact ⟨s, a, ownsRow_of_block d (fun g hg => k g (owns_type d hb h3 hg) (owns_lt' d hg))⟩
theorem OwnsL.grow {W W' : World} {base : Nat} {v : Value} {ls : List (List Int)} (h : OwnsL W base v ls) (hb : Below W.heap.size W W') : OwnsL W' base v ls := by
  obtain ⟨sls, h1, h2, h4⟩ := h
  refine ⟨sls, ownsRow_of_block h1 (fun g hg => hb.block g (owns_lt' h1 hg)), h2, fun i hi => ?_⟩
  obtain ⟨s, a, d⟩ := h4 i hi
  exact ⟨s, a, ownsRow_of_block d (fun g hg => hb.block g (owns_lt' d hg))⟩
/-- One list more. -/
theorem OwnsL.append {W : World} {base : Nat} {v : Value} {ls : List (List Int)} (h : OwnsL W base v ls) {s : Value} {l : List Int} (hs : W.ownsRow base 3 1 s l.length (intsV l)) (hlen : ls.length ≤ 100000) (hb : base ≤ W.heap.size) (ty : TypeId) :
    ∃ v' W', (Builtin.append_ #[104, 104] ty #[v, .slice (some ⟨W.heap.size, 0, none⟩) 1 1]).run Tryz.prog (W.alloc (.cells #[s] 35)) = .ok v' W' ∧ OwnsL W' base v' (ls ++ [l]) ∧ Below base W W' ∧ (∀ q, q < W.heap.size → v.ownBlock ≠ some q → W'.heap[q]? = W.heap[q]?) := by
  obtain ⟨sls, h1, h2, h4⟩ := h
  obtain ⟨i0, hi, hz0, hz1, hz2⟩ := info_parts Tryz.info35
  have ba : Below W.heap.size W (W.alloc (.cells #[s] 35)) := (Below.refl _ _).alloc (Nat.le_refl _) _
  have hbx : (W.alloc (.cells #[s] 35)).heap[W.heap.size]? = some (.cells #[s] 35 (0,0)) := heap_alloc_new _ _
  have hone : s.oneCell' = true := by
    rcases hs.2 with ⟨e1, _⟩ | ⟨g1, cp1, cu1, e1, _⟩ <;> (rw [e1]; rfl)
  have hnews : ∀ j u, ([s] : List Value)[j]? = some u → (W.alloc (.cells #[s] 35)).cell? ((⟨W.heap.size, 0, none⟩ : Addr).add j) = some u := by
    intro j u hj
    rw [show ((⟨W.heap.size, 0, none⟩ : Addr).add j) = ⟨W.heap.size, 0 + j, none⟩ from by unfold Addr.add; split <;> simp_all]
    rw [cell_of_row _ _ _ _ _ _ hbx, Nat.zero_add]
    simpa using hj
  have h1' : (W.alloc (.cells #[s] 35)).ownsRow base 35 1 v sls.length sls := ownsRow_of_block h1 (fun g hg => ba.block g (owns_lt' h1 hg))
  obtain ⟨v', W', hrun, g2, g3, _, g5⟩ := run_append_own_at (P := Tryz.prog) (W.alloc (.cells #[s] 35)) base 104 ty 35 i0 _ 1 24 Tryz.underlying104 hi hz0 hz1 hz2 rfl (by decide) v _ _ h1' ⟨W.heap.size, 0, none⟩ 1 1 [s] rfl hnews (by intro u hu; simp at hu; subst hu; exact hone) (by unfold maxLen; omega) (by omega) (Nat.le_trans hb ba.size)
  have hfr : ∀ q, q < (W.alloc (.cells #[s] 35)).heap.size → v.ownBlock ≠ some q → W'.heap[q]? = (W.alloc (.cells #[s] 35)).heap[q]? := fun q hq hne => g3.block q hq (fun e => hne e.symm)
  have hbel : Below base (W.alloc (.cells #[s] 35)) W' := (Below.refl base _).grown g3 (Nat.le_trans hb ba.size) (fun q e => by
    rcases h1'.2 with ⟨e1, _⟩ | ⟨g1, cp', cu, e1, hge, hh, _⟩
    · rw [e1] at e; simp [Value.ownBlock] at e
    · rw [e1] at e
      simp only [Value.ownBlock, Option.some.injEq] at e
      omega)
  have hall : ∀ q, q < W.heap.size → v.ownBlock ≠ some q → W'.heap[q]? = W.heap[q]? := fun q hq hne => (hfr q (Nat.lt_of_lt_of_le hq ba.size) hne).trans (ba.block q hq)
  have hkeep : ∀ (x : Value) (m : List Int), W.ownsRow base 3 1 x m.length (intsV m) → W'.ownsRow base 3 1 x m.length (intsV m) := by
    intro x m hx
    refine ownsRow_of_block hx (fun g hg => hall g (owns_lt' hx hg) (fun e => ?_))
    rcases h1.2 with ⟨e1, _⟩ | ⟨g1, cp', cu, e1, hge, hh, _⟩
    · rw [e1] at e; simp [Value.ownBlock] at e
    · rw [e1] at e
      simp only [Value.ownBlock, Option.some.injEq] at e
      subst e
      exact owns_type hx hh (by decide) hg rfl
  refine ⟨v', W', hrun, ⟨sls ++ [s], by rw [List.length_append]; exact g2, by simp [h2], fun i hi => ?_⟩, (ba.mono hb).trans hbel, hall⟩
  by_cases hil : i < ls.length
  · obtain ⟨x, a, d⟩ := h4 i hil
    refine ⟨x, by rw [List.getElem?_append_left (by omega)]; exact a, ?_⟩
    rw [List.getElem_append_left hil]
    exact hkeep x _ d
  · have hie : i = ls.length := by simp at hi; omega
    subst hie
    refine ⟨s, by rw [List.getElem?_append_right (by omega), ← h2]; simp, ?_⟩
    rw [List.getElem_append_right (by omega)]
    simp only [Nat.sub_self, List.getElem_cons_zero]
    exact hkeep s l hs
theorem OwnsL.lists {W : World} {base : Nat} {v : Value} {ls : List (List Int)} (h : OwnsL W base v ls) : ∃ o c, v = .slice o ls.length c ∧ ListsAt W o ls := by
  obtain ⟨sls, h1, h2, h4⟩ := h
  rcases h1.2 with ⟨e, h0⟩ | ⟨gb, cp, cur, e, _, hh, hn, _, hsz, htk⟩
  · exact ⟨none, 0, by rw [e, ← h2, h0], .inl (List.length_eq_zero_iff.1 (by omega))⟩
  · refine ⟨_, _, by rw [e, h2], .inr ⟨gb, 0, rfl, lt_of_block hh, fun i hi => ?_⟩⟩
    obtain ⟨s, a, d⟩ := h4 i hi
    obtain ⟨o, c, es, hi2, _⟩ := intsAt_of_owns d
    refine ⟨o, c, ?_, hi2⟩
    rw [cell_of_row _ _ _ _ _ _ hh, Nat.zero_add]
    have h2' : (cur.toList.take (sls.length * 1))[i]? = sls[i]? := by rw [htk]
    rw [List.getElem?_take_of_lt (by omega), a] at h2'
    rw [← Array.getElem?_toList, h2', es]

/-- What a function owes that hands back a list of lists and an error. -/
def ListsPost (ls : List (List Int)) (err : Int) (base : Nat) (e : Ending) (w' : World) : Prop := ∃ v, e = .returned (.tuple #[v, .int .i64 err]) ∧ OwnsL w' base v ls

end Go.Proofs.YthcmjhellpjllaaGreat
