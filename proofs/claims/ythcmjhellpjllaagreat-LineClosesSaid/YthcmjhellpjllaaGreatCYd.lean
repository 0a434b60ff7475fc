/- Walks: the reference's insert. -/
import Derived.Test.YthcmjhellpjllaaGreatCY7
import Derived.Test.YthcmjhellpjllaaGreatA5
import Derived.Deep.RegionHeld3
namespace Go.Proofs.YthcmjhellpjllaaGreat
open Go Go.RowKit Go.Shelf

/-- An append inside a region, by its run. -/
theorem step_op_append {P : Program} {ops : Array Oper} {o : Oper} {a : Act} {w : World} {K : Act → World → Prop} {Q : Exit → Act → World → Prop} {E : Prop} (hgd : o.guard = none) {w' : World} {s x : Operand} {t : TypeId} {vs vx v : Value}
    (hop : o.op = Op.call { callee := Callee.builtin Builtin.append, args := #[s, x], argTypes := #[t, t] }) (hs : a.eval s = vs) (hx : a.eval x = vx) (hrun : (Builtin.append_ #[t, t] o.type #[vs, vx]).run P w = .ok v w')
    (h : K (a.put o.dst v) w') : if Region.wanted o (yielded ops a.tmps) = true then Oper.wp P o a w K Q else E := by
  have hw : Region.wanted o (yielded ops a.tmps) = true := by simp [Region.wanted, hgd]
  rw [if_pos hw]
  unfold Oper.wp
  rw [run_op_append hop hs hx hrun]
  exact h

theorem insAt_of : ∀ {l : List Int} {n : Int} {k : Nat}, k ≤ l.length → (∀ q (hq : q < l.length), q < k → l[q] < n) → (∀ h : k < l.length, ¬ l[k] < n) → insAt l n = k
  | [], n, k, hk, _, _ => by have : k = 0 := by simpa using hk
                             subst this; rfl
  | x :: l, n, 0, _, _, h2 => by
    have := h2 (by simp)
    simp at this
    unfold insAt
    rw [List.takeWhile_cons, if_neg (by simp; omega)]; rfl
  | x :: l, n, k + 1, hk, h1, h2 => by
    have h0 := h1 0 (by simp) (by omega)
    simp at h0
    have ih := insAt_of (l := l) (n := n) (k := k) (by simpa using hk) (fun q hq hqk => by
      have h3 := h1 (q + 1) (by simp; omega) (by omega)
      rwa [List.getElem_cons_succ] at h3) (fun h => by
      have h3 := h2 (by simp; omega)
      rwa [List.getElem_cons_succ] at h3)
    unfold insAt at ih ⊢
    rw [List.takeWhile_cons, if_pos (by simpa using h0), List.length_cons, ih]
theorem insertP_same {l : List Int} {n : Int} {k : Nat} (h : insAt l n = k) (hk : k < l.length) (e : l[k] = n) : insertP l n = l := by
  unfold insertP
  rw [h, if_pos]
  rw [List.head?_drop, List.getElem?_eq_getElem hk, e]
theorem insertP_new {l : List Int} {n : Int} {k : Nat} (h : insAt l n = k) (hk : ∀ hk : k < l.length, l[k] ≠ n) : insertP l n = l.take k ++ [n] ++ l.drop k := by
  unfold insertP
  rw [h, if_neg]
  intro e
  rw [List.head?_drop] at e
  obtain ⟨hk', e'⟩ := List.getElem?_eq_some_iff.1 e
  exact hk hk' e'

theorem owns_empty_ints {W : World} {base g : Nat} (h : W.heap[g]? = some (.cells #[] 3 (0,0))) (hb : base ≤ g) : W.ownsRow base 3 1 (.slice (some ⟨g, 0, none⟩) 0 0) ([] : List Int).length (intsV []) :=
  ⟨rfl, .inr ⟨g, 0, #[], rfl, hb, h, Nat.le_refl _, Nat.zero_le _, rfl, rfl⟩⟩
theorem ints_new (w : World) (x : Int) : IntsAt (w.alloc (.cells #[.int .i64 x] 3)) (some ⟨w.heap.size, 0, none⟩) [x] := ints_one w x
/-- Part of an owned list, as it lies. -/
theorem ints_part {W : World} {base g n cap : Nat} {l : List Int} (h : W.ownsRow base 3 1 (.slice (some ⟨g, 0, none⟩) n cap) l.length (intsV l)) {i : Nat} (r : List Int) (hr : ∀ q (hq : q < r.length), ∃ h : i + q < l.length, l[i + q] = r[q]) : IntsAt W (some ⟨g, i, none⟩) r := by
  rcases h.2 with ⟨e, _⟩ | ⟨gb, cp, cur, e, _, hh, hn, _, hsz, htk⟩
  · cases e
  · cases e
    refine .inr ⟨g, i, rfl, lt_of_block hh, fun q hq => ?_⟩
    obtain ⟨hl, e2⟩ := hr q hq
    rw [cell_of_row _ _ _ _ _ _ hh, ← e2]
    have h2 : (cur.toList.take (l.length * 1))[i + q]? = (intsV l)[i + q]? := by rw [htk]
    rw [List.getElem?_take_of_lt (by omega)] at h2
    rw [← Array.getElem?_toList, h2]
    simp [intsV, hl]

theorem ins_tail (wr : World) (base g cap k : Nat) (l : List Int) (n : Int) (hl : l.length ≤ 50000) (hk : k ≤ l.length) (hcap : l.length ≤ cap) (HO : Hid (wr.ownsRow base 3 1 (.slice (some ⟨g, 0, none⟩) l.length cap) l.length (intsV l))) (HB : Hid (base ≤ wr.heap.size)) (hnew : insertP l n = l.take k ++ [n] ++ l.drop k) :
    ∃ (v1 v2 v3 : Value) (W1 W2 W3 : World), Hid ((Builtin.append_ #[35, 35] 35 #[.slice (some ⟨wr.heap.size, 0, none⟩) 0 0, .slice (some ⟨g, 0, none⟩) k cap]).run Tryz.prog (wr.alloc (.cells #[] 3)) = .ok v1 W1) ∧
          Hid ((Builtin.append_ #[35, 35] 35 #[v1, .slice (some ⟨W1.heap.size, 0, none⟩) 1 1]).run Tryz.prog (W1.drew.alloc (.cells #[.int .i64 n] 3)) = .ok v2 W2) ∧
          Hid ((Builtin.append_ #[35, 35] 35 #[v2, .slice (if cap = k then some ⟨g, 0, none⟩ else some ⟨g, k, none⟩) (l.length - k) (cap - k)]).run Tryz.prog W2 = .ok v3 W3) ∧
          Hid (W3.ownsRow base 3 1 v3 (insertP l n).length (intsV (insertP l n))) ∧ Hid (Below wr.heap.size wr W3) := by
  have hgw : g < wr.heap.size := owns_lt' HO.out rfl
  have b1 : Below wr.heap.size wr (wr.alloc (.cells #[] 3)) := (Below.refl _ _).alloc (Nat.le_refl _) _
  have a1 : IntsAt (wr.alloc (.cells #[] 3)) (some ⟨g, 0, none⟩) (l.take k) := (ints_part HO.out (i := 0) (l.take k) (fun q hq => by
    have hq' : q < k := by simp at hq; omega
    exact ⟨by omega, by simp⟩)).below b1 (Nat.le_refl _)
  obtain ⟨v1, W1, hr1, ho1, hb1⟩ := append_ints (wr.alloc (.cells #[] 3)) wr.heap.size (.slice (some ⟨wr.heap.size, 0, none⟩) 0 0) [] (owns_empty_ints (heap_alloc_new wr _) (Nat.le_refl _)) (some ⟨g, 0, none⟩) cap (l.take k) a1 (by simp) (by simp; omega) (by simp) 35
  have b2 : Below wr.heap.size wr (W1.drew.alloc (.cells #[.int .i64 n] 3)) := (b1.trans hb1).drew.alloc (b1.trans hb1).size _
  obtain ⟨v2, W2, hr2, ho2, hb2⟩ := append_ints (W1.drew.alloc (.cells #[.int .i64 n] 3)) wr.heap.size v1 ([] ++ l.take k) (World.ownsRow.alloc (w := W1.drew) ho1 _) (some ⟨W1.heap.size, 0, none⟩) 1 [n] (ints_one W1.drew n) (by simp; omega) (by simp) (Nat.le_trans b2.size (Nat.le_refl _)) 35
  have b3 := b2.trans hb2
  have a3 : IntsAt W2 (if cap = k then some ⟨g, 0, none⟩ else some ⟨g, k, none⟩) (l.drop k) := by
    by_cases e : cap = k
    · exact .inl (List.drop_eq_nil_of_le (by omega))
    · rw [if_neg e]
      exact (ints_part HO.out (i := k) (l.drop k) (fun q hq => by
        have hq' : q < l.length - k := by simpa using hq
        exact ⟨by omega, by simp⟩)).below b3 (Nat.le_refl _)
  obtain ⟨v3, W3, hr3, ho3, hb3⟩ := append_ints W2 wr.heap.size v2 ([] ++ l.take k ++ [n]) ho2 (if cap = k then some ⟨g, 0, none⟩ else some ⟨g, k, none⟩) (cap - k) (l.drop k) a3 (by simp; omega) (by simp; omega) b3.size 35
  rw [List.length_take, Nat.min_eq_left hk] at hr1
  rw [List.length_drop] at hr3
  refine ⟨v1, v2, v3, W1, W2, W3, hidE hr1, hidE hr2, hidE hr3, hidE ?_, hidE (b3.trans hb3)⟩
  rw [hnew]
  exact ownsRow_base ho3 HB.out


end Go.Proofs.YthcmjhellpjllaaGreat
