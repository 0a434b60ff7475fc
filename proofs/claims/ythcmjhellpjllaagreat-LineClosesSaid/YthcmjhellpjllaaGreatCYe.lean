/- Walk: the reference's Needless. Conditions: at most 40 points where the system is checked. -/
import Derived.Test.YthcmjhellpjllaaGreatCYd
import Derived.Test.YthcmjhellpjllaaGreatCYa
import Derived.Test.YthcmjhellpjllaaGreatP2
import Derived.Deep.DeepCutAuto
namespace Go.Proofs.YthcmjhellpjllaaGreat
open Go Go.RowKit Go.Shelf

section
variable {P : Program} {ops : Array Oper} {Q : Exit → Act → World → Prop} {md : Region.Mode} {S S' : World → Prop} {last : Nat}
/-- Two operations may come up next. -/
theorem wpAnyF_two {fuel : Nat} {listed : Array Bool} {a : Act} {w : World} (i j : Nat) {oi oj : Oper} (hi : ops[i]? = some oi) (hj : ops[j]? = some oj) (hr : Region.ready md ops listed = [i, j])
    (h1 : ∀ K' : Act → World → Prop, Shut (∀ a w, (i = last ∨ S w) → wpAnyF P md ops Q S last fuel (listed.setIfInBounds i true) a w → K' a w) → if Region.wanted oi (yielded ops a.tmps) = true then Oper.wp P oi a w K' Q else K' (a.put oi.dst undef) w)
    (h2 : ∀ K' : Act → World → Prop, Shut (∀ a w, (j = last ∨ S w) → wpAnyF P md ops Q S last fuel (listed.setIfInBounds j true) a w → K' a w) → if Region.wanted oj (yielded ops a.tmps) = true then Oper.wp P oj a w K' Q else K' (a.put oj.dst undef) w) :
    wpAnyF P md ops Q S last (fuel + 1) listed a w :=
  ⟨fun h0 => (by rw [hr] at h0; cases h0), fun k hk => by
    rw [hr] at hk
    simp only [List.mem_cons, List.not_mem_nil, or_false] at hk
    rcases hk with rfl | rfl
    · exact wpOp_step hi fun K' hK => h1 K' fun a w q1 q2 => hK a w ⟨q1, q2⟩
    · exact wpOp_step hj fun K' hK => h2 K' fun a w q1 q2 => hK a w ⟨q1, q2⟩⟩
/-- A stronger condition serves. -/
theorem wpAnyF_S (hS : ∀ w, S' w → S w) : ∀ (fuel : Nat) (listed : Array Bool) (a : Act) (w : World), wpAnyF P md ops Q S' last fuel listed a w → wpAnyF P md ops Q S last fuel listed a w
  | 0, _, _, _, h => h
  | fuel + 1, _, _, _, h => ⟨h.1, fun i hi => wpOp_mono (fun a' w' h' => ⟨h'.1.imp id (hS w'), wpAnyF_S hS fuel _ a' w' h'.2⟩) (h.2 i hi)⟩
end

/-- Part of an owned list of bounds, as it lies. -/
theorem bounds_part {W : World} {base g n cap : Nat} {l : List Bd} (h : W.ownsRow base 47 4 (.slice (some ⟨g, 0, none⟩) n cap) l.length (flat l)) {i : Nat} (r : List Bd) (hr : ∀ q (hq : q < r.length), ∃ h : i + q < l.length, l[i + q] = r[q]) : BoundsAt W (some ⟨g, i * 4, none⟩) r := by
  rcases h.2 with ⟨e, _⟩ | ⟨gb, cp, cur, e, _, hh, hn, _, hsz, htk⟩
  · cases e
  · cases e
    refine .inr ⟨g, i * 4, rfl, lt_of_block hh, fun q hq => ?_⟩
    obtain ⟨hl, e2⟩ := hr q hq
    have key : ∀ j v, j < 4 → (r[q]).cells[j]? = some v → W.cell? ⟨g, i * 4 + q * 4 + j, none⟩ = some v := by
      intro j v hj hv
      rw [cell_of_row _ _ _ _ _ _ hh, show i * 4 + q * 4 + j = (i + q) * 4 + j by omega]
      have h3 := flat_get l (i + q) hl j hj
      rw [← htk, List.getElem?_take_of_lt (by omega), e2, hv] at h3
      simpa using h3
    exact ⟨key 0 _ (by omega) rfl, key 1 _ (by omega) rfl, key 2 _ (by omega) rfl, key 3 _ (by omega) rfl⟩
theorem bounds_part0 {W : World} {base g n cap : Nat} {l : List Bd} (h : W.ownsRow base 47 4 (.slice (some ⟨g, 0, none⟩) n cap) l.length (flat l)) (i : Nat) (hi : i ≤ l.length) : BoundsAt W (some ⟨g, 0, none⟩) (l.take i) := by
  have := bounds_part h (i := 0) (l.take i) (fun q hq => by
    have hq' : q < i := by simp at hq; omega
    exact ⟨by omega, by simp⟩)
  rwa [Nat.zero_mul] at this
theorem owns_some_bounds {W : World} {base : Nat} {v : Value} {l : List Bd} (h : W.ownsRow base 47 4 v l.length (flat l)) (h0 : l.length ≠ 0) : ∃ g cap, v = .slice (some ⟨g, 0, none⟩) l.length cap ∧ l.length ≤ cap ∧ g < W.heap.size := by
  rcases h.2 with ⟨_, e⟩ | ⟨gb, cp, cur, e, _, hh, hn, _⟩
  · exact absurd e h0
  · exact ⟨gb, cp, e, hn, lt_of_block hh⟩
theorem ownsRow_kept {W W' : World} {base : Nat} {e : TypeId} {size : Nat} {v : Value} {n : Nat} {xs : List Value} (h : W.ownsRow base e size v n xs) (hb : Below W.heap.size W W') : W'.ownsRow base e size v n xs :=
  ownsRow_of_block h (fun q hq => hb.block q (owns_lt' h hq))
theorem noNeg_part {bs cs : List Bd} (h : NoNeg bs) (hs : ∀ x ∈ cs, x ∈ bs) : NoNeg cs := fun a l hw ho => h a l hw (fun x hx => hs x (ho x hx))

/-- What stands between two rounds of the reference's Needless. -/
structure NeSt (w W : World) (R : Nat) (a : Option Addr) (len cap : Nat) (v5 v6 : Value) (stay : List Bd) (out : List Int) : Prop where
  box : W.heap[w.heap.size]? = some (.cells #[.int .i64 (R : Int), .slice a len cap] 24 (0,0))
  st : W.ownsRow w.heap.size 47 4 v5 stay.length (flat stay)
  ou : W.ownsRow w.heap.size 3 1 v6 out.length (intsV out)
  bl : Below w.heap.size w W
theorem NeSt.grow {w W W' : World} {R : Nat} {a : Option Addr} {len cap : Nat} {v5 v6 : Value} {stay : List Bd} {out : List Int} (h : NeSt w W R a len cap v5 v6 stay out) (hb : Below W.heap.size W W') : NeSt w W' R a len cap v5 v6 stay out :=
  ⟨blk_below hb (lt_of_block h.box) h.box, ownsRow_kept h.st hb, ownsRow_kept h.ou hb, h.bl.trans (hb.mono h.bl.size)⟩

theorem needless_len (N : Int) (bs : List Bd) : (needlessE N bs).1.length ≤ bs.length := by
  unfold needlessE
  split
  · have h1 := needGo_len N.toNat (heightsP N bs) bs bs.length (List.replicate bs.length false) []
    show (needlessP N.toNat (heightsP N bs) bs).length ≤ _
    unfold needlessP
    rw [List.length_reverse]
    simpa using h1
  · simp

end Go.Proofs.YthcmjhellpjllaaGreat
