/- Plain laws: when two systems are alike; what LineNeeded looks at. -/
import Derived.Test.YthcmjhellpjllaaGreatCYj
import Derived.Test.YthcmjhellpjllaaGreatCYi
import Derived.Test.YthcmjhellpjllaaGreatP2
import Derived.Test.YthcmjhellpjllaaGreatCY7
namespace Go.Proofs.YthcmjhellpjllaaGreat

theorem checkP_sub {N : Int} {bs cs : List Bd} (h : checkP N bs = 0) (hl : cs.length ≤ bs.length) (hs : ∀ x ∈ cs, x ∈ bs) : checkP N cs = 0 := by
  unfold checkP at h ⊢
  split at h
  · simp at h
  · rename_i h1
    rw [if_neg (by omega)]
    unfold checkedP at h ⊢
    split at h
    · simp at h
    · rename_i h2
      rw [if_neg h2]
      split at h
      · simp at h
      · rename_i h3
        rw [if_neg]
        intro h4
        obtain ⟨x, hx, hb⟩ := List.any_eq_true.1 h4
        exact h3 (List.any_eq_true.2 ⟨x, hs x hx, hb⟩)

theorem asked_at {R : Nat} {cs : List Bd} (h : checkP R cs = 0) (hk : keptP R cs = true) {x : Nat} (hx : x < R) : askedE R cs [(x : Int)] = 0 := by
  rw [askedE_fine h (fun p hp => by simp at hp; omega), if_pos hk]

theorem distances_at {R : Nat} {cs : List Bd} {x : Nat} (h : askedE R cs [(x : Int)] = 0) : distancesP R cs x = ((List.range R).map (fun b => nV (distN R cs x b)), (List.range R).map (fun b => nB (distN R cs x b)), 0) := by
  unfold distancesP; rw [if_pos h]; simp

theorem alike_true {R : Nat} {bs cs : List Bd} (h : ∀ x : Nat, x < R → askedE R bs [(x : Int)] = 0 ∧ askedE R cs [(x : Int)] = 0) (hd : ∀ a b, a < R → b < R → distN R cs a b = distN R bs a b) : alikeP R bs cs = true := by
  unfold alikeP
  rw [List.all_eq_true]
  intro a ha
  have ha' := List.mem_range.1 ha
  obtain ⟨h1, h2⟩ := h a ha'
  unfold rowSame
  rw [distances_at h1, distances_at h2]
  have e1 : (List.range R).map (fun b => nV (distN R bs a b)) = (List.range R).map (fun b => nV (distN R cs a b)) := List.map_congr_left fun b hb => by rw [hd a b ha' (List.mem_range.1 hb)]
  have e2 : (List.range R).map (fun b => nB (distN R bs a b)) = (List.range R).map (fun b => nB (distN R cs a b)) := List.map_congr_left fun b hb => by rw [hd a b ha' (List.mem_range.1 hb)]
  simp only [e1, e2]
  simp

theorem alike_false {R : Nat} {bs cs : List Bd} (h : ∀ x : Nat, x < R → askedE R bs [(x : Int)] = 0 ∧ askedE R cs [(x : Int)] = 0) {a b : Nat} (ha : a < R) (hb : b < R) (hlt : distN R bs a b < distN R cs a b) (hf : distN R bs a b < farI) : alikeP R bs cs = false := by
  refine alike_bad ha ?_
  obtain ⟨h1, h2⟩ := h a ha
  unfold rowSame
  rw [distances_at h1, distances_at h2]
  simp only
  rw [Bool.and_eq_false_iff]
  unfold farI at hf
  by_cases hc : distN R cs a b < 1125899906842624
  · left
    rw [decide_eq_false_iff_not]
    intro e
    have := congrArg (fun l : List Int => l[b]?) e
    simp [hb] at this
    unfold nV at this
    rw [if_neg (by omega), if_neg (by omega)] at this
    omega
  · right
    rw [decide_eq_false_iff_not]
    intro e
    have := congrArg (fun l : List Bool => l[b]?) e
    simp [hb] at this
    unfold nB at this
    simp [hf, hc] at this

theorem mem_takenP {bs : List Bd} {l : List Int} {x : Bd} (h : x ∈ takenP bs l) : x ∈ bs := by
  unfold takenP at h
  obtain ⟨i, hi, e⟩ := mem_selB' h
  have hl : i < bs.length := List.mem_range.1 (List.mem_filter.1 hi).1
  rw [← e, List.getD_eq_getElem?_getD, List.getElem?_eq_getElem hl]
  exact List.getElem_mem hl

/-- What LineNeeded looks at. -/
theorem needed_law {N : Int} {bs L : List Bd} {M : List Int} {e : Int} (h : needlessE N bs = (M, e)) (hL : takenP bs M = L) :
    (e ≠ 0 ∧ M = []) ∨ (e = 0 ∧ ∃ R : Nat, N = R ∧ R ≤ 128 ∧ bs.length ≤ 2000 ∧ checkP N bs = 0 ∧ L.length + M.length = bs.length ∧ (∀ x : Nat, x < R → askedE R bs [(x : Int)] = 0 ∧ askedE R L [(x : Int)] = 0) ∧ alikeP R bs L = true ∧
      ∀ j : Nat, j < L.length → (∀ x : Nat, x < R → askedE R L [(x : Int)] = 0 ∧ askedE R (takenP L [(j : Int)]) [(x : Int)] = 0) ∧ (takenP L [(j : Int)]).length ≤ L.length ∧ alikeP R L (takenP L [(j : Int)]) = false) := by
  unfold needlessE at h
  by_cases ha : askedE N bs [] = 0
  · rw [if_pos ha] at h
    simp only [Prod.mk.injEq] at h
    obtain ⟨hM, rfl⟩ := h
    obtain ⟨R, t, rfl, ht, HO⟩ := asked0 ha
    have hc := (askedE_zero ha).1
    right
    rw [heightsP_of ht, Int.toNat_natCast] at hM
    obtain ⟨hst, hlen⟩ := taken_needless R t bs
    rw [hM] at hst hlen
    rw [hL] at hst
    have hsub : ∀ x ∈ L, x ∈ bs := fun x hx => by rw [← hL] at hx; exact mem_takenP hx
    have hk : keptP R bs = true := by unfold keptP; rw [ht]; rfl
    have hLl : L.length ≤ bs.length := by rw [hst]; omega
    have hcL := checkP_sub hc hLl hsub
    have h1 := HO.n1
    have hv := HO.valid
    have hkL : keptP R L = true := keptP_mono h1 hv hsub hk
    have A : ∀ x : Nat, x < R → askedE R bs [(x : Int)] = 0 ∧ askedE R L [(x : Int)] = 0 := fun x hx => ⟨asked_at hc hk hx, asked_at hcL hkL hx⟩
    obtain ⟨n0, n1, n2, _⟩ := checkP_zero hc
    refine ⟨rfl, R, rfl, h1, by omega, hc, by rw [hst]; exact hlen, A, ?_, fun j hj => ?_⟩
    · exact alike_true A (fun a b ha hb => by rw [hst]; exact needed_alike HO ht ha hb)
    · have hsub2 : ∀ x ∈ takenP L [(j : Int)], x ∈ L := fun x hx => mem_takenP hx
      have hl2 : (takenP L [(j : Int)]).length ≤ L.length := by rw [← takenK_all]; exact takenK_len _ _ _
      have hc2 := checkP_sub hcL hl2 hsub2
      have hv2 : AllValid R L := fun x hx => hv x (hsub x hx)
      have hk2 := keptP_mono h1 hv2 hsub2 hkL
      have A2 : ∀ x : Nat, x < R → askedE R L [(x : Int)] = 0 ∧ askedE R (takenP L [(j : Int)]) [(x : Int)] = 0 := fun x hx => ⟨asked_at hcL hkL hx, asked_at hc2 hk2 hx⟩
      refine ⟨A2, hl2, ?_⟩
      rw [hst] at hj
      obtain ⟨a, b, ha, hb, q1, q2⟩ := needed_more HO ht hj
      rw [← hst] at q1 q2
      exact alike_false A2 ha hb q1 q2
  · rw [if_neg ha] at h
    simp only [Prod.mk.injEq] at h
    obtain ⟨rfl, rfl⟩ := h
    exact .inl ⟨ha, rfl⟩

end Go.Proofs.YthcmjhellpjllaaGreat
