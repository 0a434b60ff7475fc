/- Plain law: either values that keep a small system, or a circle that shows that none do. Conditions: a small system. -/
import Derived.Test.YtejbpoclfjkllaaCPlU
import Derived.Test.YtejbpoclfjkllaaP2
import Derived.Test.YtejbpoclfjkllaaA4
namespace Go.Proofs.Ytejbpoclfjkllaa

theorem askedE_nil {N : Int} {bs : List Bd} (hc : checkP N bs = 0) : askedE N bs [] = if keptP N bs = true then 0 else 10 := by
  have hp : pointP N [] = 0 := by unfold pointP; rw [if_neg (by simp)]
  rw [askedE_of [] hc, if_neg (by simp [hp])]
theorem askedE_unfit {N : Int} {bs : List Bd} (l : List Int) (hc : checkP N bs ≠ 0) : askedE N bs l = checkP N bs := by
  unfold askedE
  rw [if_pos hc]

theorem circleOk_len {bs : List Bd} {c : List Int} (h : circleOkP bs c = true) : c.length ≤ 2000 := by
  apply Classical.byContradiction
  intro hgt
  unfold circleOkP sumP at h
  rw [if_pos (by omega : 2000 < c.length)] at h
  simp at h

theorem circleOk_kept {N : Nat} {bs : List Bd} (hN : N ≤ 128) (hv : AllValid N bs) (hk : keptP N bs = true) (l : List Int) : circleOkP bs l = false := by
  cases hq : circleOkP bs l with
  | false => rfl
  | true =>
    obtain ⟨h1, h2, h3, h4, h5⟩ := (circleOk_iff hN hv).1 hq
    have := (keptP_iff hN hv).1 hk _ _ h4 (over_idx h2)
    omega

/-- THE LAW: three ways. -/
theorem either_law {N : Int} {bs : List Bd} (l : List Int) (hf : fewP N bs.length 14 40 = true) :
    (∃ c, c ≠ 0 ∧ circleP N bs = ([], false, c) ∧ someE N bs = ([], c) ∧ consistentE N bs = (false, c) ∧ checkCircleP N bs l = (false, c)) ∨
    (∃ s : List Int, circleP N bs = ([], false, 0) ∧ someE N bs = (s, 0) ∧ consistentE N bs = (true, 0) ∧ checkCircleP N bs l = (false, 0) ∧ keptE N bs s = (0, true, 0) ∧ s.length ≤ 128) ∨
    (∃ c ok, circleP N bs = (c, true, 0) ∧ someE N bs = ([], 10) ∧ consistentE N bs = (false, 0) ∧ checkCircleP N bs l = (ok, 0) ∧ (ok = true → c.length ≤ l.length) ∧ checkCircleP N bs c = (true, 0) ∧ c.length ≤ 2000) := by
  by_cases hc : checkP N bs = 0
  · obtain ⟨R, rfl, r0, r1, hl, hv⟩ := allValid_of hc
    have hcz := checkP_zero hc
    have hR := fewP_pts hf (by omega) (by omega)
    have hcc : ∀ m, checkCircleP R bs m = (circleOkP bs m, 0) := fun m => by unfold checkCircleP; rw [if_neg (by simp [hc])]
    by_cases hk : keptP R bs = true
    · obtain ⟨t, ht⟩ : ∃ t, openedP R bs = some t := by unfold keptP at hk; exact Option.isSome_iff_exists.1 hk
      have HO := netOk_of_opened r0 r1 (by omega) hv ht
      have k := some_keeps HO ht (by omega)
      have q := (keptE_iff hc).2 k
      obtain ⟨q1, q2⟩ := keptE_err hc q
      refine .inr (.inl ⟨valuesL R bs, ?_, ?_, ?_, ?_, Prod.ext q2 (Prod.ext q q1), ?_⟩)
      · unfold circleP
        rw [if_neg (by simp [hc]), if_pos (show (openedP R bs).isSome = true from hk)]
      · unfold someE
        rw [askedE_nil hc, if_pos hk, if_pos rfl]
        rfl
      · unfold consistentE
        rw [if_pos hc, show (openedP R bs).isSome = true from hk]
      · rw [hcc, circleOk_kept r1 hv hk]
      · rw [k.len]; omega
    · have hn : openedP R bs = none := by
        unfold keptP at hk
        simpa using hk
      obtain ⟨c, c1, c2, c3⟩ := circle_sum r1 hv (fun b hb => (hcz.2.2.2 b hb).2.1) hn
      refine .inr (.inr ⟨c, circleOkP bs l, ?_, ?_, ?_, hcc l, c3 l, by rw [hcc, c2], circleOk_len c2⟩)
      · unfold circleP
        rw [if_neg (by simp [hc]), if_neg (show ¬ (openedP R bs).isSome = true from hk)]
        rw [Int.toNat_natCast, c1]
      · unfold someE
        rw [askedE_nil hc, if_neg hk, if_neg (by decide)]
      · unfold consistentE
        rw [if_pos hc, hn]
        rfl
  · refine .inl ⟨checkP N bs, hc, ?_, ?_, ?_, ?_⟩
    · unfold circleP; rw [if_pos hc]
    · unfold someE; rw [askedE_unfit _ hc, if_neg hc]
    · unfold consistentE; rw [if_neg hc]
    · unfold checkCircleP; rw [if_pos hc]

end Go.Proofs.Ytejbpoclfjkllaa
