/- Plain law of LineClosed. No conditions beyond those stated. -/
import Derived.Test.YthcmjhellpjllaaGreatCPlCl
import Derived.Test.YthcmjhellpjllaaGreatCPlX
namespace Go.Proofs.YthcmjhellpjllaaGreat

/-- What LineClosed looks at. -/
theorem closed_law {N M e : Int} {bs L : List Bd} (h : closeE N bs = (M, L, e)) :
    (e ≠ 0 ∧ M = 0 ∧ L = []) ∨ (e = 0 ∧ ∃ R : Nat, N = R ∧ M = R ∧ R ≤ 128 ∧ bs.length ≤ 2000 ∧ L.length ≤ 2000 ∧ closeE R L = ((R : Int), L, 0) ∧ (∀ x : Nat, x < R → askedE R bs [(x : Int)] = 0 ∧ askedE R L [(x : Int)] = 0) ∧ alikeP R bs L = true) := by
  by_cases ha : askedE N bs [] = 0
  · obtain ⟨R, t, rfl, ht, HO⟩ := asked0 ha
    have hc := (askedE_zero ha).1
    unfold closeE at h
    rw [if_pos ha, Int.toNat_natCast] at h
    by_cases hb : closeBad R (distN R bs) = true ∨ 2000 < (closeL R (distN R bs)).length
    · rw [if_pos hb] at h
      obtain ⟨rfl, h2⟩ := Prod.mk.inj h
      obtain ⟨rfl, rfl⟩ := Prod.mk.inj h2
      exact .inl ⟨by decide, rfl, rfl⟩
    · rw [if_neg hb] at h
      obtain ⟨rfl, h2⟩ := Prod.mk.inj h
      obtain ⟨hL, rfl⟩ := Prod.mk.inj h2
      right
      have hb1 : ¬ closeBad R (distN R bs) = true := fun q => hb (.inl q)
      have hb2 : (closeL R (distN R bs)).length ≤ 2000 := by have : ¬ 2000 < (closeL R (distN R bs)).length := fun q => hb (.inr q); omega
      have hin : ∀ a b, a < R → b < R → distN R bs a b < farI → -1000000 ≤ distN R bs a b ∧ distN R bs a b ≤ 1000000 := by
        intro a b h1 h2 h3
        by_cases hab : b = a
        · subst hab; rw [dist_self HO ht h1]; omega
        · by_cases hq : inR (distN R bs a b) (-1000000) 1000000 = true
          · unfold inR at hq; simpa using hq
          · exact absurd (close_bad h1 h2 hab h3 (by simpa using hq)) hb1
      obtain ⟨c1, u, c2, c3, c4⟩ := close_same HO ht hb2 hin
      have hk : keptP R bs = true := by unfold keptP; rw [ht]; rfl
      have hkL : keptP R (closeL R (distN R bs)) = true := by unfold keptP; rw [c2]; rfl
      have hA : ∀ x : Nat, x < R → askedE R bs [(x : Int)] = 0 ∧ askedE R (closeL R (distN R bs)) [(x : Int)] = 0 := fun x hx => ⟨asked_at hc hk hx, asked_at c1 hkL hx⟩
      have hal := alike_true hA c4
      have h0 : askedE R (closeL R (distN R bs)) [] = 0 := by rw [askedE_fine c1 (fun p hp => by simp at hp), if_pos hkL]
      have hcl : closeL R (distN R (closeL R (distN R bs))) = closeL R (distN R bs) := closeL_congr c4
      have hcE : closeE R (closeL R (distN R bs)) = ((R : Int), closeL R (distN R bs), 0) := by
        have hfine : closeFine (closeL R (distN R (closeL R (distN R bs)))) := by
          rw [hcl]
          exact ⟨by unfold closeBad at hb1; simpa using hb1, hb2⟩
        rw [closeE_ok h0 hfine, hcl]
      rw [hL] at hb2 hcE hA hal
      have := checkP_zero hc
      exact ⟨rfl, R, rfl, rfl, by omega, this.2.2.1, hb2, hcE, hA, hal⟩
  · unfold closeE at h
    rw [if_neg ha] at h
    obtain ⟨rfl, h2⟩ := Prod.mk.inj h
    obtain ⟨rfl, rfl⟩ := Prod.mk.inj h2
    exact .inl ⟨ha, rfl, rfl⟩

end Go.Proofs.YthcmjhellpjllaaGreat
