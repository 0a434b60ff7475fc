/- Plain law of LineLattice. No conditions beyond those stated. -/
import Derived.Test.YtejbpoclfjkllaaP2
namespace Go.Proofs.Ytejbpoclfjkllaa

/-- A list of an extreme is empty or kept. -/
theorem lattice_one {N : Int} {bs : List Bd} {L : List Int} {e : Int} (h : leastE N bs = (L, e) ∨ greatestE N bs = (L, e)) : L = [] ∨ ((keptE N bs L).2.1 = true ∧ (keptE N bs L).2.2 = 0 ∧ (L.length : Int) = N) := by
  unfold leastE greatestE extremeE at h
  by_cases ha : askedE N bs [] = 0
  · obtain ⟨R, t, rfl, ht, HO⟩ := asked0 ha
    simp only [if_pos ha, Int.toNat_natCast] at h
    rcases h with h | h
    all_goals
      split at h
      · exact .inl (Prod.mk.inj h).1.symm
      · rename_i hall
        obtain ⟨rfl, rfl⟩ := Prod.mk.inj h
        refine .inr ?_
        have hc := (askedE_zero ha).1
        have k := (keptE_iff hc).2 (by first | exact low_keeps HO ht (fun p hp => extreme_all hall hp) | exact high_keeps HO ht (fun p hp => extreme_all hall hp))
        exact ⟨k, (keptE_err hc k).1, by simp [lowV, highV]⟩
  · simp only [if_neg ha, or_self] at h
    exact .inl (Prod.mk.inj h).1.symm
theorem lattice_low {R : Nat} {bs : List Bd} {L y : List Int} (h : leastE R bs = (L, 0)) (k : Keeps R bs y) : L.length = R ∧ ∀ p, p < R → L.getD p 0 ≤ y.getD p 0 := by
  unfold leastE extremeE at h
  by_cases ha : askedE R bs [] = 0
  · obtain ⟨R', t, hr, ht, HO⟩ := asked0 ha
    obtain rfl : R = R' := by omega
    simp only [if_pos ha, Int.toNat_natCast] at h
    split at h
    · exact absurd (Prod.mk.inj h).2 (by decide)
    · rename_i hall
      obtain ⟨rfl, _⟩ := Prod.mk.inj h
      exact ⟨by simp [lowV], fun p hp => keeps_low HO ht k hp (extreme_all hall hp)⟩
  · simp only [if_neg ha] at h
    exact absurd (Prod.mk.inj h).2 ha
theorem lattice_high {R : Nat} {bs : List Bd} {L y : List Int} (h : greatestE R bs = (L, 0)) (k : Keeps R bs y) : L.length = R ∧ ∀ p, p < R → y.getD p 0 ≤ L.getD p 0 := by
  unfold greatestE extremeE at h
  by_cases ha : askedE R bs [] = 0
  · obtain ⟨R', t, hr, ht, HO⟩ := asked0 ha
    obtain rfl : R = R' := by omega
    simp only [if_pos ha, Int.toNat_natCast] at h
    split at h
    · exact absurd (Prod.mk.inj h).2 (by decide)
    · rename_i hall
      obtain ⟨rfl, _⟩ := Prod.mk.inj h
      exact ⟨by simp [highV], fun p hp => keeps_high HO ht k hp (extreme_all hall hp)⟩
  · simp only [if_neg ha] at h
    exact absurd (Prod.mk.inj h).2 ha
/-- Two lists that are kept: so are the lesser and the greater ones; the extremes lie beyond. -/
theorem lattice_two {N : Int} {bs : List Bd} {y z lo hi : List Int} {e f : Int} (h1 : leastE N bs = (lo, e)) (h2 : greatestE N bs = (hi, f)) (hy : (keptE N bs y).2.1 = true) (hz : (keptE N bs z).2.1 = true) :
    ∃ R : Nat, N = R ∧ 1 ≤ R ∧ R ≤ 128 ∧ y.length = R ∧ z.length = R ∧ (e = 0 → lo.length = R ∧ ∀ p, p < R → lo.getD p 0 ≤ min (y.getD p 0) (z.getD p 0)) ∧ (f = 0 → hi.length = R ∧ ∀ p, p < R → max (y.getD p 0) (z.getD p 0) ≤ hi.getD p 0) ∧
      (keptE N bs (minV R y z)).2.1 = true ∧ (keptE N bs (minV R y z)).2.2 = 0 ∧ (keptE N bs (maxV R y z)).2.1 = true ∧ (keptE N bs (maxV R y z)).2.2 = 0 := by
  have hc := (keptE_bad hy).2
  obtain ⟨n0, n1, n2, nv⟩ := checkP_zero hc
  obtain ⟨R, rfl⟩ : ∃ R : Nat, N = R := ⟨N.toNat, by omega⟩
  have ky := (keptE_iff hc).1 hy
  have kz := (keptE_iff hc).1 hz
  have k1 := (keptE_iff hc).2 (min_keeps (by omega) (fun b hb => (nv b hb).1) ky kz)
  have k2 := (keptE_iff hc).2 (max_keeps (by omega) (fun b hb => (nv b hb).1) ky kz)
  refine ⟨R, rfl, by omega, by omega, ky.len, kz.len, fun he => ?_, fun hf => ?_, k1, (keptE_err hc k1).1, k2, (keptE_err hc k2).1⟩
  · subst he
    have a1 := lattice_low h1 ky
    have a2 := lattice_low h1 kz
    exact ⟨a1.1, fun p hp => by have := a1.2 p hp; have := a2.2 p hp; omega⟩
  · subst hf
    have a1 := lattice_high h2 ky
    have a2 := lattice_high h2 kz
    exact ⟨a1.1, fun p hp => by have := a1.2 p hp; have := a2.2 p hp; omega⟩

end Go.Proofs.Ytejbpoclfjkllaa
