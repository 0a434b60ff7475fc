/- Plain law: a value of a point is attained exactly if it lies in the point's range. Conditions: a small system. -/
import Derived.Test.YthcmjhellpjllaaGreatA4
import Derived.Test.YthcmjhellpjllaaGreatP2
import Derived.Test.YthcmjhellpjllaaGreatCY4
namespace Go.Proofs.YthcmjhellpjllaaGreat

theorem fewP_pts {N : Int} {n : Nat} (h : fewP N n 14 40 = true) (h1 : N ≤ 128) (h2 : n ≤ 2000) : N ≤ 14 := by
  unfold fewP at h
  simp only [Bool.or_eq_true, Bool.and_eq_true, decide_eq_true_eq] at h
  omega
theorem pointP_fine {N : Int} {l : List Int} (h : ∀ p ∈ l, 0 ≤ p ∧ p < N) : pointP N l = 0 := by
  unfold pointP
  rw [if_neg]
  intro hq
  obtain ⟨p, hp, h1⟩ := List.any_eq_true.1 hq
  have := h p hp
  rw [inR_true.2 (by omega)] at h1
  simp at h1

theorem throughE_eq {N : Int} {bs : List Bd} {p v : Int} (hc : checkP N bs = 0) (hp : pointP N [p] = 0) (hv : inR v (-1000000) 1000000 = true) (h0 : ¬ (p = 0 ∧ v ≠ 0)) :
    throughE N bs p v = if (openedP N (throughX bs p v)).isSome = true then (valuesP N.toNat (throughX bs p v), true, 0) else ([], false, 0) := by
  unfold throughE
  rw [if_neg (by simp [hc]), if_neg (by simp [hp]), if_neg (by simp [hv]), if_neg h0]
theorem throughE_off {N : Int} {bs : List Bd} {p v : Int} (hc : checkP N bs = 0) (hp : pointP N [p] = 0) (hv : inR v (-1000000) 1000000 = true) (h0 : p = 0 ∧ v ≠ 0) : throughE N bs p v = ([], false, 0) := by
  unfold throughE
  rw [if_neg (by simp [hc]), if_neg (by simp [hp]), if_neg (by simp [hv]), if_pos h0]

theorem throughX_sub (bs : List Bd) (p v : Int) : ∀ x ∈ bs, x ∈ throughX bs p v := by
  intro x hx
  unfold throughX
  split
  · exact hx
  · exact List.mem_append_left _ hx
theorem throughX_tie {bs : List Bd} {y : Nat} (h : y ≠ 0) (v : Int) : throughX bs y v = bs ++ tie y v := by
  unfold throughX
  rw [if_neg (by omega)]
  rfl

theorem inside_iff {d e v : Int} (v1 : -1000000 ≤ v) (v2 : v ≤ 1000000) : ((!nB e || decide (v ≥ -nV e)) && (!nB d || decide (v ≤ nV d))) = decide (v ≤ d ∧ 0 ≤ v + e) := by
  unfold nB nV
  rw [Bool.eq_iff_iff]
  simp only [Bool.and_eq_true, Bool.or_eq_true, Bool.not_eq_true', decide_eq_true_eq, decide_eq_false_iff_not]
  split <;> split <;> omega

theorem attained_yes {R : Nat} {bs : List Bd} {t : List Int} (H : NetOk R bs t) (hc : checkP R bs = 0) (hR : R ≤ 18) {y : Nat} (hy : y < R) {v : Int} (v1 : -1000000 ≤ v) (v2 : v ≤ 1000000)
    {xs : List Bd} (hxs : throughX bs y v = xs) (h0 : ¬ ((y : Int) = 0 ∧ v ≠ 0)) (hk : keptP R xs = true) :
    keptE R bs (valuesP R xs) = (0, true, 0) ∧ (valuesP R xs).getD y 0 = v ∧ (valuesP R xs).length = R := by
  obtain ⟨t', ht'⟩ : ∃ t', openedP R xs = some t' := by unfold keptP at hk; exact Option.isSome_iff_exists.1 hk
  have hval : AllValid R xs := by rw [← hxs]; exact throughX_valid H.n0 H.valid (by omega) (by omega) v1 v2
  have hlen : xs.length ≤ 2002 := by
    rw [← hxs]
    have := throughX_len bs y v
    have := (checkP_zero hc).2.2.1
    omega
  have K := netOk_of_opened H.n0 H.n1 hlen hval ht'
  have k := some_keeps K ht' hR
  have hsub : ∀ x ∈ bs, x ∈ xs := by rw [← hxs]; exact throughX_sub bs y v
  have kb : Keeps R bs (valuesL R xs) := ⟨k.len, k.zero, k.bd, fun b hb => k.pot b (hsub b hb)⟩
  have e : valuesP R xs = valuesL R xs := rfl
  rw [e]
  have q := (keptE_iff hc).2 kb
  obtain ⟨q1, q2⟩ := keptE_err hc q
  refine ⟨Prod.ext q2 (Prod.ext q q1), ?_, k.len⟩
  by_cases hy0 : y = 0
  · subst hy0
    rw [k.zero]
    by_cases hv : v = 0
    · exact hv.symm
    · exact absurd ⟨rfl, hv⟩ h0
  · have ex : bs ++ tie y v = xs := by rw [← hxs, throughX_tie hy0]
    subst ex
    rw [(values_keep K ht').2.2.2 y hy (by rw [tie_dist K ht' hy]; unfold farI; omega), tie_dist K ht' hy]

/-- THE LAW, where the range was told. -/
theorem attained_law {N : Int} {bs : List Bd} {p v : Int} (hf : fewP N bs.length 14 40 = true) (v1 : -1000000 ≤ v) (v2 : v ≤ 1000000) (ha : (betweenP N bs 0 p).2 = 0) :
    (throughE N bs p v).2.2 = 0 ∧ (throughE N bs p v).2.1 = ((!(betweenP N bs 0 p).1.lowest || decide (v ≥ (betweenP N bs 0 p).1.low)) && (!(betweenP N bs 0 p).1.highest || decide (v ≤ (betweenP N bs 0 p).1.high))) ∧
    ((throughE N bs p v).2.1 = false → (throughE N bs p v).1 = []) ∧
    ((throughE N bs p v).2.1 = true → keptE N bs (throughE N bs p v).1 = (0, true, 0) ∧ ∃ y : Nat, p = y ∧ y < (throughE N bs p v).1.length ∧ (throughE N bs p v).1.getD y 0 = v ∧ (throughE N bs p v).1.length ≤ 128) := by
  have ha' : askedE N bs [0, p] = 0 := by
    unfold betweenP at ha
    split at ha
    · assumption
    · exact ha
  obtain ⟨R, x, y, t, rfl, hx0, rfl, hx, hy, ht, HO⟩ := asked2 ha'
  obtain ⟨hc, _, _⟩ := askedE_zero ha'
  have hcz := checkP_zero hc
  have hR := fewP_pts hf (by omega) (by omega)
  have hp1 : pointP R [(y : Int)] = 0 := pointP_fine (by intro q hq; simp only [List.mem_cons, List.not_mem_nil, or_false] at hq; omega)
  have hin : inR v (-1000000) 1000000 = true := inR_true.2 ⟨v1, v2⟩
  have hB : betweenP R bs 0 y = (spP (distN R bs 0 y) (distN R bs y 0), 0) := by unfold betweenP; rw [if_pos ha']; rfl
  rw [hB]
  show _ ∧ _ = ((!nB (distN R bs y 0) || decide (v ≥ -nV (distN R bs y 0))) && (!nB (distN R bs 0 y) || decide (v ≤ nV (distN R bs 0 y)))) ∧ _
  rw [inside_iff v1 v2]
  by_cases h0 : (y : Int) = 0 ∧ v ≠ 0
  · have hy0 : y = 0 := by omega
    rw [throughE_off hc hp1 hin h0]
    subst hy0
    rw [dist_self HO ht hy]
    refine ⟨rfl, ?_, fun _ => rfl, fun h => by simp at h⟩
    symm
    rw [decide_eq_false_iff_not]
    omega
  · rw [throughE_eq hc hp1 hin h0]
    obtain ⟨xs, hxs⟩ : ∃ xs, throughX bs y v = xs := ⟨_, rfl⟩
    rw [hxs]
    have hiff : keptP R xs = true ↔ v ≤ distN R bs 0 y ∧ 0 ≤ v + distN R bs y 0 := by
      by_cases hy0 : y = 0
      · subst hy0
        have hv0 : v = 0 := by
          by_cases hv : v = 0
          · exact hv
          · exact absurd ⟨rfl, hv⟩ h0
        subst hv0
        have ex : bs = xs := by rw [← hxs]; unfold throughX; simp
        rw [← ex, dist_self HO ht hy]
        constructor
        · intro _; omega
        · intro _; unfold keptP; rw [ht]; rfl
      · have ex : bs ++ tie y v = xs := by rw [← hxs, throughX_tie hy0]
        rw [← ex]
        exact tie_iff HO ht hy v1 v2
    by_cases hk : keptP R xs = true
    · rw [if_pos (show (openedP R xs).isSome = true from hk)]
      obtain ⟨a1, a2, a3⟩ := attained_yes HO hc (by omega) hy v1 v2 hxs h0 hk
      refine ⟨rfl, ?_, fun h => by simp at h, fun _ => ⟨a1, y, rfl, ?_, a2, ?_⟩⟩
      · symm
        exact decide_eq_true (hiff.1 hk)
      · show y < (valuesP R xs).length
        rw [a3]; exact hy
      · show (valuesP R xs).length ≤ 128
        rw [a3]; omega
    · rw [if_neg (show ¬ (openedP R xs).isSome = true from hk)]
      refine ⟨rfl, ?_, fun _ => rfl, fun h => by simp at h⟩
      symm
      exact decide_eq_false (fun h => hk (hiff.2 h))

/-- THE LAW, where it was not. -/
theorem attained_none {N : Int} {bs : List Bd} {p v : Int} (v1 : -1000000 ≤ v) (v2 : v ≤ 1000000) (hB : (betweenP N bs 0 p).2 ≠ 0) : (throughE N bs p v).2.1 = false ∧ (throughE N bs p v).1 = [] := by
  by_cases hc : checkP N bs = 0
  · by_cases hp : pointP N [p] = 0
    · have hin : inR v (-1000000) 1000000 = true := inR_true.2 ⟨v1, v2⟩
      by_cases h0 : p = 0 ∧ v ≠ 0
      · rw [throughE_off hc hp hin h0]; exact ⟨rfl, rfl⟩
      · rw [throughE_eq hc hp hin h0]
        obtain ⟨R, rfl, r0, r1, hl, hval⟩ := allValid_of hc
        have hpz := pointP_zero hp p (by simp)
        have hk : ¬ keptP R bs = true := by
          intro hk
          apply hB
          have h2 : pointP R [0, p] = 0 := pointP_fine (by
            intro q hq
            simp only [List.mem_cons, List.not_mem_nil, or_false] at hq
            omega)
          have h3 : askedE R bs [0, p] = 0 := by rw [askedE_of _ hc, if_neg (by simp [h2]), if_pos hk]
          unfold betweenP
          rw [if_pos h3]
        rw [if_neg]
        · exact ⟨rfl, rfl⟩
        · intro hq
          exact hk (keptP_mono r1 (throughX_valid r0 hval (by omega) (by omega) v1 v2) (throughX_sub bs p v) hq)
    · unfold throughE
      rw [if_neg (by simp [hc]), if_pos hp]
      exact ⟨rfl, rfl⟩
  · unfold throughE
    rw [if_pos hc]
    exact ⟨rfl, rfl⟩

end Go.Proofs.YthcmjhellpjllaaGreat
