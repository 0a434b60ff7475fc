/- Plain law: a distance is sharp: the path found has it, no path less, no kept values more. Conditions: a system that was asked for. -/
import Derived.Test.YtejbpoclfjkllaaCPlU
import Derived.Test.YtejbpoclfjkllaaCY9
namespace Go.Proofs.Ytejbpoclfjkllaa

theorem sumP_walk {N : Nat} {bs : List Bd} {t : List Int} (HO : NetOk N bs t) (ht : openedP N bs = some t) {a b : Nat} (ha : a < N) (hb : b < N) {l : List Int} (h : (sumP bs l a b).2 = true) : distN N bs a b < farI ∧ distN N bs a b ≤ (sumP bs l a b).1 := by
  obtain ⟨h1, h2, h3⟩ := sumP_iff.1 h
  rw [sumP_sum h]
  rcases dist_cases HO ht ha hb with ⟨g1, _, k3⟩ | ⟨_, k2⟩
  · exact ⟨g1, k3 _ h3 (over_idx h2)⟩
  · exact absurd (over_idx h2) (k2 _ h3)

theorem distanceP_bad {N : Int} {bs : List Bd} {x y : Int} (h : (distanceP N bs x y).2.2 ≠ 0) : (distanceP N bs x y).2.1 = false := by
  unfold distanceP at h ⊢
  split
  · rename_i q
    rw [if_pos q] at h
    exact absurd rfl h
  · rfl

/-- What LineSharp looks at. -/
structure Sharp (N : Int) (bs : List Bd) (tk : List Int) (x y m dv : Int) (db : Bool) (pl : List Int) (pe : Int) (rg : Sp) (be : Int) (cb : Bool) (ce : Int) : Prop where
  e1 : be = 0
  e2 : ce = 0
  found : db = decide (pe = 0)
  top : rg.highest = db
  high : db = true → rg.high = dv
  given : cb = true → db = true ∧ dv ≤ m
  lo : -1000000000 ≤ dv
  hi : dv ≤ 1000000000
  len : pl.length ≤ 128
  path : db = true → checkPathE N bs pl x y dv = (true, 0) ∧ checkPathE N bs pl x y (dv - 1) = (false, 0)
  vals : ∀ v, (keptE N bs v).2.1 = true → ∃ a b : Nat, x = a ∧ y = b ∧ a < v.length ∧ b < v.length ∧ (-400000000 ≤ v.getD a 0 ∧ v.getD a 0 ≤ 400000000) ∧ (-400000000 ≤ v.getD b 0 ∧ v.getD b 0 ≤ 400000000) ∧
    (cb = true → v.getD b 0 - v.getD a 0 ≤ m) ∧ (rg.highest = true → v.getD b 0 - v.getD a 0 ≤ rg.high) ∧ (rg.lowest = true → rg.low ≤ v.getD b 0 - v.getD a 0)

theorem sharp_law {N : Int} {bs : List Bd} {x y m : Int} (tk : List Int) (ha : (distanceP N bs x y).2.2 = 0) :
    Sharp N bs tk x y m (distanceP N bs x y).1 (distanceP N bs x y).2.1 (pathE N bs x y).1 (pathE N bs x y).2 (betweenP N bs x y).1 (betweenP N bs x y).2 (checkPathE N bs tk x y m).1 (checkPathE N bs tk x y m).2 := by
  have ha' : askedE N bs [x, y] = 0 := by
    unfold distanceP at ha
    split at ha
    · assumption
    · exact ha
  obtain ⟨R, a, b, t, rfl, rfl, rfl, hx, hy, ht, HO⟩ := asked2 ha'
  obtain ⟨hc, hp, _⟩ := askedE_zero ha'
  have hn := HO.n1
  have hC : ∀ l k, checkPathE R bs l a b k = ((sumP bs l a b).2 && decide ((sumP bs l a b).1 ≤ k), 0) := fun l k => by
    unfold checkPathE
    rw [if_neg (by simp [hc]), if_neg (by simp [hp])]
  have hD : distanceP R bs a b = (nV (distN R bs a b), nB (distN R bs a b), 0) := by unfold distanceP; rw [if_pos ha']; rfl
  have hB : betweenP R bs a b = (spP (distN R bs a b) (distN R bs b a), 0) := by unfold betweenP; rw [if_pos ha']; rfl
  have hP : pathE R bs a b = if 1125899906842624 ≤ distN R bs a b then ([], 5) else (pathP R bs a b, 0) := by unfold pathE; rw [if_pos ha']; rfl
  rw [hC, hD, hB, hP]
  have hfin : ∀ v, (keptE R bs v).2.1 = true → ∃ p q : Nat, (a : Int) = p ∧ (b : Int) = q ∧ p < v.length ∧ q < v.length ∧ (-400000000 ≤ v.getD p 0 ∧ v.getD p 0 ≤ 400000000) ∧ (-400000000 ≤ v.getD q 0 ∧ v.getD q 0 ≤ 400000000) ∧
      (((sumP bs tk a b).2 && decide ((sumP bs tk a b).1 ≤ m)) = true → v.getD q 0 - v.getD p 0 ≤ m) ∧ (nB (distN R bs a b) = true → v.getD q 0 - v.getD p 0 ≤ nV (distN R bs a b)) ∧ (nB (distN R bs b a) = true → -nV (distN R bs b a) ≤ v.getD q 0 - v.getD p 0) := by
    intro v hv
    have k := (keptE_iff hc).1 hv
    have la : a < v.length := by rw [k.len]; exact hx
    have lb : b < v.length := by rw [k.len]; exact hy
    refine ⟨a, b, rfl, rfl, la, lb, k.bd _ (getD_mem la), k.bd _ (getD_mem lb), fun h => ?_, fun h => ?_, fun h => ?_⟩
    · simp only [Bool.and_eq_true, decide_eq_true_eq] at h
      obtain ⟨g1, g2⟩ := sumP_walk HO ht hx hy h.1
      have := keeps_dist HO ht k hx hy g1
      omega
    · have g := nB_true.1 h
      rw [nV_near g]
      exact keeps_dist HO ht k hx hy g
    · have g := nB_true.1 h
      rw [nV_near g]
      have := keeps_dist HO ht k hy hx g
      omega
  by_cases hd : distN R bs a b < farI
  · have hd' : ¬ 1125899906842624 ≤ distN R bs a b := by unfold farI at hd; omega
    have hnb : nB (distN R bs a b) = true := nB_true.2 hd
    have hnv := nV_near hd
    obtain ⟨bd1, bd2⟩ := dist_bd HO ht hx hy hd
    obtain ⟨s1, s2, s3, s4⟩ := path_sum HO ht hx hy hd
    have hs2 : (sumP bs (pathP R bs a b) a b).2 = true := sumP_iff.2 ⟨by omega, s2, s3⟩
    have hs1 : (sumP bs (pathP R bs a b) a b).1 = distN R bs a b := by rw [sumP_sum hs2, s4]
    rw [if_neg hd']
    refine ⟨rfl, rfl, by rw [hnb]; rfl, rfl, fun _ => rfl, fun h => ?_, by show -1000000000 ≤ nV (distN R bs a b); rw [hnv]; omega, by show nV (distN R bs a b) ≤ 1000000000; rw [hnv]; omega, by show (pathP R bs a b).length ≤ 128; omega, fun _ => ⟨?_, ?_⟩, hfin⟩
    · simp only [Bool.and_eq_true, decide_eq_true_eq] at h
      obtain ⟨g1, g2⟩ := sumP_walk HO ht hx hy h.1
      refine ⟨hnb, ?_⟩
      show nV (distN R bs a b) ≤ m
      rw [hnv]; omega
    · show checkPathE R bs (pathP R bs a b) a b (nV (distN R bs a b)) = (true, 0)
      rw [hC, hs1, hs2, hnv]
      simp
    · show checkPathE R bs (pathP R bs a b) a b (nV (distN R bs a b) - 1) = (false, 0)
      rw [hC, hs1, hs2, hnv]
      simp; omega
  · have hd' : 1125899906842624 ≤ distN R bs a b := by unfold farI at hd; omega
    have hnb : nB (distN R bs a b) = false := by
      cases hq : nB (distN R bs a b) with
      | false => rfl
      | true => exact absurd (nB_true.1 hq) hd
    have hnv : nV (distN R bs a b) = 0 := by unfold nV; rw [if_pos hd']
    rw [if_pos hd']
    refine ⟨rfl, rfl, by rw [hnb]; rfl, rfl, fun _ => rfl, fun h => ?_, by show -1000000000 ≤ nV (distN R bs a b); rw [hnv]; omega, by show nV (distN R bs a b) ≤ 1000000000; rw [hnv]; omega, by simp, fun h => ?_, hfin⟩
    · simp only [Bool.and_eq_true, decide_eq_true_eq] at h
      exact absurd (sumP_walk HO ht hx hy h.1).1 hd
    · rw [hnb] at h
      simp at h

end Go.Proofs.Ytejbpoclfjkllaa
