/- Plain laws: what stands between two looks of Rigid. No conditions beyond those stated. -/
import Derived.Test.YthcmjhellpjllaaGreatP2
namespace Go.Proofs.YthcmjhellpjllaaGreat

def classTo (D : Nat → Nat → Int) (k b : Nat) : List Int := ((List.range b).filter fun p => decide (k ≤ p) && sameD D k p).map fun p : Nat => (p : Int)
def doneTo (N : Nat) (D : Nat → Nat → Int) (fl : List Bool) (k b : Nat) : List Bool := (List.range N).map fun p => fl.getD p false || (decide (k ≤ p) && decide (p < b) && sameD D k p)

theorem classTo_start (D : Nat → Nat → Int) (k : Nat) : classTo D k k = [] := by
  unfold classTo
  rw [List.filter_eq_nil_iff.2 (fun p hp => by have := List.mem_range.1 hp; simp; omega)]
  rfl
theorem classTo_yes {D : Nat → Nat → Int} {k b : Nat} (hb : k ≤ b) (h : sameD D k b = true) : classTo D k (b + 1) = classTo D k b ++ [(b : Int)] := by
  unfold classTo
  rw [List.range_succ, List.filter_append, List.map_append]
  simp [hb, h]
theorem classTo_no {D : Nat → Nat → Int} {k b : Nat} (h : sameD D k b = false) : classTo D k (b + 1) = classTo D k b := by
  unfold classTo
  rw [List.range_succ, List.filter_append, List.map_append]
  simp [h]
theorem classTo_len (D : Nat → Nat → Int) (k b : Nat) : (classTo D k b).length ≤ b := by
  unfold classTo
  rw [List.length_map]
  have := List.length_filter_le (fun p => decide (k ≤ p) && sameD D k p) (List.range b)
  simpa using this
theorem classTo_end (N : Nat) (D : Nat → Nat → Int) (k : Nat) : classTo D k N = classD N D k := rfl
theorem doneTo_len (N : Nat) (D : Nat → Nat → Int) (fl : List Bool) (k b : Nat) : (doneTo N D fl k b).length = N := by simp [doneTo]
theorem doneTo_start {N : Nat} {D : Nat → Nat → Int} {fl : List Bool} (k : Nat) (hl : fl.length = N) : doneTo N D fl k k = fl := by
  apply List.ext_getElem?
  intro i
  unfold doneTo
  rw [List.getElem?_map, range_get]
  by_cases h : i < N
  · rw [if_pos h]
    have e : (decide (k ≤ i) && decide (i < k)) = false := by
      cases h1 : decide (k ≤ i) with
      | false => rfl
      | true => simp at h1; simp; omega
    simp [e, List.getElem?_eq_getElem (show i < fl.length by omega)]
  · rw [if_neg h, List.getElem?_eq_none (by omega)]; rfl
theorem doneTo_no {N : Nat} {D : Nat → Nat → Int} {fl : List Bool} {k b : Nat} (h : sameD D k b = false) : doneTo N D fl k (b + 1) = doneTo N D fl k b := by
  unfold doneTo
  apply List.map_congr_left
  intro p _
  by_cases e : p = b
  · subst e; simp [h]
  · have : decide (p < b + 1) = decide (p < b) := by rw [decide_eq_decide]; omega
    rw [this]
theorem doneTo_yes {N : Nat} {D : Nat → Nat → Int} {fl : List Bool} {k b : Nat} (hb : k ≤ b) (hN : b < N) (h : sameD D k b = true) : doneTo N D fl k (b + 1) = (doneTo N D fl k b).set b true := by
  apply List.ext_getElem?
  intro i
  unfold doneTo
  rw [List.getElem?_set, List.getElem?_map, List.getElem?_map, range_get, List.length_map, List.length_range]
  by_cases e : b = i
  · subst e
    rw [if_pos rfl, if_pos hN, if_pos hN]
    simp [hb, h]
  · rw [if_neg e]
    have : decide (i < b + 1) = decide (i < b) := by rw [decide_eq_decide]; omega
    by_cases hi : i < N
    · simp [hi, this]
    · simp [hi]
theorem doneTo_end (N : Nat) (D : Nat → Nat → Int) (fl : List Bool) (k : Nat) : doneTo N D fl k N = (List.range N).map fun b => fl.getD b false || (decide (k ≤ b) && sameD D k b) := by
  unfold doneTo
  apply List.map_congr_left
  intro p hp
  have := List.mem_range.1 hp
  simp [this]

theorem rigidS_succ (N : Nat) (D : Nat → Nat → Int) (k : Nat) : rigidS N D (k + 1) = rigidAt N D (rigidS N D k) k := by
  unfold rigidS; rw [List.range_succ, List.foldl_append]; rfl
theorem rigidS_len (N : Nat) (D : Nat → Nat → Int) : ∀ k, (rigidS N D k).1.length = N ∧ (rigidS N D k).2.length ≤ k
  | 0 => by simp [rigidS]
  | k + 1 => by
    have ih := rigidS_len N D k
    rw [rigidS_succ]
    unfold rigidAt
    split
    · exact ⟨ih.1, by omega⟩
    · exact ⟨by simp, by simp; omega⟩
theorem rigidS_skip {N : Nat} {D : Nat → Nat → Int} {k : Nat} (h : (rigidS N D k).1.getD k false = true) : rigidS N D (k + 1) = rigidS N D k := by
  rw [rigidS_succ]; unfold rigidAt; rw [if_pos h]
theorem rigidS_take {N : Nat} {D : Nat → Nat → Int} {k : Nat} (h : (rigidS N D k).1.getD k false = false) : rigidS N D (k + 1) = (doneTo N D (rigidS N D k).1 k N, (rigidS N D k).2 ++ [classTo D k N]) := by
  rw [rigidS_succ, doneTo_end, classTo_end]; unfold rigidAt; rw [if_neg (by rw [h]; simp)]
theorem rigidS_end {N : Nat} {D : Nat → Nat → Int} (E : EqvD N D) : (rigidS N D N).2 = rigidL N D := by
  rw [rigidS_eq E N (Nat.le_refl _)]; rfl

/-- The reference's test, by its matrix. -/
def sameM (d : List (List Fr)) (a b : Nat) : Bool := (mget d b a).ok && (mget d a b).ok && (-frV (mget d b a) == frV (mget d a b))
theorem sameM_dist {N : Nat} {bs : List Bd} {t : List Int} (HO : NetOk N bs t) (ht : openedP N bs = some t) {a b : Nat} (ha : a < N) (hb : b < N) : sameM (matrixP N bs) a b = sameD (distN N bs) a b := by
  have h1 := frV_dist HO ht ha hb
  have h2 := frV_dist HO ht hb ha
  unfold sameM
  rw [h1.1, h1.2, h2.1, h2.2]
  unfold sameD nB nV
  by_cases f1 : distN N bs a b < 1125899906842624
  · by_cases f2 : distN N bs b a < 1125899906842624
    · rw [if_neg (show ¬ (1125899906842624 ≤ distN N bs b a) by omega), if_neg (show ¬ (1125899906842624 ≤ distN N bs a b) by omega)]
      rw [decide_eq_true f1, decide_eq_true f2]
      simp only [Bool.and_self, Bool.true_and]
      rw [Bool.eq_iff_iff, beq_iff_eq, beq_iff_eq]
      omega
    · simp [f2]
  · simp [f1]

end Go.Proofs.YthcmjhellpjllaaGreat
