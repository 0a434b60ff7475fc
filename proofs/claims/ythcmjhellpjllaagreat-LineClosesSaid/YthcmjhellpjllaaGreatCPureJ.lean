/- Plain Lean, no program: sizes in the reference's Matrix. Conditions: valid bounds, no negative closed walk. -/
import Derived.Test.YthcmjhellpjllaaGreatP2
namespace Go.Proofs.YthcmjhellpjllaaGreat

/-- Sums of a bounded size. -/
def FrBd (N : Nat) (B : Int) (d : List (List Fr)) : Prop := ∀ i j : Nat, i < N → j < N → -B ≤ (mget d i j).s ∧ (mget d i j).s ≤ B

theorem newM_bd {N : Nat} {B : Int} {d : List (List Fr)} (_hB : 0 ≤ B) (h : FrBd N B d) {c : Nat} (hc : c < N) {i j : Nat} (hi : i < N) (hj : j < N) : -(2 * B) ≤ (newM (mget d) c i j).s ∧ (newM (mget d) c i j).s ≤ 2 * B := by
  have h1 := h i j hi hj
  have h2 := h i c hi hc
  have h3 := h c j hc hj
  unfold newM
  split
  · rcases lesser_cases (mget d i j) (plusP (mget d i c) (mget d c j).s) with e | e
    · rw [e]; omega
    · rw [e]; unfold plusP; simp only; omega
  · omega

/-- What stands at one look of the three loops. -/
theorem piv_state {N : Nat} {d : List (List Fr)} (hd : Dim N d) {c : Nat} (hc : c < N) (hcc : mget d c c = ⟨0, true⟩) {a : Nat} (ha : a < N) {b : Nat} (hb : b ≤ N) :
    Dim N ((List.range b).foldl (cellM c a) ((List.range a).foldl (rowM N c) d)) ∧
    ∀ i j, i < N → j < N → mget ((List.range b).foldl (cellM c a) ((List.range a).foldl (rowM N c) d)) i j = if i < a ∨ (i = a ∧ j < b) then newM (mget d) c i j else mget d i j := by
  obtain ⟨h1, h2⟩ := piv_fold hc hcc hd (fun _ _ _ _ => rfl) a (by omega)
  exact row_fold hc ha hcc h1 h2 b hb

theorem piv_bd {N : Nat} {B : Int} {d : List (List Fr)} (hB : 0 ≤ B) (h : FrBd N B d) (hd : Dim N d) {c : Nat} (hc : c < N) (hcc : mget d c c = ⟨0, true⟩) : FrBd N (2 * B) (pivM N d c) := by
  intro i j hi hj
  obtain ⟨_, h2⟩ := piv_fold hc hcc hd (fun _ _ _ _ => rfl) N (Nat.le_refl _)
  have e : mget (pivM N d c) i j = newM (mget d) c i j := by
    have := h2 i j hi hj
    rw [if_pos hi] at this
    exact this
  rw [e]
  exact newM_bd hB h hc hi hj

def pow2 : Nat → Int
  | 0 => 1
  | k + 1 => 2 * pow2 k
theorem pow2_pos : ∀ k, 1 ≤ pow2 k
  | 0 => by simp [pow2]
  | k + 1 => by have := pow2_pos k; simp only [pow2]; omega
theorem pow2_le : ∀ k m, k ≤ m → pow2 k ≤ pow2 m
  | k, 0, h => by have : k = 0 := by omega
                  subst this; exact Int.le_refl _
  | k, m + 1, h => by
    by_cases e : k = m + 1
    · subst e; exact Int.le_refl _
    · have := pow2_le k m (by omega)
      have := pow2_pos m
      simp only [pow2]; omega
theorem pow2_40 : pow2 40 = 1099511627776 := by decide +kernel

theorem mat0_bd (N : Nat) : FrBd N 1000000 (mat0 N) := by
  intro i j hi hj
  rw [mat0_get hi hj]
  split <;> simp [fr0]
theorem mat1_bd {N : Nat} {d : List (List Fr)} (h : FrBd N 1000000 d) (hd : Dim N d) {x : Bd} (hx : x.valid N) : FrBd N 1000000 (mat1 d x) := by
  obtain ⟨v1, v2, v3, v4, v5, v6⟩ := hx
  intro i j hi hj
  unfold mat1
  rw [mget_mset hd (by omega) (by omega)]
  split
  · rcases lesser_cases (mget d x.src.toNat x.dst.toNat) ⟨x.most, true⟩ with e | e
    · rw [e]; exact h _ _ (by omega) (by omega)
    · rw [e]; exact ⟨v5, v6⟩
  · exact h i j hi hj
theorem mat1_dim {N : Nat} {d : List (List Fr)} (hd : Dim N d) (x : Bd) : Dim N (mat1 d x) := mset_dim hd _ _ _
theorem mat1_fold_bd {N : Nat} : ∀ (bs : List Bd) (d : List (List Fr)), AllValid N bs → Dim N d → FrBd N 1000000 d → Dim N (bs.foldl mat1 d) ∧ FrBd N 1000000 (bs.foldl mat1 d)
  | [], _d, _, h1, h2 => ⟨h1, h2⟩
  | x :: bs, d, hv, h1, h2 => mat1_fold_bd bs (mat1 d x) (fun y hy => hv y (List.mem_cons_of_mem _ hy)) (mat1_dim h1 x) (mat1_bd h2 h1 (hv x (List.mem_cons_self ..)))

/-- The matrix before pivot c. -/
def pivS (N : Nat) (bs : List Bd) (c : Nat) : List (List Fr) := (List.range c).foldl (pivM N) (bs.foldl mat1 (mat0 N))
theorem pivS_succ (N : Nat) (bs : List Bd) (c : Nat) : pivS N bs (c + 1) = pivM N (pivS N bs c) c := by unfold pivS; rw [List.range_succ, List.foldl_append]; rfl
theorem pivS_ok {N : Nat} {bs : List Bd} (hv : AllValid N bs) (hn : NoNeg bs) {c : Nat} (hc : c ≤ N) : Dim N (pivS N bs c) ∧ (∀ a, a < N → mget (pivS N bs c) a a = ⟨0, true⟩) := by
  have h := mInv_all hv hn c hc
  exact ⟨h.dim, h.diag⟩
theorem pivS_bd {N : Nat} {bs : List Bd} (hv : AllValid N bs) (hn : NoNeg bs) : ∀ c, c ≤ N → FrBd N (pow2 c * 1000000) (pivS N bs c)
  | 0, _ => by
    have := (mat1_fold_bd bs (mat0 N) hv (mat0_dim N) (mat0_bd N)).2
    simpa [pivS, pow2] using this
  | c + 1, hc => by
    rw [pivS_succ]
    obtain ⟨h1, h2⟩ := pivS_ok hv hn (c := c) (by omega)
    have := piv_bd (B := pow2 c * 1000000) (by have := pow2_pos c; omega) (pivS_bd hv hn c (by omega)) h1 (by omega) (h2 c (by omega))
    have e : pow2 (c + 1) * 1000000 = 2 * (pow2 c * 1000000) := by simp only [pow2]; omega
    rw [e]; exact this

/-- What is read at one look: three numbers of a bounded size. -/
theorem piv_read {N : Nat} {bs : List Bd} (hv : AllValid N bs) (hn : NoNeg bs) (hN : N ≤ 40) {c a b : Nat} (hc : c < N) (ha : a < N) (hb : b < N) {d : List (List Fr)} (e : (List.range b).foldl (cellM c a) ((List.range a).foldl (rowM N c) (pivS N bs c)) = d) :
    Dim N d ∧ ∀ i j, i < N → j < N → -3000000000000000000 ≤ (mget d i j).s ∧ (mget d i j).s ≤ 3000000000000000000 := by
  obtain ⟨h1, h2⟩ := pivS_ok hv hn (c := c) (by omega)
  obtain ⟨g1, g2⟩ := piv_state h1 hc (h2 c hc) ha (b := b) (by omega)
  have hbd := pivS_bd hv hn c (by omega)
  have hp := pow2_le c 40 (by omega)
  rw [pow2_40] at hp
  have hp0 := pow2_pos c
  rw [e] at g1 g2
  refine ⟨g1, fun i j hi hj => ?_⟩
  rw [g2 i j hi hj]
  split
  · have := newM_bd (B := pow2 c * 1000000) (by omega) hbd hc hi hj
    omega
  · have := hbd i j hi hj
    omega

/-- A row of sums, as it lies. -/
def setR (r : List Fr) (j : Nat) (x : Fr) : List Fr := r.set j x
theorem mget_row (d : List (List Fr)) (i j : Nat) : mget d i j = (d.getD i []).getD j fr0 := rfl
theorem mset_row {N : Nat} {d : List (List Fr)} (hd : Dim N d) {i j : Nat} (hi : i < N) (x : Fr) (k : Nat) : (mset d i j x).getD k [] = if k = i then (d.getD i []).set j x else d.getD k [] := by
  unfold mset
  simp only [List.getD_eq_getElem?_getD, List.getElem?_set]
  have hl : i < d.length := by rw [hd.1]; exact hi
  by_cases e : i = k
  · subst e; simp [hl]
  · simp [e, Ne.symm e]

end Go.Proofs.YthcmjhellpjllaaGreat
