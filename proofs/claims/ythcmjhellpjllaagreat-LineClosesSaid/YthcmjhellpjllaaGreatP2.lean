/- Merged text P2 of the chapter line: PureG, PureH, PureI, PlF, PlG, PlI, PlJ, PlK, PlL, PlM, PlN, PlO, PlP, PlQ, PlR, PlT. No conditions beyond those stated. -/
import Derived.Test.YthcmjhellpjllaaGreatP1

/- Plain Lean, no program: the mirrors of Distance and Path; what an asked net gives. No conditions beyond those stated. -/
namespace Go.Proofs.YthcmjhellpjllaaGreat

/-- The test that passes all. -/
def allT : Nat → Bool := fun _ => true
theorem passes_all (n : Nat) : passes allT n = List.range n := by simp [passes, allT]
theorem selB_all (bs : List Bd) : selB bs (passes allT bs.length) = bs := by
  rw [passes_all]
  apply List.ext_getElem?
  intro i
  simp only [selB, List.getElem?_map]
  by_cases h : i < bs.length
  · rw [List.getElem?_range h, List.getElem?_eq_getElem h]
    simp [List.getD_eq_getElem?_getD, h]
  · rw [List.getElem?_eq_none (by simpa using h), List.getElem?_eq_none (by omega)]; rfl

/-- What a net that was asked for is. -/
structure NetOk (N : Nat) (bs : List Bd) (h : List Int) : Prop where
  n0 : 1 ≤ N
  n1 : N ≤ 128
  len : bs.length ≤ 2002
  valid : AllValid N bs
  hl : h.length = 128
  low : LowBy 520000 h
  pot : Pot h bs

theorem netOk_of_opened {N : Nat} {bs : List Bd} {h : List Int} (h0 : 1 ≤ N) (h1 : N ≤ 128) (hl : bs.length ≤ 2002) (hv : AllValid N bs) (e : openedP N bs = some h) : NetOk N bs h := by
  refine ⟨h0, h1, hl, hv, openedP_length e, (openedP_low hv e).mono ?_, openedP_pot e⟩
  have : ((N : Int) + 1).toNat = N + 1 := by omega
  rw [this]
  have := Nat.mul_le_mul (show N + 1 ≤ 129 by omega) hl
  omega

theorem netOk_of_asked {N : Nat} {bs : List Bd} {l : List Int} {h : List Int} (ha : askedE N bs l = 0) (e : openedP N bs = some h) : NetOk N bs h := by
  obtain ⟨hc, _, _⟩ := askedE_zero ha
  obtain ⟨n0, n1, n2, nv⟩ := checkP_zero hc
  exact netOk_of_opened (by omega) (by omega) (by omega) (fun b hb => (nv b hb).1) e

theorem NetOk.row {N : Nat} {bs : List Bd} {h : List Int} (H : NetOk N bs h) {a : Nat} (ha : a < N) : DistRow N bs a (distP N h bs a) := distP_row H.n1 ha H.valid H.pot H.low
theorem NetOk.noNeg {N : Nat} {bs : List Bd} {h : List Int} (H : NetOk N bs h) : NoNeg bs := noNeg_of_pot H.pot

theorem NetOk.row_bd {N : Nat} {bs : List Bd} {h : List Int} (H : NetOk N bs h) {a v : Nat} (ha : a < N) (hv : v < N) : -128000000 ≤ (distP N h bs a).getD v 0 ∧ (distP N h bs a).getD v 0 ≤ 1125899906842624 := by
  have hn := H.n1
  rcases (H.row ha).2 v hv with ⟨h1, h2⟩ | ⟨h1, _⟩
  · have := isDist_bd H.valid H.noNeg (by omega) (by omega) h2
    omega
  · rw [h1]; unfold farI; omega

theorem idxOf_first {α : Type} {p : α → Bool} {d : α} : ∀ (l : List α) (k : Nat), k < l.length → p (l.getD k d) = true → ∃ m : Nat, idxOf p l = m ∧ m ≤ k ∧ p (l.getD m d) = true
  | [], k, hk, _ => by simp at hk
  | x :: l, 0, _, h => ⟨0, by simp at h; simp [idxOf, h], Nat.le_refl _, h⟩
  | x :: l, k + 1, hk, h => by
    by_cases hx : p x = true
    · exact ⟨0, by simp [idxOf, hx], by omega, by simpa using hx⟩
    · obtain ⟨m, h1, h2, h3⟩ := idxOf_first l k (by simpa using hk) (by simpa using h)
      refine ⟨m + 1, ?_, by omega, by simpa using h3⟩
      rw [idxOf, if_neg hx, h1, if_neg (by omega)]
      omega

/-- A distance is the least sum of walks of some number of bounds. -/
theorem dist_in_rows {N : Nat} {bs : List Bd} {h : List Int} (H : NetOk N bs h) {a b : Nat} (ha : a < N) (hb : b < N) {d : Int} (hd : IsDist bs a b d) :
    ∃ m : Nat, idxOf (fun r : List Int => r.getD a 0 == d) (walksP bs b N) = m ∧ m ≤ N ∧ (walkRow bs b m).getD a 0 = d := by
  obtain ⟨⟨p, p1, p2, p3⟩, hlow⟩ := hd
  obtain ⟨q, q1, q2, q3, q4⟩ := walk_short H.valid H.noNeg p.length (Nat.le_refl _) (by omega) (by omega) p1 p2
  have hn := H.n1
  have hk := walkRow_k H.n1 hb H.valid q.length (by omega)
  have hget : ∀ k, k ≤ N → (walksP bs b N).getD k [] = walkRow bs b k := fun k hk => walksP_get bs b N hk
  have hrow : (walkRow bs b q.length).getD a 0 = d := by
    rcases hk a ha with ⟨_, ⟨r, r1, r2, r3, r4⟩, h3⟩ | ⟨_, h2⟩
    · have := h3 q q1 q2 rfl
      have := hlow r r1 r2
      omega
    · exact absurd rfl (h2 q q1 q2)
  obtain ⟨m, h1, h2, h3⟩ := idxOf_first (p := fun r : List Int => r.getD a 0 == d) (d := []) (walksP bs b N) q.length (by rw [walksP_length]; omega) (by
    rw [hget _ (by omega)]; simpa using hrow)
  rw [hget m (by omega)] at h3
  exact ⟨m, h1, by omega, by simpa using h3⟩

/-- Whether a sum can still become a distance. -/
def gdRows (rows : List (List Int)) (d left at_ sum : Int) : Bool := decide (getI (rows.getD left.toNat []) at_ < 1125899906842624) && (sum + getI (rows.getD left.toNat []) at_ == d)

/-- The mirror of Distance: the error, the number, whether there is a path. -/
def heightsP (N : Int) (bs : List Bd) : List Int := (openedP N bs).getD []
def distN (N : Nat) (bs : List Bd) (a b : Nat) : Int := (distP N (heightsP N bs) bs a).getD b 0

def nV (v : Int) : Int := if 1125899906842624 ≤ v then 0 else v
def nB (v : Int) : Bool := decide (v < 1125899906842624)
/-- Distance: the number, whether there is a path, the error. -/
def distanceP (N : Int) (bs : List Bd) (a b : Int) : Int × Bool × Int :=
  if askedE N bs [a, b] = 0 then (nV (distN N.toNat bs a.toNat b.toNat), nB (distN N.toNat bs a.toNat b.toNat), 0) else (0, false, askedE N bs [a, b])

/-- What stands behind two points that were asked for. -/
theorem asked2 {N : Int} {bs : List Bd} {a b : Int} (h : askedE N bs [a, b] = 0) : ∃ (R x y : Nat) (t : List Int), N = R ∧ a = x ∧ b = y ∧ x < R ∧ y < R ∧ openedP N bs = some t ∧ NetOk R bs t := by
  obtain ⟨hc, hp, t, ht⟩ := askedE_zero h
  obtain ⟨n0, n1, n2, nv⟩ := checkP_zero hc
  have hpz := pointP_zero hp
  have ha := hpz a (by simp)
  have hb := hpz b (by simp)
  obtain ⟨R, rfl⟩ := Int.eq_ofNat_of_zero_le (show 0 ≤ N by omega)
  obtain ⟨x, rfl⟩ := Int.eq_ofNat_of_zero_le ha.1
  obtain ⟨y, rfl⟩ := Int.eq_ofNat_of_zero_le hb.1
  exact ⟨R, x, y, t, rfl, rfl, rfl, by omega, by omega, ht, netOk_of_asked h ht⟩
theorem asked1 {N : Int} {bs : List Bd} {a : Int} (h : askedE N bs [a] = 0) : ∃ (R x : Nat) (t : List Int), N = R ∧ a = x ∧ x < R ∧ openedP N bs = some t ∧ NetOk R bs t := by
  obtain ⟨hc, hp, t, ht⟩ := askedE_zero h
  obtain ⟨n0, n1, n2, nv⟩ := checkP_zero hc
  have hpz := pointP_zero hp
  have ha := hpz a (by simp)
  obtain ⟨R, rfl⟩ := Int.eq_ofNat_of_zero_le (show 0 ≤ N by omega)
  obtain ⟨x, rfl⟩ := Int.eq_ofNat_of_zero_le ha.1
  exact ⟨R, x, t, rfl, rfl, by omega, ht, netOk_of_asked h ht⟩
theorem asked0 {N : Int} {bs : List Bd} (h : askedE N bs [] = 0) : ∃ (R : Nat) (t : List Int), N = R ∧ openedP N bs = some t ∧ NetOk R bs t := by
  obtain ⟨hc, hp, t, ht⟩ := askedE_zero h
  obtain ⟨n0, n1, n2, nv⟩ := checkP_zero hc
  obtain ⟨R, rfl⟩ := Int.eq_ofNat_of_zero_le (show 0 ≤ N by omega)
  exact ⟨R, t, rfl, ht, netOk_of_asked h ht⟩
theorem heightsP_of {N : Int} {bs : List Bd} {t : List Int} (h : openedP N bs = some t) : heightsP N bs = t := by unfold heightsP; rw [h]; rfl
theorem askedE_bd (N : Int) (bs : List Bd) (l : List Int) : 0 ≤ askedE N bs l ∧ askedE N bs l ≤ 10 := by
  have h1 := checkP_bd N bs
  have h2 := pointP_bd N l
  unfold askedE
  split
  · omega
  · split
    · omega
    · split <;> omega

def pathP (N : Nat) (bs : List Bd) (a b : Nat) : List Int :=
  followedP bs (passes allT bs.length) (gdRows (walksP bs b N) (distN N bs a b)) a (idxOf (fun r : List Int => r.getD a 0 == distN N bs a b) (walksP bs b N)).toNat

/-- Path: the list and the error. -/
def pathE (N : Int) (bs : List Bd) (a b : Int) : List Int × Int :=
  if askedE N bs [a, b] = 0 then (if 1125899906842624 ≤ distN N.toNat bs a.toNat b.toNat then ([], 5) else (pathP N.toNat bs a.toNat b.toNat, 0)) else ([], askedE N bs [a, b])

/-- A range. -/
structure Sp where
  low : Int
  high : Int
  lowest : Bool
  highest : Bool
def sp0 : Sp := ⟨0, 0, false, false⟩
def spP (d e : Int) : Sp := ⟨-nV e, nV d, nB e, nB d⟩
/-- Between: the range and the error. -/
def betweenP (N : Int) (bs : List Bd) (a b : Int) : Sp × Int :=
  if askedE N bs [a, b] = 0 then (spP (distN N.toNat bs a.toNat b.toNat) (distN N.toNat bs b.toNat a.toNat), 0) else (sp0, askedE N bs [a, b])

/-- The table of all distances. -/
def tableP (N : Nat) (t : List Int) (bs : List Bd) : List (List Int) := (List.range N).map fun (a : Nat) => distP N t bs (a : Int)
theorem tableP_get (N : Nat) (t : List Int) (bs : List Bd) {a : Nat} (h : a < N) : (tableP N t bs).getD a [] = distP N t bs a := by
  simp [tableP, List.getD_eq_getElem?_getD, h]
theorem tableP_length (N : Nat) (t : List Int) (bs : List Bd) : (tableP N t bs).length = N := by simp [tableP]
def tget (T : List (List Int)) (a b : Nat) : Int := (T.getD a []).getD b 0

/-- One look at another point that has a value: the greatest lower and the least upper number so far. -/
def someIn (T : List (List Int)) (out : List Int) (given : List Bool) (p : Nat) (s : Int × Int) (q : Nat) : Int × Int :=
  if given.getD q false = true then
    (if tget T p q < farI then max s.1 (out.getD q 0 - tget T p q) else s.1, if tget T q p < farI then min s.2 (out.getD q 0 + tget T q p) else s.2)
  else s
def someAt (N : Nat) (T : List (List Int)) (st : List Int × List Bool) (p : Nat) : List Int × List Bool :=
  if st.2.getD p false = true then st
  else (st.1.set p (min ((List.range N).foldl (someIn T st.1 st.2 p) (0, farI)).1 ((List.range N).foldl (someIn T st.1 st.2 p) (0, farI)).2), st.2.set p true)
def someStart (N : Nat) (T : List (List Int)) : List Int × List Bool := ((List.range N).map fun p => nV (tget T 0 p), (List.range N).map fun p => nB (tget T 0 p))
def someP (N : Nat) (T : List (List Int)) : List Int := ((List.range N).foldl (someAt N T) (someStart N T)).1

/-- Numbers of a bounded size. -/
def Within (c : Int) (l : List Int) : Prop := ∀ i : Nat, -c ≤ l.getD i 0 ∧ l.getD i 0 ≤ c
def TabBd (N : Nat) (T : List (List Int)) : Prop := ∀ a b : Nat, a < N → b < N → -128000000 ≤ tget T a b ∧ tget T a b ≤ 1125899906842624 ∧ (tget T a b < 1125899906842624 → tget T a b ≤ 128000000)

theorem tabBd_of {N : Nat} {bs : List Bd} {h : List Int} (H : NetOk N bs h) : TabBd N (tableP N h bs) := by
  intro a b ha hb
  have e : tget (tableP N h bs) a b = (distP N h bs a).getD b 0 := by unfold tget; rw [tableP_get N h bs ha]
  rw [e]
  have h1 := H.row_bd ha hb
  refine ⟨h1.1, h1.2, fun h2 => ?_⟩
  have hn := H.n1
  rcases (H.row ha).2 b hb with ⟨_, q⟩ | ⟨q, _⟩
  · have := isDist_bd H.valid H.noNeg (by omega) (by omega) q
    omega
  · rw [q] at h2; unfold farI at h2; omega

theorem someIn_bd {N : Nat} {T : List (List Int)} {out : List Int} {given : List Bool} {c : Int} (hc : 0 ≤ c) (hT : TabBd N T) (ho : Within c out) {p : Nat} (hp : p < N) : ∀ k, k ≤ N →
    (0 ≤ ((List.range k).foldl (someIn T out given p) (0, farI)).1 ∧ ((List.range k).foldl (someIn T out given p) (0, farI)).1 ≤ c + 128000000) ∧
    (-(c + 128000000) ≤ ((List.range k).foldl (someIn T out given p) (0, farI)).2 ∧ ((List.range k).foldl (someIn T out given p) (0, farI)).2 ≤ 1125899906842624)
  | 0, _ => by simp [farI]; omega
  | k + 1, hk => by
    have ih := someIn_bd hc hT ho hp (given := given) k (by omega)
    rw [List.range_succ, List.foldl_append]
    simp only [List.foldl_cons, List.foldl_nil]
    obtain ⟨s, hs⟩ : ∃ s, (List.range k).foldl (someIn T out given p) (0, farI) = s := ⟨_, rfl⟩
    rw [hs] at ih ⊢
    have h1 := hT p k hp (by omega)
    have h2 := hT k p (by omega) hp
    have h3 := ho k
    unfold someIn farI
    split
    · refine ⟨?_, ?_⟩
      · dsimp only
        split
        · have := h1.2.2 (by assumption); omega
        · omega
      · dsimp only
        split
        · have := h2.2.2 (by assumption); omega
        · omega
    · exact ih

theorem within_set {c d : Int} {l : List Int} (h : Within c l) (hcd : c ≤ d) {v : Int} (h1 : -d ≤ v) (h2 : v ≤ d) (p : Nat) : Within d (l.set p v) := by
  intro i
  rw [getD_set]
  split
  · exact ⟨h1, h2⟩
  · have := h i; omega

theorem someAt_bd {N : Nat} {T : List (List Int)} {st : List Int × List Bool} {c : Int} (hc : 0 ≤ c) (hT : TabBd N T) (ho : Within c st.1) {p : Nat} (hp : p < N) : Within (c + 128000000) (someAt N T st p).1 := by
  unfold someAt
  split
  · intro i; have := ho i; omega
  · have := someIn_bd (given := st.2) hc hT ho hp N (Nat.le_refl _)
    refine within_set ho (by omega) ?_ ?_ p <;> omega

theorem someStart_bd {N : Nat} {T : List (List Int)} (hT : TabBd N T) (h0 : 0 < N) : Within 128000000 (someStart N T).1 := by
  intro i
  by_cases hi : i < N
  · have e : (someStart N T).1.getD i 0 = nV (tget T 0 i) := by simp [someStart, List.getD_eq_getElem?_getD, hi]
    rw [e]
    have h := hT 0 i h0 hi
    unfold nV
    split <;> omega
  · have e : (someStart N T).1.getD i 0 = 0 := by
      rw [List.getD_eq_getElem?_getD, List.getElem?_eq_none (by simp [someStart]; omega)]; rfl
    rw [e]; omega

theorem someFold_bd {N : Nat} {T : List (List Int)} (hT : TabBd N T) (h0 : 0 < N) : ∀ k, k ≤ N → Within (128000000 * (k + 1)) ((List.range k).foldl (someAt N T) (someStart N T)).1
  | 0, _ => by simpa using someStart_bd hT h0
  | k + 1, hk => by
    rw [List.range_succ, List.foldl_append]
    have := someAt_bd (p := k) (by omega) hT (someFold_bd hT h0 k (by omega)) (by omega)
    intro i
    have := this i
    simp only [List.foldl_cons, List.foldl_nil]
    omega

theorem someAt_len (N : Nat) (T : List (List Int)) (st : List Int × List Bool) (p : Nat) : (someAt N T st p).1.length = st.1.length ∧ (someAt N T st p).2.length = st.2.length := by
  unfold someAt; split <;> simp
theorem someFold_len (N : Nat) (T : List (List Int)) : ∀ k, ((List.range k).foldl (someAt N T) (someStart N T)).1.length = N ∧ ((List.range k).foldl (someAt N T) (someStart N T)).2.length = N
  | 0 => by simp [someStart]
  | k + 1 => by
    rw [List.range_succ, List.foldl_append]
    simp only [List.foldl_cons, List.foldl_nil]
    have h1 := someAt_len N T ((List.range k).foldl (someAt N T) (someStart N T)) k
    have h2 := someFold_len N T k
    omega

theorem fill_map {α : Type} (f : Nat → α) (z : α) {N k : Nat} (hk : k < N) : ((List.range k).map f ++ List.replicate (N - k) z).set k (f k) = (List.range (k + 1)).map f ++ List.replicate (N - (k + 1)) z := by
  apply List.ext_getElem?
  intro i
  have hr : ∀ m, (List.range m)[i]? = if i < m then some i else none := by
    intro m
    split
    · rw [List.getElem?_range ‹_›]
    · rw [List.getElem?_eq_none (by simp; omega)]
  rw [List.getElem?_set]
  simp only [List.length_append, List.length_map, List.length_range, List.length_replicate, List.getElem?_append, List.getElem?_map, List.getElem?_replicate, hr]
  by_cases e : k = i
  · subst e
    rw [if_pos rfl, if_pos (by omega), if_pos (by omega), if_pos (by omega)]; rfl
  · rw [if_neg e]
    by_cases h1 : i < k
    · simp only [h1, show i < k + 1 by omega, if_true]
    · have h2 : ¬ i < k + 1 := by omega
      simp only [h1, h2, if_false]
      by_cases h3 : i < N
      · rw [if_pos (by omega), if_pos (by omega)]
      · rw [if_neg (by omega), if_neg (by omega)]

end Go.Proofs.YthcmjhellpjllaaGreat

/- Plain Lean, no program: the mirror of Needless. No conditions. -/
namespace Go.Proofs.YthcmjhellpjllaaGreat

def needT (gone : List Bool) (i k : Nat) : Bool := (k != i) && !(gone.getD k false)
def needYes (N : Nat) (h : List Int) (bs : List Bd) (gone : List Bool) (i : Nat) : Bool :=
  decide ((distP N h (selB bs (passes (needT gone i) bs.length)) (bs.getD i bd0).src).getD (bs.getD i bd0).dst.toNat 0 ≤ (bs.getD i bd0).most)
def needGo (N : Nat) (h : List Int) (bs : List Bd) : Nat → List Bool → List Int → List Int
  | 0, _, out => out
  | i + 1, gone, out => if needYes N h bs gone i = true then needGo N h bs i (gone.set i true) (out ++ [(i : Int)]) else needGo N h bs i gone out
def needlessP (N : Nat) (h : List Int) (bs : List Bd) : List Int := (needGo N h bs bs.length (List.replicate bs.length false) []).reverse
def needlessE (N : Int) (bs : List Bd) : List Int × Int := if askedE N bs [] = 0 then (needlessP N.toNat (heightsP N bs) bs, 0) else ([], askedE N bs [])

theorem needGo_len (N : Nat) (h : List Int) (bs : List Bd) : ∀ n gone out, (needGo N h bs n gone out).length ≤ out.length + n
  | 0, _, out => Nat.le_refl _
  | n + 1, gone, out => by
    simp only [needGo]
    split
    · have := needGo_len N h bs n (gone.set n true) (out ++ [(n : Int)])
      simp at this; omega
    · have := needGo_len N h bs n gone out
      omega

end Go.Proofs.YthcmjhellpjllaaGreat

/- Plain Lean, no program: the mirror of Circle. No conditions. -/
namespace Go.Proofs.YthcmjhellpjllaaGreat

/-- The number of bounds of the first negative row at a point; negative if there is none. -/
def circK (bs : List Bd) (R many a : Nat) : Int := idxOf (fun r : List Int => decide (r.getD a 0 < 0)) (walksP bs a (min many R))
def circA (bs : List Bd) (R : Nat) (st : Nat × List Bool) (a : Nat) : Nat × List Bool :=
  if circK bs R st.1 a < 0 then st
  else if (circK bs R st.1 a).toNat < st.1 then ((circK bs R st.1 a).toNat, (List.replicate R false).set a true) else (st.1, st.2.set a true)
def circS (bs : List Bd) (R k : Nat) : Nat × List Bool := (List.range k).foldl (circA bs R) (R + 1, List.replicate R false)

/-- The bounds behind i. -/
def laterT (i k : Nat) : Bool := decide (i < k)
def circRows (bs : List Bd) (many i : Nat) : List (List Int) := walksP (selB bs (passes (laterT i) bs.length)) (bs.getD i bd0).src.toNat (many - 1)
def circV (bs : List Bd) (many i : Nat) : Int := ((circRows bs many i).getD (many - 1) []).getD (bs.getD i bd0).dst.toNat 0
def circHit (bs : List Bd) (st : Nat × List Bool) (i : Nat) : Bool :=
  st.2.getD (bs.getD i bd0).src.toNat false && st.2.getD (bs.getD i bd0).dst.toNat false && (decide (circV bs st.1 i < 1125899906842624) && decide ((bs.getD i bd0).most + circV bs st.1 i < 0))
def gdCirc (rows : List (List Int)) (m left at_ sum : Int) : Bool :=
  decide (getI (rows.getD left.toNat []) at_ < 1125899906842624) && decide (m + sum + getI (rows.getD left.toNat []) at_ < 0)
def circRest (bs : List Bd) (many i : Nat) : List Int :=
  followedP bs (passes (laterT i) bs.length) (gdCirc (circRows bs many i) (bs.getD i bd0).most) (bs.getD i bd0).dst (many - 1)
def circleGo (bs : List Bd) (R : Nat) : Option (List Int) :=
  match (List.range bs.length).find? (circHit bs (circS bs R R)) with
  | none => none
  | some i => some ((i : Int) :: circRest bs (circS bs R R).1 i)
/-- Circle: the list, whether there is one, the error. -/
def circleP (N : Int) (bs : List Bd) : List Int × Bool × Int :=
  if checkP N bs ≠ 0 then ([], false, checkP N bs)
  else if (openedP N bs).isSome = true then ([], false, 0)
  else match circleGo bs N.toNat with | none => ([], false, 0) | some l => (l, true, 0)

theorem circS_succ (bs : List Bd) (R k : Nat) : circS bs R (k + 1) = circA bs R (circS bs R k) k := by
  unfold circS; rw [List.range_succ, List.foldl_append]; rfl

theorem idxOf_lt {α : Type} {p : α → Bool} : ∀ (l : List α), idxOf p l < l.length
  | [] => by simp [idxOf]
  | x :: l => by
    have := idxOf_lt (p := p) l
    simp only [idxOf, List.length_cons]
    split
    · omega
    · split <;> omega

theorem idxOf_hit {α : Type} {p : α → Bool} {d : α} : ∀ (l : List α), 0 ≤ idxOf p l → p (l.getD (idxOf p l).toNat d) = true
  | [], h => by simp [idxOf] at h
  | x :: l, h => by
    simp only [idxOf] at h ⊢
    by_cases hx : p x = true
    · simp [hx]
    · rw [if_neg hx] at h ⊢
      by_cases h2 : idxOf p l < 0
      · rw [if_pos h2] at h; omega
      · rw [if_neg h2]
        rw [if_neg h2] at h
        have h3 : 0 ≤ idxOf p l := by omega
        have := idxOf_hit (d := d) l h3
        rw [show (idxOf p l + 1).toNat = (idxOf p l).toNat + 1 by omega]
        simpa using this

theorem circK_bd (bs : List Bd) (R many a : Nat) : circK bs R many a ≤ min many R := by
  have := idxOf_lt (p := fun r : List Int => decide (r.getD a 0 < 0)) (walksP bs a (min many R))
  rw [walksP_length] at this
  unfold circK; omega
theorem circK_pos {bs : List Bd} {R many a : Nat} (ha : a < 128) (h : 0 ≤ circK bs R many a) : 1 ≤ circK bs R many a := by
  have h1 := idxOf_hit (d := []) (p := fun r : List Int => decide (r.getD a 0 < 0)) (walksP bs a (min many R)) h
  have h2 : idxOf (fun r : List Int => decide (r.getD a 0 < 0)) (walksP bs a (min many R)) = circK bs R many a := rfl
  rw [h2] at h1
  by_cases e : circK bs R many a = 0
  · rw [e] at h1
    rw [show (0 : Int).toNat = 0 from rfl, walksP_get _ _ _ (Nat.zero_le _)] at h1
    have h3 := of_decide_eq_true h1
    unfold walkRow at h3
    rw [getD_set, if_pos ⟨rfl, by simpa using ha⟩] at h3
    omega
  · omega

/-- What stands between two points looked at. -/
theorem circS_bd (bs : List Bd) (R : Nat) : ∀ k, k ≤ R → R ≤ 128 → 1 ≤ (circS bs R k).1 ∧ (circS bs R k).1 ≤ R + 1 ∧ (circS bs R k).2.length = R
  | 0, _, _ => by simp [circS]
  | k + 1, hk, hR => by
    obtain ⟨h1, h2, h3⟩ := circS_bd bs R k (by omega) hR
    rw [circS_succ]
    unfold circA
    split
    · exact ⟨h1, h2, h3⟩
    · rename_i hn
      have := circK_pos (bs := bs) (R := R) (many := (circS bs R k).1) (a := k) (by omega) (by omega)
      split
      · exact ⟨by simp only; omega, by simp only; omega, by simp⟩
      · exact ⟨h1, h2, by simp [h3]⟩

theorem find_range_none {p : Nat → Bool} {n : Nat} (h : ∀ i, i < n → p i = false) : (List.range n).find? p = none :=
  List.find?_eq_none.2 fun i hi => by rw [h i (List.mem_range.1 hi)]; simp
theorem find_range_some {p : Nat → Bool} {n i : Nat} (hi : i < n) (h : ∀ k, k < i → p k = false) (hp : p i = true) : (List.range n).find? p = some i := by
  induction n with
  | zero => omega
  | succ n ih =>
    rw [List.range_succ, List.find?_append]
    by_cases e : i = n
    · subst e
      rw [find_range_none h]; simp [hp]
    · rw [ih (by omega)]; rfl

end Go.Proofs.YthcmjhellpjllaaGreat

/- Plain law: with a bound back, from b to a, of less the distance from a to b, a system can be kept; with one of one less it cannot. No conditions beyond those stated. -/
namespace Go.Proofs.YthcmjhellpjllaaGreat

/-- Heights through the distances from a point: what it does not reach lies far above. -/
def upTo (N : Nat) (t r : List Int) : List Int := (List.range N).map fun v => min (r.getD v 0) (600000000000 + t.getD v 0)
theorem upTo_get {N : Nat} {t r : List Int} {v : Nat} (hv : v < N) : (upTo N t r).getD v 0 = min (r.getD v 0) (600000000000 + t.getD v 0) := by
  simp [upTo, List.getD_eq_getElem?_getD, hv]

theorem ends_pot {N : Nat} {bs : List Bd} {t : List Int} (H : NetOk N bs t) {a b : Nat} (ha : a < N) (hb : b < N) {d : Int} (hd : IsDist bs a b d) (rc : Int) :
    Pot (upTo N t (distP N t bs a)) (bs ++ [⟨b, a, -d, rc⟩]) := by
  have hrow := (H.row ha).2
  obtain ⟨r, hr⟩ : ∃ r, distP N t bs a = r := ⟨_, rfl⟩
  have hbd := fun v (hv : v < N) => H.row_bd (a := a) ha hv
  rw [hr] at hrow hbd ⊢
  have hlow := H.low
  have hN := H.n1
  intro x hx
  rcases List.mem_append.1 hx with hx | hx
  · obtain ⟨v1, v2, v3, v4, v5, v6⟩ := H.valid x hx
    have hp := H.pot x hx
    obtain ⟨xs, xd, xm, xr⟩ := x
    simp only at v1 v2 v3 v4 v5 v6 hp ⊢
    obtain ⟨si, rfl⟩ := Int.eq_ofNat_of_zero_le v1
    obtain ⟨di, rfl⟩ := Int.eq_ofNat_of_zero_le v3
    have hs : si < N := by omega
    have hdi : di < N := by omega
    rw [← getD_eq_getI, ← getD_eq_getI] at hp ⊢
    rw [upTo_get hs, upTo_get hdi]
    have key : r.getD di 0 ≤ r.getD si 0 + xm ∨ r.getD si 0 = farI := by
      rcases hrow si hs with ⟨h1, ⟨p, p1, p2, p3⟩, h3⟩ | ⟨h1, _⟩
      · left
        have hw : Walk a di (p ++ [⟨si, di, xm, xr⟩]) := p1.trans ⟨rfl, rfl⟩
        have ho : Over bs (p ++ [⟨si, di, xm, xr⟩]) := p2.append (Over.one hx)
        rcases hrow di hdi with ⟨k1, _, k3⟩ | ⟨_, k2⟩
        · have := k3 _ hw ho
          rw [wsum_append] at this
          simp only [wsum] at this
          omega
        · exact absurd ho (k2 _ hw)
      · exact .inr h1
    have l1 := hlow si
    have l2 := hlow di
    have b1 := hbd di hdi
    unfold farI at key
    omega
  · simp only [List.mem_singleton] at hx
    subst hx
    simp only
    rw [← getD_eq_getI, ← getD_eq_getI, upTo_get ha, upTo_get hb]
    have hbb : r.getD b 0 = d := by
      rcases hrow b hb with ⟨_, h2⟩ | ⟨_, h2⟩
      · exact h2.unique hd
      · exact (hd.not_none h2).elim
    have haa : r.getD a 0 ≤ 0 := by
      rcases hrow a ha with ⟨_, _, h3⟩ | ⟨_, h2⟩
      · exact h3 [] rfl Over.nil
      · exact absurd Over.nil (h2 [] rfl)
    have l1 := hlow a
    have l2 := hlow b
    have hdb := isDist_bd H.valid H.noNeg (by omega) (by omega) hd
    rw [hbb]
    omega

theorem Walk.one (x : Bd) : Walk x.src x.dst [x] := ⟨rfl, rfl⟩
theorem Over.cons {bs q : List Bd} {x : Bd} (h : x ∈ bs) (o : Over bs q) : Over bs (x :: q) := fun y hy => (List.mem_cons.1 hy).elim (fun e => e ▸ h) (o y)
theorem Walk.snoc {a b : Int} {p : List Bd} (h : Walk a b p) (x : Bd) (e : x.src = b) : Walk a x.dst (p ++ [x]) := h.trans ⟨e, rfl⟩
theorem Walk.more {a b c : Int} {p q : List Bd} (h : Walk a b p) (x : Bd) (e : x.src = b) (k : Walk x.dst c q) : Walk a c (p ++ x :: q) := h.trans ⟨e, k⟩

theorem ends_neg {bs : List Bd} {a b d rc : Int} (hd : IsDist bs a b d) : ¬ NoNeg (bs ++ [⟨b, a, -d - 1, rc⟩]) := by
  intro hn
  obtain ⟨⟨p, p1, p2, p3⟩, _⟩ := hd
  have := hn a (p ++ [⟨b, a, -d - 1, rc⟩]) (p1.trans (Walk.one ⟨b, a, -d - 1, rc⟩)) ((p2.mono (fun x hx => List.mem_append_left _ hx)).append (Over.one (List.mem_append_right _ (List.mem_singleton.2 rfl))))
  rw [wsum_append] at this
  simp only [wsum] at this
  omega

theorem valid_snoc {N : Nat} {bs : List Bd} {x : Bd} (hv : AllValid N bs) (hx : x.valid N) : AllValid N (bs ++ [x]) := by
  intro y hy
  rcases List.mem_append.1 hy with h | h
  · exact hv y h
  · rw [List.mem_singleton.1 h]; exact hx

theorem checkP_snoc {N : Int} {bs : List Bd} {x : Bd} (h : checkP N bs = 0) (hl : bs.length < 2000) (hx : badB N x = false) : checkP N (bs ++ [x]) = 0 := by
  unfold checkP at h ⊢
  split at h
  · simp at h
  · rename_i h1
    rw [if_neg (by simp; omega)]
    unfold checkedP at h ⊢
    split at h
    · simp at h
    · rename_i h2
      split at h
      · simp at h
      · rename_i h3
        rw [if_neg h2, if_neg (by simp only [List.any_append, List.any_cons, List.any_nil, hx, Bool.or_false]; exact h3)]

/-- Consistent: whether a system can be kept, by Check and opened. -/
def keptP (N : Int) (bs : List Bd) : Bool := (openedP N bs).isSome

theorem ends_law {N : Int} {bs : List Bd} {a b : Int} (ha : askedE N bs [a, b] = 0) (hl : bs.length < 2000) (hab : a ≠ b) (hfar : distN N.toNat bs a.toNat b.toNat < 1125899906842624)
    (h1 : -999999 ≤ distN N.toNat bs a.toNat b.toNat) (h2 : distN N.toNat bs a.toNat b.toNat ≤ 999999) :
    checkP N (bs ++ [⟨b, a, -(distN N.toNat bs a.toNat b.toNat), 0⟩]) = 0 ∧ checkP N (bs ++ [⟨b, a, -(distN N.toNat bs a.toNat b.toNat) - 1, 0⟩]) = 0 ∧
    keptP N (bs ++ [⟨b, a, -(distN N.toNat bs a.toNat b.toNat), 0⟩]) = true ∧ keptP N (bs ++ [⟨b, a, -(distN N.toNat bs a.toNat b.toNat) - 1, 0⟩]) = false := by
  obtain ⟨R, x, y, t, rfl, rfl, rfl, hx, hy, ht, HO⟩ := asked2 ha
  obtain ⟨hc, _, _⟩ := askedE_zero ha
  obtain ⟨d, hd⟩ : ∃ d, distN R bs x y = d := ⟨_, rfl⟩
  simp only [Int.toNat_natCast] at hfar h1 h2 ⊢
  rw [hd] at hfar h1 h2 ⊢
  have hdd : IsDist bs x y d := by
    have := (HO.row hx).2 y hy
    unfold distN at hd
    rw [heightsP_of ht] at hd
    rw [hd] at this
    rcases this with ⟨_, q⟩ | ⟨q, _⟩
    · exact q
    · unfold farI at q; omega
  have bad : ∀ m, -1000000 ≤ m → m ≤ 1000000 → badB (R : Int) ⟨y, x, m, 0⟩ = false := by
    intro m m1 m2
    simp only [badB, Bool.or_eq_false_iff, Bool.not_eq_false', inR_true, beq_eq_false_iff_ne]
    refine ⟨⟨⟨⟨?_, ?_⟩, ?_⟩, ?_⟩, ?_⟩ <;> first | omega | exact fun e => hab e.symm
  have val : ∀ m, -1000000 ≤ m → m ≤ 1000000 → AllValid R (bs ++ [⟨y, x, m, 0⟩]) := fun m m1 m2 => valid_snoc HO.valid ⟨by simp, by simp; omega, by simp, by simp; omega, m1, m2⟩
  refine ⟨checkP_snoc hc hl (bad _ (by omega) (by omega)), checkP_snoc hc hl (bad _ (by omega) (by omega)), ?_, ?_⟩
  · exact (openedP_iff HO.n1 (val _ (by omega) (by omega))).2 (noNeg_of_pot (ends_pot HO hx hy hdd 0))
  · have : ¬ keptP (R : Int) (bs ++ [⟨y, x, -d - 1, 0⟩]) = true := fun e => ends_neg hdd ((openedP_iff HO.n1 (val _ (by omega) (by omega))).1 e)
    simpa using this

end Go.Proofs.YthcmjhellpjllaaGreat

/- Plain laws: the reference's heights lie in a shorter list; its distances and ranges are those of the program. No conditions beyond those stated. -/
namespace Go.Proofs.YthcmjhellpjllaaGreat

theorem getI_pad {N : Nat} {h z : List Int} (hl : h.length = N) {v : Int} (v0 : 0 ≤ v) (v1 : v < N) : getI (h ++ z) v = getI h v := by
  unfold getI
  rw [List.getD_eq_getElem?_getD, List.getElem?_append_left (by omega), List.getD_eq_getElem?_getD]

theorem relaxC_pad {N : Nat} {h z : List Int} {f : Bool} {b : Bd} (hb : b.valid N) (hl : h.length = N) : relaxC (h ++ z, f) b = ((relaxC (h, f) b).1 ++ z, (relaxC (h, f) b).2) := by
  obtain ⟨v1, v2, v3, v4, _, _⟩ := hb
  unfold relaxC
  simp only [getI_pad hl v1 v2, getI_pad hl v3 v4]
  split
  · simp only [Prod.mk.injEq, and_true]
    rw [List.set_append_left _ _ (by omega)]
  · rfl

theorem fold_pad {N : Nat} {z : List Int} : ∀ (bs : List Bd) (s : List Int × Bool), AllValid N bs → s.1.length = N → bs.foldl relaxC (s.1 ++ z, s.2) = ((bs.foldl relaxC s).1 ++ z, (bs.foldl relaxC s).2)
  | [], _, _, _ => rfl
  | b :: bs, s, hv, hl => by
    rw [List.foldl_cons, List.foldl_cons, relaxC_pad (hv b (List.mem_cons_self ..)) hl]
    exact fold_pad bs (relaxC s b) (fun x hx => hv x (List.mem_cons_of_mem _ hx)) (by rw [relaxC_length]; exact hl)

theorem openedGo_pad {N : Nat} {z : List Int} {bs : List Bd} (hv : AllValid N bs) : ∀ (r : Nat) (h : List Int), h.length = N → openedGo bs r (h ++ z) = (openedGo bs r h).map (· ++ z)
  | 0, _, _ => rfl
  | r + 1, h, hl => by
    have e : roundP bs (h ++ z) = ((roundP bs h).1 ++ z, (roundP bs h).2) := fold_pad bs (h, false) hv hl
    have hl2 : (roundP bs h).1.length = N := by unfold roundP; rw [foldl_relaxC_length]; exact hl
    simp only [openedGo, e]
    split
    · exact openedGo_pad hv r _ hl2
    · rfl

/-- The reference's consistent. -/
def keptR (N : Nat) (bs : List Bd) : Bool := (openedGo bs (N + 1) (List.replicate N 0)).isSome
theorem keptR_eq {N : Nat} {bs : List Bd} (hN : N ≤ 128) (hv : AllValid N bs) : keptR N bs = keptP N bs := by
  unfold keptR keptP openedP
  have e : List.replicate 128 (0 : Int) = List.replicate N 0 ++ List.replicate (128 - N) 0 := by rw [List.replicate_append_replicate]; congr 1; omega
  rw [e, show ((N : Int) + 1).toNat = N + 1 by omega, openedGo_pad hv _ _ (by simp)]
  simp

theorem matrix_dist {N : Nat} {bs : List Bd} {t : List Int} (HO : NetOk N bs t) (ht : openedP N bs = some t) {a b : Nat} (ha : a < N) (hb : b < N) :
    ((mget (matrixP N bs) a b).ok = true ∧ distN N bs a b < farI ∧ (mget (matrixP N bs) a b).s = distN N bs a b) ∨ ((mget (matrixP N bs) a b).ok = false ∧ distN N bs a b = farI) := by
  have h1 := (matrixP_ok HO.valid HO.noNeg).2 a b ha hb
  have h2 := (HO.row ha).2 b hb
  unfold distN
  rw [heightsP_of ht]
  rcases h1 with ⟨k1, k2⟩ | ⟨k1, k2⟩
  · rcases h2 with ⟨q1, q2⟩ | ⟨q1, q2⟩
    · exact .inl ⟨k1, q1, k2.unique q2⟩
    · exact (k2.not_none q2).elim
  · rcases h2 with ⟨q1, q2⟩ | ⟨q1, q2⟩
    · exact (q2.not_none k2).elim
    · exact .inr ⟨k1, q1⟩

def frV (f : Fr) : Int := if f.ok = true then f.s else 0
/-- The reference's span. -/
def spanR (d : List (List Fr)) (a b : Nat) : Sp := ⟨-frV (mget d b a), frV (mget d a b), (mget d b a).ok, (mget d a b).ok⟩

theorem frV_dist {N : Nat} {bs : List Bd} {t : List Int} (HO : NetOk N bs t) (ht : openedP N bs = some t) {a b : Nat} (ha : a < N) (hb : b < N) :
    frV (mget (matrixP N bs) a b) = nV (distN N bs a b) ∧ (mget (matrixP N bs) a b).ok = nB (distN N bs a b) := by
  unfold frV nV nB
  rcases matrix_dist HO ht ha hb with ⟨h1, h2, h3⟩ | ⟨h1, h2⟩
  · unfold farI at h2
    rw [h1, h3, if_pos rfl, if_neg (by omega)]
    simp [h2]
  · unfold farI at h2
    rw [h1, h2]; simp

theorem spanR_eq {N : Nat} {bs : List Bd} {t : List Int} (HO : NetOk N bs t) (ht : openedP N bs = some t) {a b : Nat} (ha : a < N) (hb : b < N) :
    spanR (matrixP N bs) a b = spP (distN N bs a b) (distN N bs b a) := by
  unfold spanR spP
  rw [(frV_dist HO ht ha hb).1, (frV_dist HO ht ha hb).2, (frV_dist HO ht hb ha).1, (frV_dist HO ht hb ha).2]

/-- Ascending lists with the same numbers are the same. -/
theorem asc_ext : ∀ {l m : List Int}, l.Pairwise (· < ·) → m.Pairwise (· < ·) → (∀ x, x ∈ l ↔ x ∈ m) → l = m
  | [], [], _, _, _ => rfl
  | [], b :: m, _, _, h => by have := (h b).2 (List.mem_cons_self ..); simp at this
  | a :: l, [], _, _, h => by have := (h a).1 (List.mem_cons_self ..); simp at this
  | a :: l, b :: m, hl, hm, h => by
    rw [List.pairwise_cons] at hl hm
    have e : a = b := by
      rcases List.mem_cons.1 ((h a).1 (List.mem_cons_self ..)) with e | e
      · exact e
      · rcases List.mem_cons.1 ((h b).2 (List.mem_cons_self ..)) with e2 | e2
        · exact e2.symm
        · have := hm.1 a e; have := hl.1 b e2; omega
    subst e
    congr 1
    refine asc_ext hl.2 hm.2 (fun x => ⟨fun hx => ?_, fun hx => ?_⟩)
    · rcases List.mem_cons.1 ((h x).1 (List.mem_cons_of_mem _ hx)) with e | e
      · have := hl.1 x hx; omega
      · exact e
    · rcases List.mem_cons.1 ((h x).2 (List.mem_cons_of_mem _ hx)) with e | e
      · have := hm.1 x hx; omega
      · exact e

/-- The reference's insert. -/
def insAt (l : List Int) (n : Int) : Nat := (l.takeWhile fun x => decide (x < n)).length
def insertP (l : List Int) (n : Int) : List Int := if (l.drop (insAt l n)).head? = some n then l else l.take (insAt l n) ++ [n] ++ l.drop (insAt l n)

theorem insAt_le (l : List Int) (n : Int) : insAt l n ≤ l.length := by
  unfold insAt; exact (List.takeWhile_sublist _).length_le
theorem take_ins (l : List Int) (n : Int) : ∀ x ∈ l.take (insAt l n), x < n := by
  unfold insAt
  induction l with
  | nil => intro x hx; simp at hx
  | cons y l ih =>
    intro x hx
    by_cases h : y < n
    · simp only [List.takeWhile_cons, h, decide_true, if_true, List.length_cons, List.take_succ_cons] at hx
      rcases List.mem_cons.1 hx with e | e
      · omega
      · exact ih x e
    · simp [h] at hx
theorem drop_ins {l : List Int} {n : Int} (hl : l.Pairwise (· < ·)) : ∀ x ∈ l.drop (insAt l n), n ≤ x := by
  unfold insAt
  induction l with
  | nil => intro x hx; simp at hx
  | cons y l ih =>
    intro x hx
    rw [List.pairwise_cons] at hl
    by_cases h : y < n
    · simp only [List.takeWhile_cons, h, decide_true, if_true, List.length_cons, List.drop_succ_cons] at hx
      exact ih hl.2 x hx
    · simp only [List.takeWhile_cons, h, decide_false, Bool.false_eq_true, if_false, List.length_nil, List.drop_zero] at hx
      rcases List.mem_cons.1 hx with e | e
      · omega
      · have := hl.1 x e; omega

theorem mem_insertP {l : List Int} {n x : Int} : x ∈ insertP l n ↔ x = n ∨ x ∈ l := by
  unfold insertP
  split
  · rename_i h
    constructor
    · exact .inr
    · rintro (e | e)
      · subst e
        exact List.mem_of_mem_drop (List.mem_of_mem_head? h)
      · exact e
  · have : x ∈ l ↔ x ∈ l.take (insAt l n) ∨ x ∈ l.drop (insAt l n) := by rw [← List.mem_append, List.take_append_drop]
    rw [this]
    simp only [List.mem_append, List.mem_singleton]
    constructor
    · rintro ((h | h) | h)
      · exact .inr (.inl h)
      · exact .inl h
      · exact .inr (.inr h)
    · rintro (h | h | h)
      · exact .inl (.inr h)
      · exact .inl (.inl h)
      · exact .inr h

theorem insertP_asc {l : List Int} {n : Int} (hl : l.Pairwise (· < ·)) : (insertP l n).Pairwise (· < ·) := by
  unfold insertP
  split
  · exact hl
  · rename_i h
    have h1 := take_ins l n
    have h2 := drop_ins (n := n) hl
    have hd : ∀ x ∈ l.drop (insAt l n), n < x := by
      intro x hx
      cases hq : l.drop (insAt l n) with
      | nil => rw [hq] at hx; simp at hx
      | cons y r =>
        rw [hq] at h hx h2
        have hp : (y :: r).Pairwise (· < ·) := by rw [← hq]; exact hl.sublist (List.drop_sublist _ _)
        rw [List.pairwise_cons] at hp
        simp only [List.head?_cons, Option.some.injEq] at h
        have hy := h2 y (List.mem_cons_self ..)
        rcases List.mem_cons.1 hx with e | e
        · omega
        · have := hp.1 x e; omega
    rw [List.pairwise_append, List.pairwise_append]
    refine ⟨⟨hl.sublist (List.take_sublist _ _), by simp, fun x hx y hy => by rw [List.mem_singleton.1 hy]; exact h1 x hx⟩, hl.sublist (List.drop_sublist _ _), fun x hx y hy => ?_⟩
    rcases List.mem_append.1 hx with e | e
    · have := h1 x e; have := hd y hy; omega
    · rw [List.mem_singleton.1 e]; exact hd y hy

end Go.Proofs.YthcmjhellpjllaaGreat

/- Plain law: the reference's Needless finds what the program's finds. Conditions: a net that was asked for. -/
namespace Go.Proofs.YthcmjhellpjllaaGreat

def needR (N : Nat) : Nat → List Bd → List Int → List Int
  | 0, _, out => out
  | i + 1, stay, out =>
    if (mget (matrixP N (stay.take i ++ stay.drop (i + 1))) (stay.getD i bd0).src.toNat (stay.getD i bd0).dst.toNat).ok = true ∧
       (mget (matrixP N (stay.take i ++ stay.drop (i + 1))) (stay.getD i bd0).src.toNat (stay.getD i bd0).dst.toNat).s ≤ (stay.getD i bd0).most
    then needR N i (stay.take i ++ stay.drop (i + 1)) ((i : Int) :: out) else needR N i stay out

theorem passes_split {t : Nat → Bool} {i n : Nat} (hi : i ≤ n) (h : ∀ k, k < i → t k = true) : passes t n = List.range i ++ ((List.range (n - i)).map (i + ·)).filter t := by
  unfold passes
  obtain ⟨m, rfl⟩ : ∃ m, n = i + m := ⟨n - i, by omega⟩
  rw [List.range_add, List.filter_append, List.filter_eq_self.2 (fun k hk => h k (List.mem_range.1 hk)), Nat.add_sub_cancel_left]

theorem selB_range {bs : List Bd} {i : Nat} (hi : i ≤ bs.length) : selB bs (List.range i) = bs.take i := by
  apply List.ext_getElem
  · simp [selB]; omega
  · intro k h1 h2
    simp only [selB, List.length_map, List.length_range] at h1
    simp [selB, List.getD_eq_getElem?_getD, show k < bs.length by omega]

/-- The bounds behind i that are not gone. -/
def behind (bs : List Bd) (gone : List Bool) (i : Nat) : List Bd := selB bs (((List.range (bs.length - i)).map (i + ·)).filter fun k => !(gone.getD k false))

theorem behind_step {bs : List Bd} {gone : List Bool} {i : Nat} (hi : i < bs.length) : behind bs gone i = (if gone.getD i false = true then [] else [bs.getD i bd0]) ++ behind bs gone (i + 1) := by
  unfold behind
  obtain ⟨m, hm⟩ : ∃ m, bs.length - i = m + 1 := ⟨bs.length - i - 1, by omega⟩
  rw [hm, show bs.length - (i + 1) = m by omega, List.range_succ_eq_map, List.map_cons, List.filter_cons, List.map_map]
  have e : List.map ((fun x => i + x) ∘ Nat.succ) (List.range m) = List.map (fun x => i + 1 + x) (List.range m) := List.map_congr_left (fun k _ => by simp only [Function.comp]; omega)
  rw [e]
  simp only [Nat.add_zero]
  cases hg : gone.getD i false
  · simp [selB]
  · simp [selB]

theorem behind_set {bs : List Bd} {gone : List Bool} {i : Nat} (b : Bool) : behind bs (gone.set i b) (i + 1) = behind bs gone (i + 1) := by
  unfold behind
  congr 1
  apply List.filter_congr
  intro k hk
  obtain ⟨j, _, rfl⟩ := List.mem_map.1 hk
  have : i ≠ i + 1 + j := by omega
  simp [List.getD_eq_getElem?_getD, this]

/-- What stays: the first n, and those behind that are not gone. -/
theorem need_sel {bs : List Bd} {gone : List Bool} {i : Nat} (hi : i < bs.length) (hg : ∀ k, k ≤ i → gone.getD k false = false) : selB bs (passes (needT gone i) bs.length) = bs.take i ++ behind bs gone (i + 1) := by
  rw [passes_split (i := i) (by omega) (fun k hk => by unfold needT; rw [hg k (by omega)]; simp; omega), selB_append, selB_range (by omega)]
  congr 1
  unfold behind
  obtain ⟨m, hm⟩ : ∃ m, bs.length - i = m + 1 := ⟨bs.length - i - 1, by omega⟩
  rw [hm, show bs.length - (i + 1) = m by omega, List.range_succ_eq_map, List.map_cons, List.filter_cons, List.map_map]
  have e : List.map ((fun x => i + x) ∘ Nat.succ) (List.range m) = List.map (fun x => i + 1 + x) (List.range m) := List.map_congr_left (fun k _ => by simp only [Function.comp]; omega)
  rw [e]
  have e2 : needT gone i (i + 0) = false := by unfold needT; simp
  rw [e2]
  simp only [Bool.false_eq_true, if_false]
  congr 1
  apply List.filter_congr
  intro k hk
  obtain ⟨j, _, rfl⟩ := List.mem_map.1 hk
  unfold needT
  have : (i + 1 + j != i) = true := by simp; omega
  rw [this]; simp

theorem needR_eq {N : Nat} {bs : List Bd} {h : List Int} (H : NetOk N bs h) : ∀ (n : Nat) (gone : List Bool) (out : List Int), n ≤ bs.length → gone.length = bs.length → (∀ k, k < n → gone.getD k false = false) →
    needR N n (bs.take n ++ behind bs gone n) out = (needGo N h bs n gone out.reverse).reverse
  | 0, gone, out, _, _, _ => by simp [needR, needGo]
  | i + 1, gone, out, hn, hgl, hg => by
    have hi : i < bs.length := by omega
    have htl : (bs.take (i + 1)).length = i + 1 := by simp; omega
    have g1 : (bs.take (i + 1) ++ behind bs gone (i + 1)).getD i bd0 = bs.getD i bd0 := by
      simp [List.getD_eq_getElem?_getD, List.getElem?_append_left (show i < (bs.take (i + 1)).length by omega)]
    have g2 : (bs.take (i + 1) ++ behind bs gone (i + 1)).take i = bs.take i := by
      rw [List.take_append_of_le_length (by omega), List.take_take, Nat.min_eq_left (by omega)]
    have g3 : (bs.take (i + 1) ++ behind bs gone (i + 1)).drop (i + 1) = behind bs gone (i + 1) := by
      rw [List.drop_append_of_le_length (by omega), List.drop_eq_nil_of_le (by omega), List.nil_append]
    have hsel := need_sel hi (fun k hk => hg k (by omega))
    have hbm : bs.getD i bd0 ∈ bs := by rw [List.getD_eq_getElem?_getD, List.getElem?_eq_getElem hi]; exact List.getElem_mem hi
    obtain ⟨v1, v2, v3, v4, v5, v6⟩ := H.valid _ hbm
    have hmem : ∀ x ∈ bs.take i ++ behind bs gone (i + 1), x ∈ bs := by
      rw [← hsel]; exact fun x hx => mem_selB (fun q hq => (passes_mem.1 hq).1) hx
    have hrow := distP_row (N := N) (a := (bs.getD i bd0).src.toNat) H.n1 (by omega) (fun x hx => H.valid x (hmem x hx)) (H.pot.mono hmem) H.low
    have hmat := (matrixP_ok (N := N) (fun x hx => H.valid x (hmem x hx)) (H.noNeg.mono hmem)).2 (bs.getD i bd0).src.toNat (bs.getD i bd0).dst.toNat (by omega) (by omega)
    have hsrc : ((bs.getD i bd0).src.toNat : Int) = (bs.getD i bd0).src := by omega
    have hr := hrow.2 (bs.getD i bd0).dst.toNat (by omega)
    have hyes : needYes N h bs gone i = true ↔ ((mget (matrixP N (bs.take i ++ behind bs gone (i + 1))) (bs.getD i bd0).src.toNat (bs.getD i bd0).dst.toNat).ok = true ∧ (mget (matrixP N (bs.take i ++ behind bs gone (i + 1))) (bs.getD i bd0).src.toNat (bs.getD i bd0).dst.toNat).s ≤ (bs.getD i bd0).most) := by
      unfold needYes
      rw [hsel, decide_eq_true_eq]
      rw [hsrc] at hr
      rw [hsrc] at hmat
      unfold farI at hr
      rcases hmat with ⟨k1, k2⟩ | ⟨k1, k2⟩
      · rcases hr with ⟨q1, q2⟩ | ⟨q1, q2⟩
        · rw [k2.unique q2, k1]; exact ⟨fun h => ⟨rfl, h⟩, fun h => h.2⟩
        · exact (k2.not_none q2).elim
      · rcases hr with ⟨q1, q2⟩ | ⟨q1, q2⟩
        · exact (q2.not_none k2).elim
        · rw [k1]; constructor
          · intro; omega
          · intro e; exact absurd e.1 (by simp)
    simp only [needR, needGo, g1, g2, g3]
    have hb : behind bs gone i = bs.getD i bd0 :: behind bs gone (i + 1) := by rw [behind_step hi, if_neg (by rw [hg i (by omega)]; simp)]; rfl
    by_cases hy : needYes N h bs gone i = true
    · rw [if_pos (hyes.1 hy), if_pos hy]
      have := needR_eq H i (gone.set i true) ((i : Int) :: out) (by omega) (by simpa using hgl) (fun k hk => by
        have := hg k (by omega)
        have hne : i ≠ k := by omega
        simpa [List.getD_eq_getElem?_getD, List.getElem?_set, hne] using this)
      have hbs : behind bs (gone.set i true) i = behind bs gone (i + 1) := by
        rw [behind_step hi, if_pos (by simp [List.getD_eq_getElem?_getD, show i < gone.length by omega]), List.nil_append, behind_set]
      rw [hbs] at this
      rw [this, List.reverse_cons]
    · rw [if_neg (fun e => hy (hyes.2 e)), if_neg hy]
      have := needR_eq H i gone out (by omega) hgl (fun k hk => hg k (by omega))
      rw [hb] at this
      rw [← this]
      congr 1
      rw [List.take_succ_eq_append_getElem hi, List.append_assoc]
      congr 1
      rw [List.getD_eq_getElem?_getD, List.getElem?_eq_getElem hi]; rfl

theorem needless_ref {N : Nat} {bs : List Bd} {h : List Int} (H : NetOk N bs h) : needR N bs.length bs [] = needlessP N h bs := by
  have := needR_eq H bs.length (List.replicate bs.length false) [] (Nat.le_refl _) (by simp) (fun k hk => by simp [List.getD_eq_getElem?_getD, hk])
  have e : behind bs (List.replicate bs.length false) bs.length = [] := by unfold behind; simp [selB]
  rw [e, List.append_nil, List.take_of_length_le (Nat.le_refl _)] at this
  rw [this]; rfl

end Go.Proofs.YthcmjhellpjllaaGreat

/- Plain laws: more bounds bring no distance that is greater; the order of the bounds changes nothing. No conditions beyond those stated. -/
namespace Go.Proofs.YthcmjhellpjllaaGreat

theorem dist_cases {N : Nat} {bs : List Bd} {t : List Int} (H : NetOk N bs t) (ht : openedP N bs = some t) {a b : Nat} (ha : a < N) (hb : b < N) :
    (distN N bs a b < farI ∧ IsDist bs a b (distN N bs a b)) ∨ (distN N bs a b = farI ∧ NoWalk bs a b) := by
  have h2 := (H.row ha).2 b hb
  unfold distN
  rw [heightsP_of ht]
  exact h2

theorem dist_mono {N : Nat} {bs cs : List Bd} {t u : List Int} (H : NetOk N bs t) (ht : openedP N bs = some t) (K : NetOk N cs u) (hu : openedP N cs = some u) (hs : ∀ x ∈ bs, x ∈ cs) {a b : Nat} (ha : a < N) (hb : b < N) :
    distN N cs a b ≤ distN N bs a b := by
  rcases dist_cases H ht ha hb with ⟨h1, ⟨p, p1, p2, p3⟩, _⟩ | ⟨h1, _⟩
  · rcases dist_cases K hu ha hb with ⟨k1, _, k3⟩ | ⟨_, k2⟩
    · have := k3 p p1 (p2.mono hs); omega
    · exact absurd (p2.mono hs) (k2 p p1)
  · rcases dist_cases K hu ha hb with ⟨k1, _⟩ | ⟨k1, _⟩ <;> omega

theorem dist_same {N : Nat} {bs cs : List Bd} {t u : List Int} (H : NetOk N bs t) (ht : openedP N bs = some t) (K : NetOk N cs u) (hu : openedP N cs = some u) (hs : ∀ x, x ∈ bs ↔ x ∈ cs) {a b : Nat} (ha : a < N) (hb : b < N) :
    distN N cs a b = distN N bs a b := Int.le_antisymm (dist_mono H ht K hu (fun x => (hs x).1) ha hb) (dist_mono K hu H ht (fun x => (hs x).2) ha hb)

theorem keptP_iff {N : Nat} {bs : List Bd} (hN : N ≤ 128) (hv : AllValid N bs) : keptP N bs = true ↔ NoNeg bs := openedP_iff hN hv
theorem keptP_mono {N : Nat} {bs cs : List Bd} (hN : N ≤ 128) (hv : AllValid N cs) (hs : ∀ x ∈ bs, x ∈ cs) (h : keptP N cs = true) : keptP N bs = true :=
  (keptP_iff hN (fun x hx => hv x (hs x hx))).2 (((keptP_iff hN hv).1 h).mono hs)

theorem allValid_of {N : Int} {bs : List Bd} (h : checkP N bs = 0) : ∃ R : Nat, N = R ∧ 1 ≤ R ∧ R ≤ 128 ∧ bs.length ≤ 2000 ∧ AllValid R bs := by
  obtain ⟨n0, n1, n2, nv⟩ := checkP_zero h
  obtain ⟨R, rfl⟩ := Int.eq_ofNat_of_zero_le (show 0 ≤ N by omega)
  exact ⟨R, rfl, by omega, by omega, n2, fun b hb => (nv b hb).1⟩

theorem checkP_join {N : Int} {bs cs : List Bd} (h : checkP N bs = 0) (k : checkP N cs = 0) (hl : bs.length + cs.length ≤ 2000) : checkP N (bs ++ cs) = 0 := by
  unfold checkP at h k ⊢
  split at h
  · simp at h
  · rename_i h1
    split at k
    · simp at k
    · rw [if_neg (by simp; omega)]
      unfold checkedP at h k ⊢
      split at h
      · simp at h
      · rename_i h2
        rw [if_neg h2] at k
        split at h
        · simp at h
        · rename_i h3
          split at k
          · simp at k
          · rename_i k3
            rw [if_neg h2, if_neg (by simp only [List.any_append, Bool.or_eq_true, not_or]; exact ⟨h3, k3⟩)]

theorem askedE_of {N : Int} {bs : List Bd} (l : List Int) (h : checkP N bs = 0) : askedE N bs l = if pointP N l ≠ 0 then pointP N l else if keptP N bs = true then 0 else 10 := by
  unfold askedE keptP
  rw [if_neg (by simp [h])]
  split
  · rfl
  · cases openedP N bs <;> simp

/-- The two ways of joining. -/
theorem more_law {N : Int} {bs cs : List Bd} (h : checkP N bs = 0) (k : checkP N cs = 0) (hl : bs.length + cs.length ≤ 2000) :
    checkP N (bs ++ cs) = 0 ∧ checkP N (cs ++ bs) = 0 ∧ (keptP N (bs ++ cs) = true → keptP N bs = true) ∧ keptP N (bs ++ cs) = keptP N (cs ++ bs) := by
  have h1 := checkP_join h k hl
  have h2 := checkP_join k h (by omega)
  obtain ⟨R, rfl, r0, r1, _, hv1⟩ := allValid_of h1
  have hv2 : AllValid R (cs ++ bs) := fun x hx => hv1 x (by rw [List.mem_append] at *; exact hx.symm)
  refine ⟨h1, h2, keptP_mono r1 hv1 (fun x hx => List.mem_append_left _ hx), ?_⟩
  have e1 := keptP_mono (bs := cs ++ bs) r1 hv1 (fun x hx => by rw [List.mem_append] at *; exact hx.symm)
  have e2 := keptP_mono (bs := bs ++ cs) r1 hv2 (fun x hx => by rw [List.mem_append] at *; exact hx.symm)
  cases ha : keptP R (bs ++ cs)
  · cases hb : keptP R (cs ++ bs)
    · rfl
    · rw [e2 hb] at ha; exact ha.symm
  · rw [e1 ha]

/-- The range behind more bounds. -/
def narrowP (x y : Sp) : Bool := (!x.highest || (y.highest && decide (y.high ≤ x.high))) && (!x.lowest || (y.lowest && decide (x.low ≤ y.low)))

theorem spP_narrow {d e d' e' : Int} (h1 : d' ≤ d) (h2 : e' ≤ e) : narrowP (spP d e) (spP d' e') = true := by
  unfold narrowP spP nB nV
  simp only [Bool.and_eq_true, Bool.or_eq_true, Bool.not_eq_true', decide_eq_true_eq, decide_eq_false_iff_not]
  constructor
  · by_cases hd : d < 1125899906842624
    · right; rw [if_neg (by omega), if_neg (by omega)]; omega
    · left; omega
  · by_cases hd : e < 1125899906842624
    · right; rw [if_neg (by omega), if_neg (by omega)]; omega
    · left; omega

theorem more_between {N : Int} {bs cs : List Bd} (h : checkP N bs = 0) (k : checkP N cs = 0) (hl : bs.length + cs.length ≤ 2000) (a b : Int) :
    betweenP N (bs ++ cs) a b = betweenP N (cs ++ bs) a b ∧ (askedE N (bs ++ cs) [a, b] = 0 → askedE N bs [a, b] = 0 ∧ narrowP (betweenP N bs a b).1 (betweenP N (bs ++ cs) a b).1 = true) := by
  obtain ⟨h1, h2, h3, h4⟩ := more_law h k hl
  have e1 := askedE_of [a, b] h1
  have e2 := askedE_of [a, b] h2
  have e0 := askedE_of [a, b] h
  have e12 : askedE N (bs ++ cs) [a, b] = askedE N (cs ++ bs) [a, b] := by rw [e1, e2, h4]
  by_cases hz : askedE N (bs ++ cs) [a, b] = 0
  · have hz2 : askedE N (cs ++ bs) [a, b] = 0 := by rw [← e12]; exact hz
    have hz0 : askedE N bs [a, b] = 0 := by
      rw [e0]
      rw [e1] at hz
      by_cases hp : pointP N [a, b] = 0
      · rw [if_neg (by simp [hp])] at hz ⊢
        by_cases hk : keptP N (bs ++ cs) = true
        · rw [if_pos (h3 hk)]
        · rw [if_neg hk] at hz; simp at hz
      · rw [if_pos hp] at hz; exact absurd hz hp
    obtain ⟨R, x, y, t, rfl, rfl, rfl, hx, hy, ht, HO⟩ := asked2 hz
    obtain ⟨R2, x2, y2, t2, e3, e4, e5, _, _, ht2, HO2⟩ := asked2 hz2
    obtain ⟨R0, x0, y0, t0, e6, e7, e8, _, _, ht0, HO0⟩ := asked2 hz0
    have : R2 = R := by omega
    subst this
    have : R0 = R2 := by omega
    subst this
    have hs : ∀ z, z ∈ cs ++ bs ↔ z ∈ bs ++ cs := fun z => by rw [List.mem_append, List.mem_append]; exact Or.comm
    refine ⟨?_, fun _ => ⟨hz0, ?_⟩⟩
    · unfold betweenP
      rw [if_pos hz, if_pos hz2]
      simp only [Int.toNat_natCast]
      rw [dist_same HO2 ht2 HO ht hs hx hy, dist_same HO2 ht2 HO ht hs hy hx]
    · unfold betweenP
      rw [if_pos hz0, if_pos hz]
      simp only [Int.toNat_natCast]
      exact spP_narrow (dist_mono HO0 ht0 HO ht (fun z hz => List.mem_append_left _ hz) hx hy) (dist_mono HO0 ht0 HO ht (fun z hz => List.mem_append_left _ hz) hy hx)
  · refine ⟨?_, fun e => absurd e hz⟩
    unfold betweenP
    rw [if_neg hz, if_neg (by rw [← e12]; exact hz), e12]

end Go.Proofs.YthcmjhellpjllaaGreat

/- Plain law: the values of Some keep the system. Conditions: a net that was asked for. -/
namespace Go.Proofs.YthcmjhellpjllaaGreat

/-- The values of Some. -/
def valuesL (N : Nat) (bs : List Bd) : List Int := someP N (tableP N (heightsP N bs) bs)

/-- A table of least sums: sizes, and no way round is shorter. -/
structure TabOk (N : Nat) (D : Int) (T : List (List Int)) : Prop where
  d0 : 0 ≤ D
  d1 : D ≤ 1000000000
  bd : ∀ p q, p < N → q < N → tget T p q < farI → -D ≤ tget T p q ∧ tget T p q ≤ D
  tri : ∀ p r q, p < N → r < N → q < N → tget T p r < farI → tget T r q < farI → tget T p q < farI ∧ tget T p q ≤ tget T p r + tget T r q
  le : ∀ p q, p < N → q < N → tget T p q ≤ farI

/-- What stands of the values so far. -/
structure SInv (N : Nat) (T : List (List Int)) (c : Int) (st : List Int × List Bool) : Prop where
  l1 : st.1.length = N
  l2 : st.2.length = N
  tri : ∀ p q, p < N → q < N → st.2.getD p false = true → st.2.getD q false = true → tget T p q < farI → st.1.getD q 0 ≤ st.1.getD p 0 + tget T p q
  bd : ∀ i, i < N → -c ≤ st.1.getD i 0 ∧ st.1.getD i 0 ≤ c

theorem someIn_fold {N : Nat} {T : List (List Int)} {out : List Int} {given : List Bool} {p : Nat} : ∀ k, k ≤ N →
    let r := (List.range k).foldl (someIn T out given p) (0, farI)
    0 ≤ r.1 ∧ r.2 ≤ farI ∧ (∀ q, q < k → given.getD q false = true → tget T p q < farI → out.getD q 0 - tget T p q ≤ r.1) ∧ (∀ q, q < k → given.getD q false = true → tget T q p < farI → r.2 ≤ out.getD q 0 + tget T q p) ∧
    (r.1 = 0 ∨ ∃ q, q < k ∧ given.getD q false = true ∧ tget T p q < farI ∧ r.1 = out.getD q 0 - tget T p q) ∧ (r.2 = farI ∨ ∃ q, q < k ∧ given.getD q false = true ∧ tget T q p < farI ∧ r.2 = out.getD q 0 + tget T q p)
  | 0, _ => by
    simp only [List.range_zero, List.foldl_nil]
    exact ⟨by omega, by omega, fun q h => by omega, fun q h => by omega, .inl (by simp), .inl (by simp)⟩
  | k + 1, hk => by
    have ih := someIn_fold (N := N) (T := T) (out := out) (given := given) (p := p) k (by omega)
    simp only [List.range_succ, List.foldl_append, List.foldl_cons, List.foldl_nil] at ih ⊢
    obtain ⟨r, hr⟩ : ∃ r, (List.range k).foldl (someIn T out given p) (0, farI) = r := ⟨_, rfl⟩
    rw [hr] at ih ⊢
    obtain ⟨h1, h2, h3, h4, h5, h6⟩ := ih
    unfold someIn
    by_cases hg : given.getD k false = true
    · rw [if_pos hg]
      simp only
      refine ⟨?_, ?_, fun q hq gq tq => ?_, fun q hq gq tq => ?_, ?_, ?_⟩
      · split <;> omega
      · split <;> omega
      · by_cases e : q = k
        · subst e; rw [if_pos tq]; omega
        · have := h3 q (by omega) gq tq
          split <;> omega
      · by_cases e : q = k
        · subst e; rw [if_pos tq]; omega
        · have := h4 q (by omega) gq tq
          split <;> omega
      · split
        · rename_i ht
          by_cases hm : r.1 ≤ out.getD k 0 - tget T p k
          · exact .inr ⟨k, by omega, hg, ht, by omega⟩
          · rcases h5 with e | ⟨q, q1, q2, q3, q4⟩
            · left; omega
            · exact .inr ⟨q, by omega, q2, q3, by omega⟩
        · rcases h5 with e | ⟨q, q1, q2, q3, q4⟩
          · exact .inl e
          · exact .inr ⟨q, by omega, q2, q3, q4⟩
      · split
        · rename_i ht
          by_cases hm : out.getD k 0 + tget T k p ≤ r.2
          · exact .inr ⟨k, by omega, hg, ht, by omega⟩
          · rcases h6 with e | ⟨q, q1, q2, q3, q4⟩
            · left; omega
            · exact .inr ⟨q, by omega, q2, q3, by omega⟩
        · rcases h6 with e | ⟨q, q1, q2, q3, q4⟩
          · exact .inl e
          · exact .inr ⟨q, by omega, q2, q3, q4⟩
    · rw [if_neg hg]
      refine ⟨h1, h2, fun q hq gq tq => ?_, fun q hq gq tq => ?_, ?_, ?_⟩
      · by_cases e : q = k
        · subst e; exact absurd gq hg
        · exact h3 q (by omega) gq tq
      · by_cases e : q = k
        · subst e; exact absurd gq hg
        · exact h4 q (by omega) gq tq
      · rcases h5 with e | ⟨q, q1, q2, q3, q4⟩
        · exact .inl e
        · exact .inr ⟨q, by omega, q2, q3, q4⟩
      · rcases h6 with e | ⟨q, q1, q2, q3, q4⟩
        · exact .inl e
        · exact .inr ⟨q, by omega, q2, q3, q4⟩

theorem getB_set (l : List Bool) (p i : Nat) (b : Bool) : (l.set p b).getD i false = if i = p ∧ p < l.length then b else l.getD i false := getDB_set l p i b

theorem someAt_inv {N : Nat} {D c : Int} {T : List (List Int)} (H : TabOk N D T) {st : List Int × List Bool} (hc0 : 0 ≤ c) (hc : c ≤ 1000000000000) (I : SInv N T c st) {p : Nat} (hp : p < N) :
    SInv N T (c + D) (someAt N T st p) ∧ (someAt N T st p).2.getD p false = true ∧ ∀ i, i < N → st.2.getD i false = true → (someAt N T st p).2.getD i false = true ∧ (someAt N T st p).1.getD i 0 = st.1.getD i 0 := by
  have hd0 := H.d0
  have hd1 := H.d1
  unfold someAt
  by_cases hg : st.2.getD p false = true
  · rw [if_pos hg]
    exact ⟨⟨I.l1, I.l2, I.tri, fun i hi => by have := I.bd i hi; omega⟩, hg, fun i _ h => ⟨h, rfl⟩⟩
  · rw [if_neg hg]
    have F := someIn_fold (N := N) (T := T) (out := st.1) (given := st.2) (p := p) N (Nat.le_refl _)
    obtain ⟨r, hr⟩ : ∃ r, (List.range N).foldl (someIn T st.1 st.2 p) (0, farI) = r := ⟨_, rfl⟩
    simp only at F
    rw [hr] at F ⊢
    obtain ⟨h1, h2, h3, h4, h5, h6⟩ := F
    obtain ⟨v, hv⟩ : ∃ v, min r.1 r.2 = v := ⟨_, rfl⟩
    rw [hv]
    have vb : -(c + D) ≤ v ∧ v ≤ c + D := by
      have b1 : r.1 ≤ c + D ∧ 0 ≤ r.1 := by
        refine ⟨?_, h1⟩
        rcases h5 with e | ⟨q, q1, q2, q3, q4⟩
        · omega
        · have := H.bd p q hp q1 q3; have := I.bd q q1; omega
      have b2 : -(c + D) ≤ r.2 := by
        rcases h6 with e | ⟨q, q1, q2, q3, q4⟩
        · rw [e]; unfold farI; omega
        · have := H.bd q p q1 hp q3; have := I.bd q q1; omega
      omega
    have up : ∀ q, q < N → st.2.getD q false = true → tget T q p < farI → v ≤ st.1.getD q 0 + tget T q p := fun q hq gq tq => by have := h4 q hq gq tq; omega
    have dn : ∀ q, q < N → st.2.getD q false = true → tget T p q < farI → st.1.getD q 0 ≤ v + tget T p q := by
      intro q hq gq tq
      have e1 := h3 q hq gq tq
      have e2 : st.1.getD q 0 ≤ r.2 + tget T p q := by
        rcases h6 with e | ⟨s, s1, s2, s3, s4⟩
        · have := H.bd p q hp hq tq; have := I.bd q hq
          rw [e]; unfold farI; omega
        · obtain ⟨t1, t2⟩ := H.tri s p q s1 hp hq s3 tq
          have := I.tri s q s1 hq s2 gq t1
          omega
      omega
    refine ⟨⟨by rw [List.length_set]; exact I.l1, by rw [List.length_set]; exact I.l2, fun i j hi hj gi gj tij => ?_, fun i hi => ?_⟩, ?_, fun i hi gi => ?_⟩
    · simp only at gi gj ⊢
      have gv : ∀ q, q < N → (st.1.set p v).getD q 0 = if q = p then v else st.1.getD q 0 := fun q hq => by
        rw [getD_set]
        by_cases e : q = p
        · rw [if_pos ⟨e, by rw [I.l1]; exact hp⟩, if_pos e]
        · rw [if_neg (fun x => e x.1), if_neg e]
      have gg : ∀ q, q < N → (st.2.set p true).getD q false = if q = p then true else st.2.getD q false := fun q hq => by
        rw [getB_set]
        by_cases e : q = p
        · rw [if_pos ⟨e, by rw [I.l2]; exact hp⟩, if_pos e]
        · rw [if_neg (fun x => e x.1), if_neg e]
      rw [gg i hi] at gi
      rw [gg j hj] at gj
      rw [gv i hi, gv j hj]
      by_cases ei : i = p
      · rw [if_pos ei]
        rw [ei] at tij
        by_cases ej : j = p
        · rw [if_pos ej]
          rw [ej] at tij
          have t0 := (H.tri p p p hp hp hp tij tij).2
          rw [ei, ej]
          omega
        · rw [if_neg ej] at gj ⊢
          rw [ei]
          exact dn j hj gj tij
      · rw [if_neg ei] at gi ⊢
        by_cases ej : j = p
        · rw [if_pos ej]
          rw [ej] at tij ⊢
          exact up i hi gi tij
        · rw [if_neg ej] at gj ⊢
          exact I.tri i j hi hj gi gj tij
    · simp only
      rw [getD_set]
      split
      · exact vb
      · have := I.bd i hi; omega
    · simp only
      rw [getB_set, if_pos ⟨rfl, by rw [I.l2]; exact hp⟩]
    · simp only
      have : i ≠ p := fun e => hg (e ▸ gi)
      rw [getB_set, getD_set, if_neg (fun e => this e.1), if_neg (fun e => this e.1)]
      exact ⟨gi, rfl⟩

theorem someFold_inv {N : Nat} {D c : Int} {T : List (List Int)} (H : TabOk N D T) {s0 : List Int × List Bool} (hc0 : 0 ≤ c) (hc : c ≤ 1000000000) (hN : N ≤ 128) (I : SInv N T c s0) : ∀ k, k ≤ N →
    SInv N T (c + k * D) ((List.range k).foldl (someAt N T) s0) ∧ (∀ i, i < k → ((List.range k).foldl (someAt N T) s0).2.getD i false = true) ∧
    ∀ i, i < N → s0.2.getD i false = true → ((List.range k).foldl (someAt N T) s0).2.getD i false = true ∧ ((List.range k).foldl (someAt N T) s0).1.getD i 0 = s0.1.getD i 0
  | 0, _ => ⟨by simpa using I, fun i h => by omega, fun i _ h => ⟨h, rfl⟩⟩
  | k + 1, hk => by
    obtain ⟨h1, h2, h3⟩ := someFold_inv H hc0 hc hN I k (by omega)
    rw [List.range_succ, List.foldl_append]
    simp only [List.foldl_cons, List.foldl_nil]
    have hkd : (k : Int) * D ≤ 128 * 1000000000 ∧ 0 ≤ (k : Int) * D := by
      have a1 : (k : Int) * D ≤ 128 * D := Int.mul_le_mul_of_nonneg_right (by omega) H.d0
      have := H.d1
      have a2 : 0 ≤ (k : Int) * D := Int.mul_nonneg (by omega) H.d0
      omega
    obtain ⟨g1, g2, g3⟩ := someAt_inv H (by omega) (by omega) h1 (show k < N by omega)
    have e : c + (k : Int) * D + D = c + ((k + 1 : Nat) : Int) * D := by rw [Int.natCast_add, Int.add_mul]; omega
    rw [e] at g1
    refine ⟨g1, fun i hi => ?_, fun i hi gi => ?_⟩
    · by_cases ei : i = k
      · rw [ei]; exact g2
      · exact (g3 i (by omega) (h2 i (by omega))).1
    · obtain ⟨k1, k2⟩ := h3 i hi gi
      obtain ⟨k3, k4⟩ := g3 i hi k1
      exact ⟨k3, k4.trans k2⟩

theorem tabOk_of {N : Nat} {bs : List Bd} {t : List Int} (H : NetOk N bs t) : TabOk N ((N : Int) * 1000000) (tableP N t bs) := by
  have hn := H.n1
  have hrow : ∀ p q, p < N → q < N → (tget (tableP N t bs) p q < farI ∧ IsDist bs p q (tget (tableP N t bs) p q)) ∨ (tget (tableP N t bs) p q = farI ∧ NoWalk bs p q) := by
    intro p q hp hq
    unfold tget
    rw [tableP_get N t bs hp]
    exact (H.row hp).2 q hq
  refine ⟨by omega, by omega, fun p q hp hq h => ?_, fun p r q hp hr hq h1 h2 => ?_, fun p q hp hq => ?_⟩
  · rcases hrow p q hp hq with ⟨_, k⟩ | ⟨k, _⟩
    · exact isDist_bd H.valid H.noNeg (by omega) (by omega) k
    · omega
  · rcases hrow p r hp hr with ⟨_, ⟨u, u1, u2, u3⟩, _⟩ | ⟨k, _⟩
    · rcases hrow r q hr hq with ⟨_, ⟨w, w1, w2, w3⟩, _⟩ | ⟨k, _⟩
      · rcases hrow p q hp hq with ⟨k1, _, k3⟩ | ⟨_, k2⟩
        · have := k3 (u ++ w) (u1.trans w1) (u2.append w2)
          rw [wsum_append] at this
          exact ⟨k1, by omega⟩
        · exact absurd (u2.append w2) (k2 _ (u1.trans w1))
      · omega
    · omega
  · rcases hrow p q hp hq with ⟨k, _⟩ | ⟨k, _⟩ <;> omega

theorem someStart_get {N : Nat} (T : List (List Int)) {i : Nat} (hi : i < N) : (someStart N T).1.getD i 0 = nV (tget T 0 i) ∧ (someStart N T).2.getD i false = nB (tget T 0 i) := by
  simp [someStart, List.getD_eq_getElem?_getD, hi]
theorem nB_true {v : Int} : nB v = true ↔ v < farI := by unfold nB farI; simp
theorem nV_near {v : Int} (h : v < farI) : nV v = v := by unfold nV; unfold farI at h; rw [if_neg (by omega)]

theorem someStart_inv {N : Nat} {D : Int} {T : List (List Int)} (H : TabOk N D T) (h0 : 0 < N) : SInv N T D (someStart N T) := by
  refine ⟨by simp [someStart], by simp [someStart], fun p q hp hq gp gq tpq => ?_, fun i hi => ?_⟩
  · rw [(someStart_get T hp).2, nB_true] at gp
    rw [(someStart_get T hq).2, nB_true] at gq
    rw [(someStart_get T hp).1, (someStart_get T hq).1, nV_near gp, nV_near gq]
    exact (H.tri 0 p q h0 hp hq gp tpq).2
  · rw [(someStart_get T hi).1]
    have := H.d0
    by_cases h : tget T 0 i < farI
    · rw [nV_near h]; exact H.bd 0 i h0 hi h
    · have := H.le 0 i h0 hi
      unfold nV; unfold farI at *; rw [if_pos (by omega)]; omega

/-- THE LAW: the values keep the system. -/
theorem values_keep {N : Nat} {bs : List Bd} {t : List Int} (H : NetOk N bs t) (ht : openedP N bs = some t) :
    (valuesL N bs).length = N ∧ (∀ i, i < N → -(((N : Int) + 1) * ((N : Int) * 1000000)) ≤ (valuesL N bs).getD i 0 ∧ (valuesL N bs).getD i 0 ≤ ((N : Int) + 1) * ((N : Int) * 1000000)) ∧
    (∀ b ∈ bs, getI (valuesL N bs) b.dst - getI (valuesL N bs) b.src ≤ b.most) ∧ (∀ p, p < N → distN N bs 0 p < farI → (valuesL N bs).getD p 0 = distN N bs 0 p) := by
  have h0 : 0 < N := H.n0
  have hn := H.n1
  have TO := tabOk_of H
  have I := someStart_inv TO h0
  obtain ⟨h1, h2, h3⟩ := someFold_inv TO TO.d0 (by omega) hn I N (Nat.le_refl _)
  have hT : ∀ p q, p < N → tget (tableP N t bs) p q = distN N bs p q := by
    intro p q hp
    unfold tget distN
    rw [tableP_get N t bs hp, heightsP_of ht]
  have e : valuesL N bs = ((List.range N).foldl (someAt N (tableP N t bs)) (someStart N (tableP N t bs))).1 := by unfold valuesL someP; rw [heightsP_of ht]
  rw [e]
  refine ⟨h1.l1, fun i hi => ?_, fun b hb => ?_, fun p hp hd => ?_⟩
  · have := h1.bd i hi
    have e2 : ((N : Int) + 1) * ((N : Int) * 1000000) = (N : Int) * 1000000 + (N : Int) * ((N : Int) * 1000000) := by rw [Int.add_mul]; omega
    rw [e2]; exact this
  · obtain ⟨v1, v2, v3, v4, v5, v6⟩ := H.valid b hb
    have hs : b.src.toNat < N := by omega
    have hd : b.dst.toNat < N := by omega
    have hle : tget (tableP N t bs) b.src.toNat b.dst.toNat < farI ∧ tget (tableP N t bs) b.src.toNat b.dst.toNat ≤ b.most := by
      rw [hT _ _ hs]
      have hw : Walk (b.src.toNat : Int) (b.dst.toNat : Int) [b] := ⟨by omega, by show b.dst = _; omega⟩
      rcases dist_cases H ht hs hd with ⟨k1, _, k3⟩ | ⟨_, k2⟩
      · have := k3 [b] hw (Over.one hb)
        simp only [wsum] at this
        exact ⟨k1, by omega⟩
      · exact absurd (Over.one hb) (k2 [b] hw)
    have := h1.tri _ _ hs hd (h2 _ hs) (h2 _ hd) hle.1
    unfold getI
    omega
  · have hg : (someStart N (tableP N t bs)).2.getD p false = true := by rw [(someStart_get _ hp).2, nB_true, hT 0 p h0]; exact hd
    rw [(h3 p hp hg).2, (someStart_get _ hp).1, hT 0 p h0, nV_near hd]

end Go.Proofs.YthcmjhellpjllaaGreat

/- Plain law: a value of a point can be attained exactly if it lies in its range. Conditions: a net that was asked for. -/
namespace Go.Proofs.YthcmjhellpjllaaGreat

/-- The two bounds that tie a point to a value. -/
def tie (p : Nat) (v : Int) : List Bd := [⟨0, (p : Int), v, 0⟩, ⟨(p : Int), 0, -v, 0⟩]

/-- Heights through a point that is tied. -/
def upTie (N : Nat) (t r s : List Int) (v : Int) : List Int := (List.range N).map fun x => min (min (r.getD x 0) (v + s.getD x 0)) (600000000000 + t.getD x 0)
theorem upTie_get {N : Nat} {t r s : List Int} {v : Int} {x : Nat} (hx : x < N) : (upTie N t r s v).getD x 0 = min (min (r.getD x 0) (v + s.getD x 0)) (600000000000 + t.getD x 0) := by
  simp [upTie, List.getD_eq_getElem?_getD, hx]

theorem row_step {N : Nat} {bs : List Bd} {r : List Int} {a : Nat} (hrow : DistRow N bs a r) {si di : Nat} {xm xr : Int} (hs : si < N) (hd : di < N) (hx : (⟨si, di, xm, xr⟩ : Bd) ∈ bs) : r.getD di 0 ≤ r.getD si 0 + xm ∨ r.getD si 0 = farI := by
  rcases hrow.2 si hs with ⟨h1, ⟨p, p1, p2, p3⟩, h3⟩ | ⟨h1, _⟩
  · left
    have hw : Walk a di (p ++ [⟨si, di, xm, xr⟩]) := p1.trans ⟨rfl, rfl⟩
    have ho : Over bs (p ++ [⟨si, di, xm, xr⟩]) := p2.append (Over.one hx)
    rcases hrow.2 di hd with ⟨k1, _, k3⟩ | ⟨_, k2⟩
    · have := k3 _ hw ho
      rw [wsum_append] at this
      simp only [wsum] at this
      omega
    · exact absurd ho (k2 _ hw)
  · exact .inr h1

theorem tie_pot {N : Nat} {bs : List Bd} {t : List Int} (H : NetOk N bs t) {p : Nat} (hp : p < N) {v : Int} (v1 : -1000000 ≤ v) (v2 : v ≤ 1000000)
    (h1 : v ≤ (distP N t bs 0).getD p 0) (h2 : 0 ≤ v + (distP N t bs p).getD 0 0) : Pot (upTie N t (distP N t bs 0) (distP N t bs p) v) (bs ++ tie p v) := by
  have h0 : 0 < N := H.n0
  have hr0 := H.row (a := 0) h0
  have hrp := H.row (a := p) hp
  have hb0 := fun x (hx : x < N) => H.row_bd (a := 0) h0 hx
  have hbp := fun x (hx : x < N) => H.row_bd (a := p) hp hx
  simp only [Int.natCast_zero] at hr0 hb0
  have self : ∀ (a : Nat) (r : List Int), a < N → DistRow N bs a r → r.getD a 0 ≤ 0 := by
    intro a r ha hr
    rcases hr.2 a ha with ⟨_, _, h3⟩ | ⟨_, h2⟩
    · exact h3 [] rfl Over.nil
    · exact absurd Over.nil (h2 [] rfl)
  have nonneg : ∀ (a : Nat) (r : List Int), a < N → DistRow N bs a r → 0 ≤ r.getD a 0 := by
    intro a r ha hr
    rcases hr.2 a ha with ⟨_, ⟨q, q1, q2, q3⟩, _⟩ | ⟨h1, _⟩
    · have := H.noNeg _ q q1 q2; omega
    · rw [h1]; unfold farI; omega
  have s0 := self 0 _ h0 hr0
  have sp := self p _ hp hrp
  have n0 := nonneg 0 _ h0 hr0
  have np := nonneg p _ hp hrp
  obtain ⟨r, hr⟩ : ∃ r, distP N t bs 0 = r := ⟨_, rfl⟩
  obtain ⟨s, hs⟩ : ∃ s, distP N t bs (p : Int) = s := ⟨_, rfl⟩
  rw [hr] at hr0 hb0 h1 s0 n0 ⊢
  rw [hs] at hrp hbp h2 sp np ⊢
  have hlow := H.low
  intro x hx
  rcases List.mem_append.1 hx with hx | hx
  · obtain ⟨w1, w2, w3, w4, w5, w6⟩ := H.valid x hx
    have hpt := H.pot x hx
    obtain ⟨xs, xd, xm, xr⟩ := x
    simp only at w1 w2 w3 w4 w5 w6 hpt ⊢
    obtain ⟨si, rfl⟩ := Int.eq_ofNat_of_zero_le w1
    obtain ⟨di, rfl⟩ := Int.eq_ofNat_of_zero_le w3
    have hsi : si < N := by omega
    have hdi : di < N := by omega
    rw [← getD_eq_getI, ← getD_eq_getI] at hpt ⊢
    rw [upTie_get hsi, upTie_get hdi]
    have k1 := row_step hr0 hsi hdi hx
    have k2 := row_step hrp hsi hdi hx
    have l1 := hlow si
    have l2 := hlow di
    have b1 := hb0 di hdi
    have b2 := hbp di hdi
    unfold farI at k1 k2
    omega
  · have l1 := hlow 0
    have l2 := hlow p
    have e0 : getI (upTie N t r s v) 0 = 0 := by
      have := getD_eq_getI (upTie N t r s v) 0
      simp only [Int.natCast_zero] at this
      rw [← this, upTie_get h0]; omega
    have ep : getI (upTie N t r s v) (p : Int) = v := by
      rw [← getD_eq_getI, upTie_get hp]; omega
    simp only [tie, List.mem_cons, List.not_mem_nil, or_false] at hx
    rcases hx with rfl | rfl
    · simp only; rw [e0, ep]; omega
    · simp only; rw [e0, ep]; omega

/-- THE LAW: with a point tied to a value a system can be kept exactly if the value lies between the distances. -/
theorem tie_iff {N : Nat} {bs : List Bd} {t : List Int} (H : NetOk N bs t) (ht : openedP N bs = some t) {p : Nat} (hp : p < N) {v : Int} (v1 : -1000000 ≤ v) (v2 : v ≤ 1000000) :
    keptP N (bs ++ tie p v) = true ↔ v ≤ distN N bs 0 p ∧ 0 ≤ v + distN N bs p 0 := by
  have h0 : 0 < N := H.n0
  have hval : AllValid N (bs ++ tie p v) := by
    intro x hx
    rcases List.mem_append.1 hx with h | h
    · exact H.valid x h
    · simp only [tie, List.mem_cons, List.not_mem_nil, or_false] at h
      rcases h with rfl | rfl <;> refine ⟨?_, ?_, ?_, ?_, ?_, ?_⟩ <;> simp only <;> omega
  have e1 : distN N bs 0 p = (distP N t bs 0).getD p 0 := by unfold distN; rw [heightsP_of ht]; rfl
  have e2 : distN N bs p 0 = (distP N t bs p).getD 0 0 := by unfold distN; rw [heightsP_of ht]
  rw [keptP_iff H.n1 hval]
  constructor
  · intro hn
    have m1 : (⟨0, (p : Int), v, 0⟩ : Bd) ∈ bs ++ tie p v := List.mem_append_right _ (by simp [tie])
    have m2 : (⟨(p : Int), 0, -v, 0⟩ : Bd) ∈ bs ++ tie p v := List.mem_append_right _ (by simp [tie])
    constructor
    · rcases dist_cases H ht h0 hp with ⟨_, ⟨q, q1, q2, q3⟩, _⟩ | ⟨k, _⟩
      · have := hn _ (q ++ [⟨(p : Int), 0, -v, 0⟩]) (q1.snoc ⟨(p : Int), 0, -v, 0⟩ rfl) ((q2.mono (fun x hx => List.mem_append_left _ hx)).append (Over.one m2))
        rw [wsum_append] at this
        simp only [wsum] at this
        omega
      · rw [k]; unfold farI; omega
    · rcases dist_cases H ht hp h0 with ⟨_, ⟨q, q1, q2, q3⟩, _⟩ | ⟨k, _⟩
      · have := hn _ (q ++ [⟨0, (p : Int), v, 0⟩]) (q1.snoc ⟨0, (p : Int), v, 0⟩ rfl) ((q2.mono (fun x hx => List.mem_append_left _ hx)).append (Over.one m1))
        rw [wsum_append] at this
        simp only [wsum] at this
        omega
      · rw [k]; unfold farI; omega
  · rintro ⟨h1, h2⟩
    exact noNeg_of_pot (tie_pot H hp v1 v2 (by rw [← e1]; exact h1) (by rw [← e2]; exact h2))

/-- The distance to a point that is tied. -/
theorem tie_dist {N : Nat} {bs : List Bd} {t : List Int} {p : Nat} {v : Int} (K : NetOk N (bs ++ tie p v) t) (ht : openedP N (bs ++ tie p v) = some t) (hp : p < N) : distN N (bs ++ tie p v) 0 p = v := by
  have h0 : 0 < N := K.n0
  have m1 : (⟨0, (p : Int), v, 0⟩ : Bd) ∈ bs ++ tie p v := List.mem_append_right _ (by simp [tie])
  have m2 : (⟨(p : Int), 0, -v, 0⟩ : Bd) ∈ bs ++ tie p v := List.mem_append_right _ (by simp [tie])
  have hw : Walk ((0 : Nat) : Int) (p : Int) [⟨0, (p : Int), v, 0⟩] := ⟨rfl, rfl⟩
  rcases dist_cases K ht h0 hp with ⟨_, ⟨q, q1, q2, q3⟩, k3⟩ | ⟨_, k2⟩
  · have e1 := k3 [⟨0, (p : Int), v, 0⟩] hw (Over.one m1)
    have e2 := K.noNeg _ (q ++ [⟨(p : Int), 0, -v, 0⟩]) (q1.snoc ⟨(p : Int), 0, -v, 0⟩ rfl) (q2.append (Over.one m2))
    rw [wsum_append] at e2
    simp only [wsum] at e1 e2
    omega
  · exact absurd (Over.one m1) (k2 _ hw)

end Go.Proofs.YthcmjhellpjllaaGreat

/- Plain laws: the reference's way of following rows of sums finds the lists that the program finds: Path, Circle. Conditions: valid bounds, at most 128 points. -/
namespace Go.Proofs.YthcmjhellpjllaaGreat

theorem find_congr {α : Type} {p q : α → Bool} : ∀ {l : List α}, (∀ x ∈ l, p x = q x) → l.find? p = l.find? q
  | [], _ => rfl
  | x :: l, h => by
    simp only [List.find?_cons, h x (List.mem_cons_self ..)]
    rw [find_congr (fun y hy => h y (List.mem_cons_of_mem _ hy))]

/-- The reference's test of one bound. -/
def fitsR (bs : List Bd) (f : Nat → List Fr) (k : Nat) (at_ left : Int) (i : Nat) : Bool :=
  (bs.getD i bd0).src == at_ && ((f k).getD (bs.getD i bd0).dst.toNat fr0).ok && decide ((bs.getD i bd0).most + ((f k).getD (bs.getD i bd0).dst.toNat fr0).s ≤ left)
/-- The reference's follow. -/
def followR (bs : List Bd) (f : Nat → List Fr) (ks : List Nat) : Nat → Int → Int → List Int → List Int
  | 0, _, _, acc => acc
  | k + 1, at_, left, acc =>
    match ks.find? (fitsR bs f k at_ left) with
    | none => followR bs f ks k at_ left acc
    | some i => followR bs f ks k (bs.getD i bd0).dst (left - (bs.getD i bd0).most) (acc ++ [(i : Int)])

theorem followR_len (bs : List Bd) (f : Nat → List Fr) (ks : List Nat) : ∀ k at_ left acc, (followR bs f ks k at_ left acc).length ≤ acc.length + k
  | 0, _, _, acc => Nat.le_refl _
  | k + 1, at_, left, acc => by
    simp only [followR]
    split
    · have := followR_len bs f ks k at_ left acc; omega
    · rename_i i _
      have := followR_len bs f ks k (bs.getD i bd0).dst (left - (bs.getD i bd0).most) (acc ++ [(i : Int)])
      simp only [List.length_append, List.length_singleton] at this; omega

theorem follow_same {bs : List Bd} {f : Nat → List Fr} {ks : List Nat} {gd : Int → Int → Int → Bool} {lim : Int} (P : Nat → Int → Int → Prop)
    (h1 : ∀ k at_ sum, P (k + 1) at_ sum → ∀ i ∈ ks, fits bs gd k at_ sum i = fitsR bs f k at_ (lim - sum) i)
    (h2 : ∀ k at_ sum, P (k + 1) at_ sum → ∃ i ∈ ks, fits bs gd k at_ sum i = true)
    (h3 : ∀ k at_ sum i, P (k + 1) at_ sum → i ∈ ks → fits bs gd k at_ sum i = true → P k (bs.getD i bd0).dst (sum + (bs.getD i bd0).most)) :
    ∀ (many : Nat) (at_ sum : Int) (acc : List Int), P many at_ sum → followGo bs ks gd many at_ sum acc = some (followR bs f ks many at_ (lim - sum) acc)
  | 0, _, _, _, _ => rfl
  | k + 1, at_, sum, acc, hP => by
    simp only [followGo, followR]
    rw [find_congr (h1 k at_ sum hP)]
    cases hf : ks.find? (fitsR bs f k at_ (lim - sum)) with
    | none =>
      obtain ⟨i, hi, hx⟩ := h2 k at_ sum hP
      rw [h1 k at_ sum hP i hi] at hx
      exact absurd hx (List.find?_eq_none.1 hf i hi)
    | some i =>
      have hi := List.mem_of_find?_eq_some hf
      have hx := List.find?_some hf
      have := follow_same (lim := lim) P h1 h2 h3 k (bs.getD i bd0).dst (sum + (bs.getD i bd0).most) (acc ++ [(i : Int)]) (h3 k at_ sum i hP hi (by rw [h1 k at_ sum hP i hi]; exact hx))
      simp only
      rw [this, show lim - sum - (bs.getD i bd0).most = lim - (sum + (bs.getD i bd0).most) by omega]

/-- A list of bounds by their indices. -/
theorem mem_selB' {bs : List Bd} {ks : List Nat} {x : Bd} (h : x ∈ selB bs ks) : ∃ i ∈ ks, bs.getD i bd0 = x := by
  simp only [selB, List.mem_map] at h; exact h
theorem selB_mem {bs : List Bd} {ks : List Nat} {i : Nat} (h : i ∈ ks) : bs.getD i bd0 ∈ selB bs ks := by
  simp only [selB, List.mem_map]; exact ⟨i, h, rfl⟩

/-- What a row says of a point. -/
theorem row_le {N : Nat} {l : List Bd} {to k : Nat} (hN : N ≤ 128) (hto : to < N) (hv : AllValid N l) (hk : k ≤ 129) {v : Nat} (hvN : v < N) {p : List Bd} (h1 : Walk v to p) (h2 : Over l p) (h3 : p.length = k) : (walkRow l to k).getD v 0 < farI ∧ (walkRow l to k).getD v 0 ≤ wsum p := by
  rcases walkRow_k hN hto hv k hk v hvN with ⟨a, b⟩ | ⟨_, b⟩
  · exact ⟨a, b.2 p h1 h2 h3⟩
  · exact absurd h3 (b p h1 h2)
theorem row_at {N : Nat} {l : List Bd} {to k : Nat} (hN : N ≤ 128) (hto : to < N) (hv : AllValid N l) (hk : k ≤ 129) {v : Nat} (hvN : v < N) (h : (walkRow l to k).getD v 0 < farI) : ∃ p, Walk v to p ∧ Over l p ∧ p.length = k ∧ wsum p = (walkRow l to k).getD v 0 := by
  rcases walkRow_k hN hto hv k hk v hvN with ⟨a, b⟩ | ⟨a, _⟩
  · obtain ⟨p, p1, p2, p3, p4⟩ := b.1
    exact ⟨p, p1, p2, p3, p4⟩
  · omega
theorem row_steps {N : Nat} {l : List Bd} {to k : Nat} (hN : N ≤ 128) (hto : to < N) (hv : AllValid N l) (hk : k ≤ 129) {v : Nat} (hvN : v < N) :
    ((walkRow l to k).getD v 0 < farI ∧ (stepsRow N l to k).getD v fr0 = ⟨(walkRow l to k).getD v 0, true⟩) ∨ (¬ (walkRow l to k).getD v 0 < farI ∧ ((stepsRow N l to k).getD v fr0).ok = false) := by
  rcases (stepsRow_same hN hto hv k hk).2 v hvN with h | ⟨a, b⟩
  · exact .inl h
  · exact .inr ⟨by omega, b⟩

/-- A test of a sum, by the two ways of writing rows. -/
theorem gd_fr {N : Nat} {l : List Bd} {to k : Nat} (hN : N ≤ 128) (hto : to < N) (hv : AllValid N l) (hk : k ≤ 129) {v : Nat} (hvN : v < N) (c : Int → Bool) :
    (decide ((walkRow l to k).getD v 0 < 1125899906842624) && c ((walkRow l to k).getD v 0)) = (((stepsRow N l to k).getD v fr0).ok && c ((stepsRow N l to k).getD v fr0).s) := by
  rcases row_steps hN hto hv hk hvN with ⟨a, b⟩ | ⟨a, b⟩
  · unfold farI at a; rw [b, decide_eq_true a]
  · unfold farI at a; rw [b, decide_eq_false a]; rfl

/-- THE LAW of Path: the list. -/
theorem path_followGo {N : Nat} {bs : List Bd} {t : List Int} (HO : NetOk N bs t) (ht : openedP N bs = some t) {a b : Nat} (ha : a < N) (hb : b < N) (hd : distN N bs a b < farI) {m : Nat} (hm : m ≤ N) (hr : (walkRow bs b m).getD a 0 = distN N bs a b) :
    followGo bs (passes allT bs.length) (gdRows (walksP bs b N) (distN N bs a b)) m a 0 [] = some (followR bs (stepsRow N bs b) (passes allT bs.length) m a (distN N bs a b) []) := by
  have hN := HO.n1
  have hv := HO.valid
  obtain ⟨d, hdd⟩ : ∃ d, distN N bs a b = d := ⟨_, rfl⟩
  have hlow : ∀ p, Walk a b p → Over bs p → d ≤ wsum p := by
    have h2 := (HO.row ha).2 b hb
    have e : (distP N t bs a).getD b 0 = d := by rw [← hdd]; unfold distN; rw [heightsP_of ht]
    rw [e] at h2
    rcases h2 with ⟨_, q⟩ | ⟨q, _⟩
    · exact q.2
    · omega
  rw [hdd] at hd hr ⊢
  have hmem : ∀ i ∈ passes allT bs.length, bs.getD i bd0 ∈ bs := fun i hi => by have := selB_mem (bs := bs) hi; rwa [selB_all] at this
  let P : Nat → Int → Int → Prop := fun k at_ sum => k ≤ N ∧ (∃ p, Walk a at_ p ∧ Over bs p ∧ wsum p = sum) ∧ ∃ q, Walk at_ b q ∧ Over bs q ∧ q.length = k ∧ sum + wsum q = d
  have hget : ∀ k, k ≤ N → (walksP bs b N).getD k [] = walkRow bs b k := fun k hk => walksP_get bs b N hk
  have fit : ∀ k at_ sum, P (k + 1) at_ sum → ∀ i ∈ passes allT bs.length, fits bs (gdRows (walksP bs b N) d) k at_ sum i = fitsR bs (stepsRow N bs b) k at_ (d - sum) i := by
    rintro k at_ sum ⟨hk, ⟨p, p1, p2, p3⟩, _⟩ i hi
    obtain ⟨x, hx⟩ : ∃ x, bs.getD i bd0 = x := ⟨_, rfl⟩
    have hxm := hmem i hi
    unfold fits fitsR gdRows
    rw [hx] at hxm ⊢
    obtain ⟨v1, v2, v3, v4, v5, v6⟩ := hv x hxm
    by_cases hs : x.src = at_
    · have e1 : (x.src == at_) = true := by simpa using hs
      rw [e1, Bool.true_and, Bool.true_and, Int.toNat_natCast, hget k (by omega)]
      unfold getI
      rw [gd_fr hN hb hv (by omega) (by omega : x.dst.toNat < N) (fun s => sum + x.most + s == d)]
      rcases row_steps hN hb hv (k := k) (by omega) (by omega : x.dst.toNat < N) with ⟨r1, r2⟩ | ⟨_, r2⟩
      · rw [r2]
        simp only [Bool.true_and]
        obtain ⟨q, q1, q2, q3, q4⟩ := row_at hN hb hv (by omega) (by omega : x.dst.toNat < N) r1
        have hdst : ((x.dst.toNat : Nat) : Int) = x.dst := Int.toNat_of_nonneg v3
        rw [hdst] at q1
        have := hlow (p ++ x :: q) (p1.more x hs q1) (p2.append (Over.cons hxm q2))
        rw [wsum_append] at this
        simp only [wsum] at this
        rw [Bool.eq_iff_iff]
        simp only [beq_iff_eq, decide_eq_true_eq]
        omega
      · rw [r2]; rfl
    · have e1 : (x.src == at_) = false := by simpa using hs
      rw [e1]; rfl
  have one : ∀ k at_ sum x q, k + 1 ≤ N → x ∈ bs → x.src = at_ → (∃ p, Walk a at_ p ∧ Over bs p ∧ wsum p = sum) → Walk x.dst b q → Over bs q → q.length = k → sum + x.most + wsum q = d →
      (walkRow bs b k).getD x.dst.toNat 0 < farI ∧ sum + x.most + (walkRow bs b k).getD x.dst.toNat 0 = d := by
    rintro k at_ sum x q hk hx hs ⟨p, p1, p2, p3⟩ q1 q2 q3 q4
    obtain ⟨v1, v2, v3, v4, v5, v6⟩ := hv x hx
    have hdst : ((x.dst.toNat : Nat) : Int) = x.dst := Int.toNat_of_nonneg v3
    have hr := row_le hN hb hv (k := k) (by omega) (by omega : x.dst.toNat < N) (p := q) (by rw [hdst]; exact q1) q2 q3
    obtain ⟨r, r1, r2, r3, r4⟩ := row_at hN hb hv (by omega) (by omega : x.dst.toNat < N) hr.1
    rw [hdst] at r1
    have := hlow (p ++ x :: r) (p1.more x hs r1) (p2.append (Over.cons hx r2))
    rw [wsum_append] at this
    simp only [wsum] at this
    exact ⟨hr.1, by omega⟩
  have ex : ∀ k at_ sum, P (k + 1) at_ sum → ∃ i ∈ passes allT bs.length, fits bs (gdRows (walksP bs b N) d) k at_ sum i = true := by
    rintro k at_ sum ⟨hk, hp, q, q1, q2, q3, q4⟩
    cases q with
    | nil => simp at q3
    | cons x q =>
      obtain ⟨i, hi, hx⟩ := mem_selB' (bs := bs) (ks := passes allT bs.length) (x := x) (by rw [selB_all]; exact q2.head)
      refine ⟨i, hi, ?_⟩
      simp only [wsum] at q4
      have h := one k at_ sum x q hk q2.head q1.1 hp q1.2 q2.tail (by simpa using q3) (by omega)
      unfold fits gdRows getI
      rw [hx, Int.toNat_natCast, hget k (by omega)]
      have h1 : ((walkRow bs b k).getD x.dst.toNat 0 < 1125899906842624) := h.1
      rw [beq_iff_eq.2 q1.1, decide_eq_true h1, beq_iff_eq.2 h.2]; rfl
  have st : ∀ k at_ sum i, P (k + 1) at_ sum → i ∈ passes allT bs.length → fits bs (gdRows (walksP bs b N) d) k at_ sum i = true → P k (bs.getD i bd0).dst (sum + (bs.getD i bd0).most) := by
    rintro k at_ sum i ⟨hk, ⟨p, p1, p2, p3⟩, _⟩ hi hf
    obtain ⟨x, hx⟩ : ∃ x, bs.getD i bd0 = x := ⟨_, rfl⟩
    have hxm := hmem i hi
    unfold fits gdRows getI at hf
    rw [hx] at hxm hf ⊢
    obtain ⟨v1, v2, v3, v4, v5, v6⟩ := hv x hxm
    rw [Int.toNat_natCast, hget k (by omega)] at hf
    simp only [Bool.and_eq_true, beq_iff_eq, decide_eq_true_eq] at hf
    obtain ⟨f1, f2, f3⟩ := hf
    have hdst : ((x.dst.toNat : Nat) : Int) = x.dst := Int.toNat_of_nonneg v3
    obtain ⟨r, r1, r2, r3, r4⟩ := row_at hN hb hv (k := k) (by omega) (by omega : x.dst.toNat < N) f2
    rw [hdst] at r1
    refine ⟨by omega, ⟨p ++ [x], p1.snoc x f1, p2.append (Over.one hxm), by rw [wsum_append]; simp [wsum]; omega⟩, r, r1, r2, r3, by omega⟩
  have hP : P m a 0 := by
    obtain ⟨r, r1, r2, r3, r4⟩ := row_at hN hb hv (k := m) (by omega) ha (by omega)
    exact ⟨hm, ⟨[], rfl, Over.nil, rfl⟩, r, r1, r2, r3, by omega⟩
  have := follow_same (lim := d) P fit ex st m a 0 [] hP
  rw [this, Int.sub_zero]

theorem path_follow {N : Nat} {bs : List Bd} {t : List Int} (HO : NetOk N bs t) (ht : openedP N bs = some t) {a b : Nat} (ha : a < N) (hb : b < N) (hd : distN N bs a b < farI) {m : Nat} (hm : m ≤ N) (hr : (walkRow bs b m).getD a 0 = distN N bs a b) :
    followedP bs (passes allT bs.length) (gdRows (walksP bs b N) (distN N bs a b)) a m = followR bs (stepsRow N bs b) (passes allT bs.length) m a (distN N bs a b) [] := by
  unfold followedP
  rw [path_followGo HO ht ha hb hd hm hr]; rfl

/-- A closed walk of k bounds that is negative. -/
def NegK (bs : List Bd) (a : Int) (k : Nat) : Prop := ∃ p, Walk a a p ∧ Over bs p ∧ p.length = k ∧ wsum p < 0

theorem NegK.pos {bs : List Bd} {a : Int} {k : Nat} (h : NegK bs a k) : 1 ≤ k := by
  obtain ⟨p, _, _, p3, p4⟩ := h
  cases p with
  | nil => simp [wsum] at p4
  | cons x p => simp at p3; omega
theorem NegK.range {N : Nat} {bs : List Bd} (hv : AllValid N bs) {a : Int} {k : Nat} (h : NegK bs a k) : 0 ≤ a ∧ a < N := by
  obtain ⟨p, p1, p2, _, p4⟩ := h
  cases p with
  | nil => simp [wsum] at p4
  | cons x p =>
    have := hv x p2.head
    have e := p1.1
    exact ⟨e ▸ this.1, e ▸ this.2.1⟩

theorem row_neg {N : Nat} {bs : List Bd} (hN : N ≤ 128) (hv : AllValid N bs) {a k : Nat} (ha : a < N) (hk : k ≤ 129) : (walkRow bs a k).getD a 0 < 0 ↔ NegK bs a k := by
  constructor
  · intro h
    obtain ⟨p, p1, p2, p3, p4⟩ := row_at hN ha hv hk ha (by unfold farI; omega)
    exact ⟨p, p1, p2, p3, by omega⟩
  · rintro ⟨p, p1, p2, p3, p4⟩
    have := row_le hN ha hv hk ha p1 p2 p3
    omega

theorem idxOf_before {α : Type} {p : α → Bool} {d : α} : ∀ (l : List α) (j : Nat), j < l.length → (idxOf p l < 0 ∨ (j : Int) < idxOf p l) → p (l.getD j d) = false
  | [], j, h, _ => by simp at h
  | x :: l, j, hj, h => by
    cases hx : p x with
    | true => rw [idxOf, if_pos hx] at h; omega
    | false =>
      cases j with
      | zero => simpa using hx
      | succ j =>
        rw [idxOf, if_neg (by rw [hx]; simp)] at h
        have := idxOf_before (d := d) l j (by simpa using hj) (by
          by_cases hn : idxOf p l < 0
          · exact .inl hn
          · rw [if_neg hn] at h; right; omega)
        simpa using this

theorem circK_none {N : Nat} {bs : List Bd} (hN : N ≤ 128) (hv : AllValid N bs) {many a j : Nat} (ha : a < N) (hj : j ≤ min many N) (h : circK bs N many a < 0 ∨ (j : Int) < circK bs N many a) : ¬ NegK bs a j := by
  have := idxOf_before (d := []) (p := fun r : List Int => decide (r.getD a 0 < 0)) (walksP bs a (min many N)) j (by rw [walksP_length]; omega) h
  rw [walksP_get _ _ _ hj] at this
  rw [← row_neg hN hv ha (by omega)]
  simpa using this
theorem circK_some {N : Nat} {bs : List Bd} (hN : N ≤ 128) (hv : AllValid N bs) {many a : Nat} (ha : a < N) (h : 0 ≤ circK bs N many a) : NegK bs a (circK bs N many a).toNat := by
  have h1 := idxOf_hit (d := []) (p := fun r : List Int => decide (r.getD a 0 < 0)) (walksP bs a (min many N)) h
  have h2 : idxOf (fun r : List Int => decide (r.getD a 0 < 0)) (walksP bs a (min many N)) = circK bs N many a := rfl
  have h3 := circK_bd bs N many a
  rw [h2, walksP_get _ _ _ (by omega)] at h1
  rw [← row_neg hN hv ha (by omega)]
  simpa using h1

/-- What stands between two points looked at. -/
theorem circS_inv {N : Nat} {bs : List Bd} (hN : N ≤ 128) (hv : AllValid N bs) : ∀ k, k ≤ N →
    (∀ a j : Nat, a < k → j < (circS bs N k).1 → j ≤ N → ¬ NegK bs a j) ∧ (∀ a : Nat, a < N → ((circS bs N k).2.getD a false = true ↔ a < k ∧ (circS bs N k).1 ≤ N ∧ NegK bs a (circS bs N k).1)) ∧
    ((circS bs N k).1 = N + 1 ∨ ∃ a : Nat, a < k ∧ NegK bs a (circS bs N k).1)
  | 0, _ => by
    refine ⟨fun a j h => by omega, fun a ha => ?_, .inl rfl⟩
    simp only [circS, List.range_zero, List.foldl_nil]
    simp [List.getD_eq_getElem?_getD, ha]
  | k + 1, hk => by
    obtain ⟨h1, h2, h3⟩ := circS_inv hN hv k (by omega)
    obtain ⟨b1, b2, b3⟩ := circS_bd bs N k (by omega) hN
    rw [circS_succ]
    obtain ⟨st, hst⟩ : ∃ st, circS bs N k = st := ⟨_, rfl⟩
    rw [hst] at h1 h2 h3 b1 b2 b3 ⊢
    unfold circA
    by_cases hc : circK bs N st.1 k < 0
    · rw [if_pos hc]
      refine ⟨fun a j ha hj hjN => ?_, fun a ha => ?_, ?_⟩
      · by_cases e : a = k
        · subst e; exact circK_none hN hv (by omega) (by omega) (.inl hc)
        · exact h1 a j (by omega) hj hjN
      · rw [h2 a ha]
        constructor
        · rintro ⟨q1, q2, q3⟩; exact ⟨by omega, q2, q3⟩
        · rintro ⟨q1, q2, q3⟩
          refine ⟨?_, q2, q3⟩
          by_cases e : a = k
          · subst e; exact absurd q3 (circK_none hN hv (by omega) (by omega) (.inl hc))
          · omega
      · rcases h3 with e | ⟨a, ha, e⟩
        · exact .inl e
        · exact .inr ⟨a, by omega, e⟩
    · rw [if_neg hc]
      obtain ⟨c, hcc⟩ : ∃ c : Nat, circK bs N st.1 k = c := Int.eq_ofNat_of_zero_le (by omega)
      have hneg := circK_some hN hv (many := st.1) (a := k) (by omega) (by omega)
      have hbd := circK_bd bs N st.1 k
      have hnone : ∀ j : Nat, j < c → ¬ NegK bs k j := fun j hj => circK_none hN hv (many := st.1) (by omega) (by omega) (.inr (by rw [hcc]; omega))
      rw [hcc, Int.toNat_natCast] at hneg ⊢
      rw [hcc] at hbd
      by_cases hlt : c < st.1
      · rw [if_pos hlt]
        refine ⟨fun a j ha hj hjN => ?_, fun a ha => ?_, .inr ⟨k, by omega, hneg⟩⟩
        · by_cases e : a = k
          · subst e; exact hnone j hj
          · exact h1 a j (by omega) (by simp only at hj; omega) hjN
        · simp only
          rw [getDB_set]
          by_cases e : a = k
          · subst e
            rw [if_pos ⟨rfl, by simpa using ha⟩]
            exact ⟨fun _ => ⟨by omega, by omega, hneg⟩, fun _ => rfl⟩
          · rw [if_neg (fun q => e q.1)]
            constructor
            · intro q; simp [List.getD_eq_getElem?_getD, ha] at q
            · rintro ⟨q1, q2, q3⟩
              exact absurd q3 (h1 a c (by omega) hlt (by omega))
      · rw [if_neg hlt]
        have hec : c = st.1 := by omega
        subst hec
        refine ⟨fun a j ha hj hjN => ?_, fun a ha => ?_, .inr ⟨k, by omega, hneg⟩⟩
        · by_cases e : a = k
          · subst e; exact hnone j hj
          · exact h1 a j (by omega) hj hjN
        · simp only
          rw [getDB_set]
          by_cases e : a = k
          · subst e
            rw [if_pos ⟨rfl, by omega⟩]
            exact ⟨fun _ => ⟨by omega, by omega, hneg⟩, fun _ => rfl⟩
          · rw [if_neg (fun q => e q.1), h2 a ha]
            constructor
            · rintro ⟨q1, q2, q3⟩; exact ⟨by omega, q2, q3⟩
            · rintro ⟨q1, q2, q3⟩; exact ⟨by omega, q2, q3⟩

/-- The least number of bounds of a negative closed walk. -/
def LeastK (bs : List Bd) (M : Nat) : Prop := (∃ a, NegK bs a M) ∧ ∀ a k, NegK bs a k → M ≤ k

theorem least_of {Q : Nat → Prop} : ∀ (n k : Nat), k ≤ n → Q k → ∃ m, Q m ∧ ∀ j, Q j → m ≤ j
  | 0, k, hk, h => ⟨0, by have : k = 0 := by omega
                          subst this; exact h, fun j _ => Nat.zero_le _⟩
  | n + 1, k, hk, h => by
    by_cases hx : ∃ j, j ≤ n ∧ Q j
    · obtain ⟨j, hj, hq⟩ := hx
      exact least_of n j hj hq
    · have e : k = n + 1 := by
        by_cases hk2 : k ≤ n
        · exact absurd ⟨k, hk2, h⟩ hx
        · omega
      subst e
      exact ⟨n + 1, h, fun j hj => by
        by_cases hj2 : j ≤ n
        · exact absurd ⟨j, hj2, hj⟩ hx
        · omega⟩

theorem leastK_of {N : Nat} {bs : List Bd} (hv : AllValid N bs) (hns : ∀ b ∈ bs, b.src ≠ b.dst) (h : ¬ NoNeg bs) : ∃ M, LeastK bs M ∧ 2 ≤ M ∧ M ≤ N := by
  have hex : ∃ k, ∃ a, NegK bs a k := by
    apply Classical.byContradiction
    intro hno
    apply h
    intro a l hw ho
    apply Classical.byContradiction
    intro hlt
    exact hno ⟨l.length, a, l, hw, ho, rfl, by omega⟩
  obtain ⟨k, hk⟩ := hex
  obtain ⟨M, hM, hl⟩ := least_of (Q := fun k => ∃ a, NegK bs a k) k k (Nat.le_refl _) hk
  refine ⟨M, ⟨hM, fun a k h => hl k ⟨a, h⟩⟩, ?_, ?_⟩
  · obtain ⟨a, hn⟩ := hM
    have h1 := hn.pos
    by_cases e : M = 1
    · subst e
      obtain ⟨p, p1, p2, p3, p4⟩ := hn
      match p, p3 with
      | [x], _ =>
        have h1 : x.src = a := p1.1
        have h2 : x.dst = a := p1.2
        exact absurd (h1.trans h2.symm) (hns x p2.head)
    · omega
  · obtain ⟨a, hn⟩ := hM
    have hr := hn.range hv
    obtain ⟨p, p1, p2, p3, p4⟩ := hn
    by_cases hle : M ≤ N
    · exact hle
    · obtain ⟨u, c, q, x, e, hc, h2, h3, h4⟩ := walk_cycle hv hr.1 hr.2 (p1 : Walk a a p) p2 (by omega)
      -- a closed part: it, or the rest, is negative; a part that is the whole holds a shorter one
      have hx : ∃ u c q x, p = u ++ c ++ q ∧ c ≠ [] ∧ Walk a x u ∧ Walk x x c ∧ Walk x a q ∧ c.length < p.length := by
        obtain ⟨u, c, q, x, e, hc, h2, h3, h4⟩ := walk_cycle hv hr.1 hr.2 (walk_split N (by omega : N ≤ p.length) p1).1 (fun y hy => p2 y (List.mem_of_mem_take hy)) (by simp; omega)
        refine ⟨u, c, q ++ p.drop N, x, ?_, hc, h2, h3, h4.trans (walk_split N (by omega : N ≤ p.length) p1).2, ?_⟩
        · rw [← List.append_assoc, ← e, List.take_append_drop]
        · have := congrArg List.length e
          simp at this; omega
      obtain ⟨u, c, q, x, e, hc, h2, h3, h4, hlen⟩ := hx
      subst e
      have hcl : 0 < c.length := List.length_pos_iff.2 hc
      rw [wsum_append, wsum_append] at p4
      by_cases hcn : wsum c < 0
      · have := hl c.length ⟨x, c, h3, p2.left.right, rfl, hcn⟩
        omega
      · have := hl (u ++ q).length ⟨a, u ++ q, h2.trans h4, p2.left.left.append p2.right, rfl, by rw [wsum_append]; omega⟩
        simp at this p3; omega

theorem circS_least {N : Nat} {bs : List Bd} (hN : N ≤ 128) (hv : AllValid N bs) {M : Nat} (hM : LeastK bs M) (hMN : M ≤ N) : (circS bs N N).1 = M ∧ ∀ a : Nat, a < N → ((circS bs N N).2.getD a false = true ↔ NegK bs a M) := by
  obtain ⟨h1, h2, h3⟩ := circS_inv hN hv N (Nat.le_refl _)
  obtain ⟨⟨a, ha⟩, hl⟩ := hM
  have hr := ha.range hv
  have e1 : ¬ M < (circS bs N N).1 := fun hlt => h1 a.toNat M (by omega) hlt hMN (by rw [Int.toNat_of_nonneg hr.1]; exact ha)
  have e : (circS bs N N).1 = M := by
    rcases h3 with e | ⟨b, hb, hn⟩
    · omega
    · have := hl b _ hn; omega
  refine ⟨e, fun b hb => ?_⟩
  rw [h2 b hb, e]
  exact ⟨fun q => q.2.2, fun q => ⟨hb, hMN, q⟩⟩

theorem passes_later (i n : Nat) (hi : i < n) : passes (laterT i) n = (List.range (n - (i + 1))).map (i + 1 + ·) := by
  unfold passes laterT
  rw [show n = (i + 1) + (n - (i + 1)) by omega, List.range_add, List.filter_append]
  rw [List.filter_eq_nil_iff.2 (by intro a ha; have := List.mem_range.1 ha; simp; omega), List.nil_append, List.filter_eq_self.2 (by intro a ha; simp only [List.mem_map, List.mem_range] at ha; obtain ⟨b, _, rfl⟩ := ha; simp; omega)]
  rw [show i + 1 + (n - (i + 1)) - (i + 1) = n - (i + 1) by omega]

theorem selB_later {bs : List Bd} {i : Nat} (hi : i < bs.length) : selB bs (passes (laterT i) bs.length) = bs.drop (i + 1) := by
  rw [passes_later i _ hi]
  apply List.ext_getElem?
  intro j
  simp only [selB, List.map_map, List.getElem?_map, List.getElem?_drop]
  by_cases h : j < bs.length - (i + 1)
  · rw [List.getElem?_range h, List.getElem?_eq_getElem (by omega : i + 1 + j < bs.length)]
    simp [List.getD_eq_getElem?_getD, show i + 1 + j < bs.length by omega]
  · rw [List.getElem?_eq_none (by simp; omega), List.getElem?_eq_none (by omega)]; rfl

/-- A negative closed walk that begins with bound i and goes on over those behind it. -/
def NegFrom (bs : List Bd) (i k : Nat) : Prop := ∃ p, Walk (bs.getD i bd0).dst (bs.getD i bd0).src p ∧ Over (bs.drop (i + 1)) p ∧ p.length = k ∧ (bs.getD i bd0).most + wsum p < 0

theorem NegFrom.neg {bs : List Bd} {i k : Nat} (hi : i < bs.length) (h : NegFrom bs i k) : NegK bs (bs.getD i bd0).src (k + 1) ∧ NegK bs (bs.getD i bd0).dst (k + 1) := by
  obtain ⟨p, p1, p2, p3, p4⟩ := h
  have hm : bs.getD i bd0 ∈ bs := by rw [List.getD_eq_getElem?_getD, List.getElem?_eq_getElem hi]; exact List.getElem_mem hi
  have ho : Over bs p := fun x hx => List.mem_of_mem_drop (p2 x hx)
  refine ⟨⟨_ :: p, ⟨rfl, p1⟩, fun x hx => ?_, by simp [p3], p4⟩, ⟨p ++ [bs.getD i bd0], p1.snoc _ rfl, ho.append (Over.one hm), by simp [p3], by rw [wsum_append]; simp only [wsum]; omega⟩⟩
  rcases List.mem_cons.1 hx with e | e
  · exact e ▸ hm
  · exact ho x e

theorem valid_drop {N : Int} {bs : List Bd} (hv : AllValid N bs) (i : Nat) : AllValid N (bs.drop i) := fun x hx => hv x (List.mem_of_mem_drop hx)

theorem circHit_iff {N : Nat} {bs : List Bd} (hN : N ≤ 128) (hv : AllValid N bs) {M : Nat} (hM : LeastK bs M) (h2 : 2 ≤ M) (hMN : M ≤ N) {i : Nat} (hi : i < bs.length) : circHit bs (circS bs N N) i = true ↔ NegFrom bs i (M - 1) := by
  obtain ⟨e1, e2⟩ := circS_least hN hv hM hMN
  have hm : bs.getD i bd0 ∈ bs := by rw [List.getD_eq_getElem?_getD, List.getElem?_eq_getElem hi]; exact List.getElem_mem hi
  obtain ⟨v1, v2, v3, v4, _, _⟩ := hv _ hm
  have hs : (((bs.getD i bd0).src.toNat : Nat) : Int) = (bs.getD i bd0).src := Int.toNat_of_nonneg v1
  have hd : (((bs.getD i bd0).dst.toNat : Nat) : Int) = (bs.getD i bd0).dst := Int.toNat_of_nonneg v3
  unfold circHit circV circRows
  rw [e1, selB_later hi, walksP_get _ _ _ (Nat.le_refl _)]
  simp only [Bool.and_eq_true, decide_eq_true_eq]
  rw [e2 _ (by omega), e2 _ (by omega), hs, hd]
  have hvd := valid_drop hv (i + 1)
  constructor
  · rintro ⟨_, k1, k2⟩
    obtain ⟨p, p1, p2, p3, p4⟩ := row_at hN (by omega : (bs.getD i bd0).src.toNat < N) hvd (by omega) (by omega : (bs.getD i bd0).dst.toNat < N) k1
    rw [hs, hd] at p1
    exact ⟨p, p1, p2, p3, by omega⟩
  · intro h
    obtain ⟨n1, n2⟩ := h.neg hi
    obtain ⟨p, p1, p2, p3, p4⟩ := h
    rw [show M - 1 + 1 = M by omega] at n1 n2
    have := row_le hN (by omega : (bs.getD i bd0).src.toNat < N) hvd (by omega) (by omega : (bs.getD i bd0).dst.toNat < N) (p := p) (by rw [hs, hd]; exact p1) p2 p3
    exact ⟨⟨n1, n2⟩, this.1, by omega⟩

/-- Some bound begins the walk. -/
theorem negFrom_ex {N : Nat} {bs : List Bd} (_hv : AllValid N bs) {M : Nat} (hM : LeastK bs M) (h2 : 2 ≤ M) : ∃ i, i < bs.length ∧ NegFrom bs i (M - 1) := by
  obtain ⟨⟨a, p, p1, p2, p3, p4⟩, hl⟩ := hM
  have hex : ∃ j : Nat, ∃ x ∈ p, bs[j]? = some x := by
    cases p with
    | nil => simp [wsum] at p4
    | cons x p =>
      obtain ⟨j, hj, e⟩ := List.getElem_of_mem p2.head
      exact ⟨j, x, List.mem_cons_self .., by rw [List.getElem?_eq_getElem hj, e]⟩
  obtain ⟨j0, hj0⟩ := hex
  obtain ⟨i, ⟨x, hx, hi⟩, hmin⟩ := least_of (Q := fun j : Nat => ∃ x ∈ p, bs[j]? = some x) j0 j0 (Nat.le_refl _) hj0
  obtain ⟨hil, _⟩ := List.getElem?_eq_some_iff.1 hi
  have hgd : bs.getD i bd0 = x := by rw [List.getD_eq_getElem?_getD, hi]; rfl
  obtain ⟨u, q, e⟩ := List.append_of_mem hx
  subst e
  obtain ⟨y, y1, y2⟩ := walk_append.1 p1
  have hw : Walk x.dst x.src (q ++ u) := by
    have := y2.1
    subst this
    exact y2.2.trans y1
  have hsum : x.most + wsum (q ++ u) < 0 := by
    rw [wsum_append] at p4 ⊢
    simp only [wsum] at p4
    omega
  refine ⟨i, hil, q ++ u, by rw [hgd]; exact hw, fun z hz => ?_, by simp at p3 ⊢; omega, by rw [hgd]; exact hsum⟩
  have hzp : z ∈ u ++ x :: q := by
    rcases List.mem_append.1 hz with h | h
    · exact List.mem_append_right _ (List.mem_cons_of_mem _ h)
    · exact List.mem_append_left _ h
  -- x itself does not come again
  have hzx : z ≠ x := by
    rintro rfl
    obtain ⟨u2, q2, e⟩ := List.append_of_mem hz
    rw [e] at hw hsum
    obtain ⟨y', z1, z2⟩ := walk_append.1 hw
    have hy' := z2.1
    subst hy'
    have ho : Over bs (q ++ u) := fun w hw' => p2 w (by
      rcases List.mem_append.1 hw' with h | h
      · exact List.mem_append_right _ (List.mem_cons_of_mem _ h)
      · exact List.mem_append_left _ h)
    rw [e] at ho
    have hlen : (u2 ++ z :: q2).length + 1 = M := by rw [← e]; simp at p3 ⊢; omega
    rw [wsum_append] at hsum
    simp only [wsum] at hsum
    simp at hlen
    by_cases hn : z.most + wsum u2 < 0
    · have := hl z.src (u2.length + 1) ⟨z :: u2, ⟨rfl, z1⟩, Over.cons ho.right.head ho.left, by simp, hn⟩
      omega
    · have := hl z.src (q2.length + 1) ⟨z :: q2, ⟨rfl, z2.2⟩, ho.right, by simp, by simp only [wsum]; omega⟩
      omega
  obtain ⟨j, hj, ej⟩ := List.getElem_of_mem (p2 z hzp)
  have h1 := hmin j ⟨z, hzp, by rw [List.getElem?_eq_getElem hj, ej]⟩
  have h3 : j ≠ i := by
    rintro rfl
    rw [List.getElem?_eq_getElem hj, ej] at hi
    exact hzx (Option.some.inj hi)
  have : z = (bs.drop (i + 1))[j - (i + 1)]'(by simp; omega) := by
    rw [List.getElem_drop]
    rw [← ej]
    congr 1; omega
  rw [this]
  exact List.getElem_mem _

/-- The reference's number for one bound. -/
def refOk (N : Nat) (bs : List Bd) (i k : Nat) : Bool :=
  ((stepsRow N (bs.drop (i + 1)) (bs.getD i bd0).src.toNat k).getD (bs.getD i bd0).dst.toNat fr0).ok && decide ((bs.getD i bd0).most + ((stepsRow N (bs.drop (i + 1)) (bs.getD i bd0).src.toNat k).getD (bs.getD i bd0).dst.toNat fr0).s < 0)
def refK (N : Nat) (bs : List Bd) (i : Nat) : Option Nat := ((List.range (N - 1)).map (· + 1)).find? (refOk N bs i)
def refStep (N : Nat) (bs : List Bd) (i : Nat) (st : Nat × Nat) : Nat × Nat :=
  match refK N bs i with
  | none => st
  | some k => if st.1 = 0 ∨ k + 1 ≤ st.1 then (k + 1, i) else st
/-- The reference's search: from the last bound to the first. -/
def refGo (N : Nat) (bs : List Bd) : Nat → Nat × Nat → Nat × Nat
  | 0, st => st
  | i + 1, st => refGo N bs i (refStep N bs i st)
def refRest (N : Nat) (bs : List Bd) (st : Nat × Nat) : List Int :=
  followR bs (stepsRow N (bs.drop (st.2 + 1)) (bs.getD st.2 bd0).src.toNat) (passes (laterT st.2) bs.length) (st.1 - 1) (bs.getD st.2 bd0).dst (-1 - (bs.getD st.2 bd0).most) []
def refCircle (N : Nat) (bs : List Bd) : List Int := ((refGo N bs bs.length (0, 0)).2 : Int) :: refRest N bs (refGo N bs bs.length (0, 0))

theorem refOk_iff {N : Nat} {bs : List Bd} (hN : N ≤ 128) (hv : AllValid N bs) {i k : Nat} (hi : i < bs.length) (hk : k ≤ 129) : refOk N bs i k = true ↔ NegFrom bs i k := by
  have hm : bs.getD i bd0 ∈ bs := by rw [List.getD_eq_getElem?_getD, List.getElem?_eq_getElem hi]; exact List.getElem_mem hi
  obtain ⟨v1, v2, v3, v4, _, _⟩ := hv _ hm
  have hs : (((bs.getD i bd0).src.toNat : Nat) : Int) = (bs.getD i bd0).src := Int.toNat_of_nonneg v1
  have hd : (((bs.getD i bd0).dst.toNat : Nat) : Int) = (bs.getD i bd0).dst := Int.toNat_of_nonneg v3
  have hvd := valid_drop hv (i + 1)
  unfold refOk
  rcases row_steps hN (by omega : (bs.getD i bd0).src.toNat < N) hvd hk (by omega : (bs.getD i bd0).dst.toNat < N) with ⟨r1, r2⟩ | ⟨r1, r2⟩
  · rw [r2]
    simp only [Bool.true_and, decide_eq_true_eq]
    constructor
    · intro h
      obtain ⟨p, p1, p2, p3, p4⟩ := row_at hN (by omega : (bs.getD i bd0).src.toNat < N) hvd hk (by omega : (bs.getD i bd0).dst.toNat < N) r1
      rw [hs, hd] at p1
      exact ⟨p, p1, p2, p3, by omega⟩
    · rintro ⟨p, p1, p2, p3, p4⟩
      have := row_le hN (by omega : (bs.getD i bd0).src.toNat < N) hvd hk (by omega : (bs.getD i bd0).dst.toNat < N) (p := p) (by rw [hs, hd]; exact p1) p2 p3
      omega
  · rw [r2]
    simp only [Bool.false_and, Bool.false_eq_true, false_iff]
    rintro ⟨p, p1, p2, p3, p4⟩
    exact r1 (row_le hN (by omega : (bs.getD i bd0).src.toNat < N) hvd hk (by omega : (bs.getD i bd0).dst.toNat < N) (p := p) (by rw [hs, hd]; exact p1) p2 p3).1

theorem find_up {p : Nat → Bool} : ∀ (n : Nat) {k : Nat}, ((List.range n).map (· + 1)).find? p = some k → p k = true ∧ 1 ≤ k ∧ k ≤ n ∧ ∀ j, 1 ≤ j → j < k → p j = false
  | 0, k, h => by simp at h
  | n + 1, k, h => by
    rw [List.range_succ, List.map_append, List.find?_append] at h
    cases hq : ((List.range n).map (· + 1)).find? p with
    | some m =>
      rw [hq] at h
      simp at h
      subst h
      obtain ⟨a, b, c, d⟩ := find_up n hq
      exact ⟨a, b, by omega, d⟩
    | none =>
      rw [hq] at h
      simp only [List.map_cons, List.map_nil, List.find?_cons, List.find?_nil, Option.none_or] at h
      split at h
      · rename_i hp
        simp at h
        subst h
        refine ⟨hp, by omega, Nat.le_refl _, fun j h1 h2 => ?_⟩
        have := List.find?_eq_none.1 hq j (by simp only [List.mem_map, List.mem_range]; exact ⟨j - 1, by omega, by omega⟩)
        simpa using this
      · simp at h
theorem find_up_none {p : Nat → Bool} {n : Nat} (h : ((List.range n).map (· + 1)).find? p = none) {j : Nat} (h1 : 1 ≤ j) (h2 : j ≤ n) : p j = false := by
  have := List.find?_eq_none.1 h j (by simp only [List.mem_map, List.mem_range]; exact ⟨j - 1, by omega, by omega⟩)
  simpa using this

/-- What the search keeps: nothing found, or a number no less than the least one, at a bound that has it; the first bound that has the least one, once it was looked at. -/
structure RInv (bs : List Bd) (M j : Nat) (st : Nat × Nat) : Prop where
  no : st.1 = 0 → ∀ i, j ≤ i → i < bs.length → ¬ NegFrom bs i (M - 1)
  ge : st.1 ≠ 0 → M ≤ st.1
  hit : st.1 = M → j ≤ st.2 ∧ st.2 < bs.length ∧ NegFrom bs st.2 (M - 1)
  first : ∀ i, j ≤ i → i < bs.length → NegFrom bs i (M - 1) → st.1 = M ∧ st.2 ≤ i

theorem refGo_inv {N : Nat} {bs : List Bd} (hN : N ≤ 128) (hv : AllValid N bs) {M : Nat} (hM : LeastK bs M) (h2 : 2 ≤ M) (hMN : M ≤ N) : ∀ (j : Nat) (st : Nat × Nat), j ≤ bs.length → RInv bs M j st → RInv bs M 0 (refGo N bs j st)
  | 0, st, _, H => H
  | j + 1, st, hj, H => by
    refine refGo_inv hN hv hM h2 hMN j _ (by omega) ?_
    have hmin : ∀ k, k ≤ 129 → refOk N bs j k = true → M ≤ k + 1 := fun k hk h => hM.2 _ _ (((refOk_iff hN hv (by omega) hk).1 h).neg (by omega)).1
    unfold refStep
    cases hq : refK N bs j with
    | none =>
      have hno : ¬ NegFrom bs j (M - 1) := fun h => by
        have := find_up_none hq (j := M - 1) (by omega) (by omega)
        rw [(refOk_iff hN hv (by omega) (by omega)).2 h] at this
        simp at this
      show RInv bs M j st
      refine ⟨fun e i h1 h3 => ?_, H.ge, fun e => ?_, fun i h1 h3 h4 => ?_⟩
      · by_cases e2 : i = j
        · subst e2; exact hno
        · exact H.no e i (by omega) h3
      · have := H.hit e; exact ⟨by omega, this.2⟩
      · by_cases e2 : i = j
        · subst e2; exact absurd h4 hno
        · exact H.first i (by omega) h3 h4
    | some k =>
      obtain ⟨f1, f2, f3, f4⟩ := find_up _ hq
      have hk := hmin k (by omega) f1
      have hneg := (refOk_iff hN hv (by omega) (by omega)).1 f1
      -- if j has the least number, it is k + 1
      have hkj : NegFrom bs j (M - 1) → k + 1 = M := fun h => by
        have h3 := (refOk_iff hN hv (by omega : j < bs.length) (by omega)).2 h
        by_cases e : M - 1 < k
        · rw [f4 (M - 1) (by omega) e] at h3; simp at h3
        · omega
      simp only
      split
      · rename_i hle
        refine ⟨fun e => by simp at e, fun _ => hk, fun e => ?_, fun i h1 h3 h4 => ?_⟩
        · simp only at e
          refine ⟨Nat.le_refl _, by omega, ?_⟩
          rw [show M - 1 = k by omega]; exact hneg
        · by_cases e2 : i = j
          · subst e2; exact ⟨hkj h4, Nat.le_refl _⟩
          · have := H.first i (by omega) h3 h4
            simp only
            omega
      · rename_i hle
        refine ⟨fun e => by omega, H.ge, fun e => ?_, fun i h1 h3 h4 => ?_⟩
        · have := H.hit e; exact ⟨by omega, this.2⟩
        · by_cases e2 : i = j
          · subst e2
            have := hkj h4
            have := H.ge (by omega)
            omega
          · exact H.first i (by omega) h3 h4

theorem circle_first {N : Nat} {bs : List Bd} (hN : N ≤ 128) (hv : AllValid N bs) {M : Nat} (hM : LeastK bs M) (h2 : 2 ≤ M) (hMN : M ≤ N) :
    ∃ i, i < bs.length ∧ NegFrom bs i (M - 1) ∧ refGo N bs bs.length (0, 0) = (M, i) ∧ (List.range bs.length).find? (circHit bs (circS bs N N)) = some i := by
  have H := refGo_inv hN hv hM h2 hMN bs.length (0, 0) (Nat.le_refl _) ⟨fun _ i h1 h3 => by omega, fun e => by simp at e, fun e => by simp at e; omega, fun i h1 h3 => by omega⟩
  obtain ⟨i0, hi0, hn0⟩ := negFrom_ex hv hM h2
  obtain ⟨e1, _⟩ := H.first i0 (Nat.zero_le _) hi0 hn0
  obtain ⟨_, hl, hn⟩ := H.hit e1
  obtain ⟨st, hst⟩ : ∃ st, refGo N bs bs.length (0, 0) = st := ⟨_, rfl⟩
  rw [hst] at H e1 hl hn ⊢
  refine ⟨st.2, hl, hn, by rw [← e1], find_range_some hl (fun k hk => ?_) ((circHit_iff hN hv hM h2 hMN hl).2 hn)⟩
  cases hc : circHit bs (circS bs N N) k with
  | false => rfl
  | true =>
    have := (H.first k (Nat.zero_le _) (by omega) ((circHit_iff hN hv hM h2 hMN (by omega)).1 hc)).2
    omega

theorem circle_followGo {N : Nat} {bs : List Bd} (hN : N ≤ 128) (hv : AllValid N bs) {M i : Nat} (h2 : 2 ≤ M) (hMN : M ≤ N) (hi : i < bs.length) (hn : NegFrom bs i (M - 1)) : followGo bs (passes (laterT i) bs.length) (gdCirc (circRows bs M i) (bs.getD i bd0).most) (M - 1) (bs.getD i bd0).dst 0 [] = some (refRest N bs (M, i)) := by
  have hm : bs.getD i bd0 ∈ bs := by rw [List.getD_eq_getElem?_getD, List.getElem?_eq_getElem hi]; exact List.getElem_mem hi
  obtain ⟨y, hy⟩ : ∃ y, bs.getD i bd0 = y := ⟨_, rfl⟩
  unfold refRest circRows
  unfold NegFrom at hn
  rw [selB_later hi]
  simp only
  rw [hy] at hm hn ⊢
  obtain ⟨v1, v2, v3, v4, _, _⟩ := hv _ hm
  obtain ⟨sN, hs⟩ := Int.eq_ofNat_of_zero_le v1
  have hsN : sN < N := by omega
  rw [hs] at hn ⊢
  rw [Int.toNat_natCast]
  have hvd := valid_drop hv (i + 1)
  obtain ⟨L, hL⟩ : ∃ L, bs.drop (i + 1) = L := ⟨_, rfl⟩
  have hsel := selB_later hi
  rw [hL] at hvd hn hsel ⊢
  have hmem : ∀ j ∈ passes (laterT i) bs.length, bs.getD j bd0 ∈ L := fun j hj => by have := selB_mem (bs := bs) hj; rwa [hsel] at this
  let P : Nat → Int → Int → Prop := fun k at_ sum => k ≤ M - 1 ∧ ∃ q, Walk at_ sN q ∧ Over L q ∧ q.length = k ∧ y.most + sum + wsum q < 0
  have hget : ∀ k, k ≤ M - 1 → (walksP L sN (M - 1)).getD k [] = walkRow L sN k := fun k hk => walksP_get L sN (M - 1) hk
  have fit : ∀ k at_ sum, P (k + 1) at_ sum → ∀ j ∈ passes (laterT i) bs.length, fits bs (gdCirc (walksP L sN (M - 1)) y.most) k at_ sum j = fitsR bs (stepsRow N L sN) k at_ (-1 - y.most - sum) j := by
    rintro k at_ sum ⟨hk, _⟩ j hj
    obtain ⟨x, hx⟩ : ∃ x, bs.getD j bd0 = x := ⟨_, rfl⟩
    have hxm := hmem j hj
    unfold fits fitsR gdCirc getI
    rw [hx] at hxm ⊢
    obtain ⟨w1, w2, w3, w4, _, _⟩ := hvd x hxm
    rw [Int.toNat_natCast, hget k (by omega), Bool.and_assoc]
    congr 1
    rw [gd_fr hN hsN hvd (by omega) (by omega : x.dst.toNat < N) (fun s => decide (y.most + (sum + x.most) + s < 0))]
    congr 1
    rw [Bool.eq_iff_iff]
    simp only [decide_eq_true_eq]
    omega
  have ex : ∀ k at_ sum, P (k + 1) at_ sum → ∃ j ∈ passes (laterT i) bs.length, fits bs (gdCirc (walksP L sN (M - 1)) y.most) k at_ sum j = true := by
    rintro k at_ sum ⟨hk, q, q1, q2, q3, q4⟩
    cases q with
    | nil => simp at q3
    | cons x q =>
      obtain ⟨j, hj, hx⟩ := mem_selB' (bs := bs) (ks := passes (laterT i) bs.length) (x := x) (by rw [hsel]; exact q2.head)
      refine ⟨j, hj, ?_⟩
      simp only [wsum] at q4
      obtain ⟨w1, w2, w3, w4, _, _⟩ := hvd x q2.head
      have hdst : ((x.dst.toNat : Nat) : Int) = x.dst := Int.toNat_of_nonneg w3
      have hr := row_le hN hsN hvd (k := k) (by omega) (by omega : x.dst.toNat < N) (p := q) (by rw [hdst]; exact q1.2) q2.tail (by simpa using q3)
      unfold fits gdCirc getI
      rw [hx, Int.toNat_natCast, hget k (by omega)]
      have h1 : ((walkRow L sN k).getD x.dst.toNat 0 < 1125899906842624) := hr.1
      have h3 : y.most + (sum + x.most) + (walkRow L sN k).getD x.dst.toNat 0 < 0 := by omega
      rw [beq_iff_eq.2 q1.1, decide_eq_true h1, decide_eq_true h3]; rfl
  have st : ∀ k at_ sum j, P (k + 1) at_ sum → j ∈ passes (laterT i) bs.length → fits bs (gdCirc (walksP L sN (M - 1)) y.most) k at_ sum j = true → P k (bs.getD j bd0).dst (sum + (bs.getD j bd0).most) := by
    rintro k at_ sum j ⟨hk, _⟩ hj hf
    obtain ⟨x, hx⟩ : ∃ x, bs.getD j bd0 = x := ⟨_, rfl⟩
    have hxm := hmem j hj
    unfold fits gdCirc getI at hf
    rw [hx] at hxm hf ⊢
    obtain ⟨w1, w2, w3, w4, _, _⟩ := hvd x hxm
    rw [Int.toNat_natCast, hget k (by omega)] at hf
    simp only [Bool.and_eq_true, beq_iff_eq, decide_eq_true_eq] at hf
    obtain ⟨f1, f2, f3⟩ := hf
    have hdst : ((x.dst.toNat : Nat) : Int) = x.dst := Int.toNat_of_nonneg w3
    obtain ⟨r, r1, r2, r3, r4⟩ := row_at hN hsN hvd (k := k) (by omega) (by omega : x.dst.toNat < N) f2
    rw [hdst] at r1
    exact ⟨by omega, r, r1, r2, r3, by omega⟩
  have hP : P (M - 1) y.dst 0 := by
    obtain ⟨q, q1, q2, q3, q4⟩ := hn
    exact ⟨Nat.le_refl _, q, q1, q2, q3, by omega⟩
  have := follow_same (lim := -1 - y.most) P fit ex st (M - 1) y.dst 0 [] hP
  rw [this, Int.sub_zero]

theorem circle_follow {N : Nat} {bs : List Bd} (hN : N ≤ 128) (hv : AllValid N bs) {M i : Nat} (h2 : 2 ≤ M) (hMN : M ≤ N) (hi : i < bs.length) (hn : NegFrom bs i (M - 1)) : circRest bs M i = refRest N bs (M, i) := by
  unfold circRest followedP
  rw [circle_followGo hN hv h2 hMN hi hn]; rfl

/-- THE LAW of Circle. -/
theorem circle_ref {N : Nat} {bs : List Bd} (hN : N ≤ 128) (hv : AllValid N bs) (hns : ∀ b ∈ bs, b.src ≠ b.dst) (h : openedP N bs = none) : circleGo bs N = some (refCircle N bs) := by
  have hno : ¬ NoNeg bs := fun hn => by
    have := (openedP_iff hN hv).2 hn
    rw [h] at this; simp at this
  obtain ⟨M, hM, h2, hMN⟩ := leastK_of hv hns hno
  obtain ⟨i, hi, hn, e1, e2⟩ := circle_first hN hv hM h2 hMN
  unfold circleGo refCircle
  rw [e2, e1, (circS_least hN hv hM hMN).1]
  simp only
  rw [circle_follow hN hv h2 hMN hi hn]

end Go.Proofs.YthcmjhellpjllaaGreat

/- Plain laws: the values of Some are those of the reference. Conditions: a net that was asked for. -/
namespace Go.Proofs.YthcmjhellpjllaaGreat

/-- The reference's look at another point that has a value. -/
def someInR (D : List (List Fr)) (out : List Int) (given : List Bool) (p : Nat) (s : Int × Fr) (q : Nat) : Int × Fr :=
  (if given.getD q false = true ∧ (mget D p q).ok = true then max s.1 (out.getD q 0 - (mget D p q).s) else s.1,
   if given.getD q false = true ∧ (mget D q p).ok = true then lesserP s.2 ⟨out.getD q 0 + (mget D q p).s, true⟩ else s.2)
def someEndR (r : Int × Fr) : Int := if r.2.ok = true then min r.1 r.2.s else r.1
def someAtR (N : Nat) (D : List (List Fr)) (st : List Int × List Bool) (p : Nat) : List Int × List Bool :=
  if st.2.getD p false = true then st
  else (st.1.set p (someEndR ((List.range N).foldl (someInR D st.1 st.2 p) (0, fr0))), st.2.set p true)
def someStartR (N : Nat) (D : List (List Fr)) : List Int × List Bool := ((List.range N).map fun p => frV (mget D 0 p), (List.range N).map fun p => (mget D 0 p).ok)
def someR (N : Nat) (D : List (List Fr)) : List Int := ((List.range N).foldl (someAtR N D) (someStartR N D)).1

/-- A table and a matrix of the same sums. -/
def TabMat (N : Nat) (T : List (List Int)) (D : List (List Fr)) : Prop := ∀ a b : Nat, a < N → b < N → ((mget D a b).ok = true ∧ tget T a b < farI ∧ (mget D a b).s = tget T a b) ∨ ((mget D a b).ok = false ∧ ¬ tget T a b < farI)

theorem tget_dist {N : Nat} {bs : List Bd} {t : List Int} (ht : openedP N bs = some t) {a : Nat} (b : Nat) (ha : a < N) : tget (tableP N t bs) a b = distN N bs a b := by
  unfold tget distN
  rw [tableP_get N t bs ha, heightsP_of ht]

theorem tabMat_of {N : Nat} {bs : List Bd} {t : List Int} (HO : NetOk N bs t) (ht : openedP N bs = some t) : TabMat N (tableP N t bs) (matrixP N bs) := by
  intro a b ha hb
  rw [tget_dist ht b ha]
  rcases matrix_dist HO ht ha hb with ⟨h1, h2, h3⟩ | ⟨h1, h2⟩
  · exact .inl ⟨h1, h2, h3⟩
  · exact .inr ⟨h1, by omega⟩

theorem someIn_same {N : Nat} {T : List (List Int)} {D : List (List Fr)} {out : List Int} {given : List Bool} {c : Int} (hc : 0 ≤ c) (hc2 : c ≤ 1000000000000) (hT : TabBd N T) (hD : TabMat N T D) (ho : Within c out) {p : Nat} (hp : p < N) : ∀ k, k ≤ N →
    ((List.range k).foldl (someInR D out given p) (0, fr0)).1 = ((List.range k).foldl (someIn T out given p) (0, farI)).1 ∧
    ((((List.range k).foldl (someInR D out given p) (0, fr0)).2.ok = true ∧ ((List.range k).foldl (someInR D out given p) (0, fr0)).2.s = ((List.range k).foldl (someIn T out given p) (0, farI)).2 ∧ ((List.range k).foldl (someIn T out given p) (0, farI)).2 < farI) ∨
      (((List.range k).foldl (someInR D out given p) (0, fr0)).2.ok = false ∧ ((List.range k).foldl (someIn T out given p) (0, farI)).2 = farI))
  | 0, _ => ⟨rfl, .inr ⟨rfl, rfl⟩⟩
  | k + 1, hk => by
    have ih := someIn_same hc hc2 hT hD ho hp (given := given) k (by omega)
    rw [List.range_succ, List.foldl_append, List.foldl_append]
    simp only [List.foldl_cons, List.foldl_nil]
    obtain ⟨r, hr⟩ : ∃ r, (List.range k).foldl (someInR D out given p) (0, fr0) = r := ⟨_, rfl⟩
    obtain ⟨s, hs⟩ : ∃ s, (List.range k).foldl (someIn T out given p) (0, farI) = s := ⟨_, rfl⟩
    rw [hr, hs] at ih
    rw [hr, hs]
    obtain ⟨i1, i2⟩ := ih
    unfold someInR someIn
    by_cases hg : given.getD k false = true
    · rw [if_pos hg]
      simp only [hg, true_and]
      refine ⟨?_, ?_⟩
      · rcases hD p k hp (by omega) with ⟨h1, h2, h3⟩ | ⟨h1, h2⟩
        · rw [if_pos h1, if_pos h2, h3, i1]
        · rw [if_neg (by rw [h1]; simp), if_neg h2, i1]
      · have b1 := hT k p (by omega) hp
        have b2 := ho k
        rcases hD k p (by omega) hp with ⟨h1, h2, h3⟩ | ⟨h1, h2⟩
        · rw [if_pos h1, if_pos h2, h3]
          left
          have b3 := b1.2.2 h2
          have hfar : farI = 1125899906842624 := rfl
          rcases i2 with ⟨j1, j2, j3⟩ | ⟨j1, j2⟩
          · by_cases hx : out.getD k 0 + tget T k p < s.2
            · rw [show lesserP r.2 ⟨out.getD k 0 + tget T k p, true⟩ = ⟨out.getD k 0 + tget T k p, true⟩ from by unfold lesserP; rw [if_pos (.inr ⟨rfl, by rw [j2]; exact hx⟩)], Int.min_eq_right (by omega)]
              exact ⟨rfl, rfl, by omega⟩
            · rw [show lesserP r.2 ⟨out.getD k 0 + tget T k p, true⟩ = r.2 from by unfold lesserP; rw [if_neg (by rw [j1, j2]; exact fun h => h.elim (fun e => by simp at e) (fun e => hx e.2))], Int.min_eq_left (by omega)]
              exact ⟨j1, j2, j3⟩
          · rw [show lesserP r.2 ⟨out.getD k 0 + tget T k p, true⟩ = ⟨out.getD k 0 + tget T k p, true⟩ from by unfold lesserP; rw [if_pos (.inl j1)], j2, Int.min_eq_right (by omega)]
            exact ⟨rfl, rfl, by omega⟩
        · rw [if_neg (by rw [h1]; simp), if_neg h2]
          exact i2
    · rw [if_neg hg]
      simp only [hg]
      exact ⟨i1, i2⟩

theorem someAt_same {N : Nat} {T : List (List Int)} {D : List (List Fr)} {st : List Int × List Bool} {c : Int} (hc : 0 ≤ c) (hc2 : c ≤ 1000000000000) (hT : TabBd N T) (hD : TabMat N T D) (ho : Within c st.1) {p : Nat} (hp : p < N) : someAtR N D st p = someAt N T st p := by
  unfold someAtR someAt
  split
  · rfl
  · obtain ⟨h1, h2⟩ := someIn_same (given := st.2) hc hc2 hT hD ho hp N (Nat.le_refl _)
    have hb := someIn_bd (given := st.2) hc hT ho hp N (Nat.le_refl _)
    congr 2
    unfold someEndR
    rcases h2 with ⟨j1, j2, j3⟩ | ⟨j1, j2⟩
    · rw [if_pos j1, h1, j2]
    · have hfar : farI = 1125899906842624 := rfl
      rw [if_neg (by rw [j1]; simp), h1, j2]
      omega

theorem someStart_same {N : Nat} {T : List (List Int)} {D : List (List Fr)} (hD : TabMat N T D) (h0 : 0 < N) : someStartR N D = someStart N T := by
  unfold someStartR someStart
  congr 1
  · apply List.map_congr_left
    intro p hp
    have := List.mem_range.1 hp
    rcases hD 0 p h0 this with ⟨h1, h2, h3⟩ | ⟨h1, h2⟩
    · unfold frV nV; unfold farI at h2; rw [if_pos h1, if_neg (by omega), h3]
    · unfold frV nV; unfold farI at h2; rw [if_neg (by rw [h1]; simp), if_pos (by omega)]
  · apply List.map_congr_left
    intro p hp
    have := List.mem_range.1 hp
    rcases hD 0 p h0 this with ⟨h1, h2, h3⟩ | ⟨h1, h2⟩
    · unfold nB; unfold farI at h2; rw [h1]; simp [h2]
    · unfold nB; unfold farI at h2; rw [h1]; simp; omega

theorem someFold_same {N : Nat} {T : List (List Int)} {D : List (List Fr)} (hN : N ≤ 128) (hT : TabBd N T) (hD : TabMat N T D) (h0 : 0 < N) : ∀ k, k ≤ N → (List.range k).foldl (someAtR N D) (someStartR N D) = (List.range k).foldl (someAt N T) (someStart N T)
  | 0, _ => someStart_same hD h0
  | k + 1, hk => by
    rw [List.range_succ, List.foldl_append, List.foldl_append, someFold_same hN hT hD h0 k (by omega)]
    simp only [List.foldl_cons, List.foldl_nil]
    exact someAt_same (by omega) (by omega) hT hD (someFold_bd hT h0 k (by omega)) (by omega)

/-- THE LAW of Some. -/
theorem some_ref {N : Nat} {bs : List Bd} {t : List Int} (HO : NetOk N bs t) (ht : openedP N bs = some t) : someR N (matrixP N bs) = someP N (tableP N t bs) := by
  unfold someR someP
  rw [someFold_same HO.n1 (tabBd_of HO) (tabMat_of HO ht) HO.n0 N (Nat.le_refl _)]

end Go.Proofs.YthcmjhellpjllaaGreat

/- Plain laws: without the needless bounds all distances stay; without one more they do not. Conditions: a net that was asked for. -/
namespace Go.Proofs.YthcmjhellpjllaaGreat

/-- Each walk has one over fewer bounds that is no longer. -/
def Rep (cs ds : List Bd) : Prop := ∀ (a b : Int) (p : List Bd), Walk a b p → Over cs p → ∃ q, Walk a b q ∧ Over ds q ∧ wsum q ≤ wsum p

theorem Rep.refl (cs : List Bd) : Rep cs cs := fun _ _ p h1 h2 => ⟨p, h1, h2, Int.le_refl _⟩
theorem Rep.trans {cs ds es : List Bd} (h : Rep cs ds) (k : Rep ds es) : Rep cs es := fun a b p h1 h2 => by
  obtain ⟨q, q1, q2, q3⟩ := h a b p h1 h2
  obtain ⟨r, r1, r2, r3⟩ := k a b q q1 q2
  exact ⟨r, r1, r2, by omega⟩
theorem rep_of_one {cs ds : List Bd} (h : ∀ x ∈ cs, ∃ q, Walk x.src x.dst q ∧ Over ds q ∧ wsum q ≤ x.most) : Rep cs ds := by
  intro a b p
  induction p generalizing a with
  | nil => intro h1 _; exact ⟨[], h1, Over.nil, Int.le_refl _⟩
  | cons x p ih =>
    intro h1 h2
    obtain ⟨q, q1, q2, q3⟩ := h x h2.head
    obtain ⟨r, r1, r2, r3⟩ := ih x.dst h1.2 h2.tail
    have e := h1.1
    subst e
    refine ⟨q ++ r, q1.trans r1, q2.append r2, ?_⟩
    rw [wsum_append]; simp only [wsum]; omega

theorem dist_rep {N : Nat} {bs cs : List Bd} {t u : List Int} (H : NetOk N bs t) (ht : openedP N bs = some t) (K : NetOk N cs u) (hu : openedP N cs = some u) (hs : ∀ x ∈ cs, x ∈ bs) (hr : Rep bs cs) {a b : Nat} (ha : a < N) (hb : b < N) :
    distN N cs a b = distN N bs a b := by
  refine Int.le_antisymm ?_ (dist_mono K hu H ht hs ha hb)
  rcases dist_cases H ht ha hb with ⟨h1, ⟨p, p1, p2, p3⟩, _⟩ | ⟨h1, _⟩
  · obtain ⟨q, q1, q2, q3⟩ := hr a b p p1 p2
    rcases dist_cases K hu ha hb with ⟨k1, _, k3⟩ | ⟨_, k2⟩
    · have := k3 q q1 q2; omega
    · exact absurd q2 (k2 q q1)
  · rcases dist_cases K hu ha hb with ⟨k1, _⟩ | ⟨k1, _⟩ <;> omega

/-- What is gone in the end. -/
def goneGo (N : Nat) (h : List Int) (bs : List Bd) : Nat → List Bool → List Bool
  | 0, gone => gone
  | i + 1, gone => if needYes N h bs gone i = true then goneGo N h bs i (gone.set i true) else goneGo N h bs i gone
def goneP (N : Nat) (h : List Int) (bs : List Bd) : List Bool := goneGo N h bs bs.length (List.replicate bs.length false)
/-- What stays in the end. -/
def stayP (N : Nat) (h : List Int) (bs : List Bd) : List Bd := behind bs (goneP N h bs) 0

theorem goneGo_len (N : Nat) (h : List Int) (bs : List Bd) : ∀ n gone, (goneGo N h bs n gone).length = gone.length
  | 0, _ => rfl
  | i + 1, gone => by simp only [goneGo]; split <;> rw [goneGo_len] <;> simp
theorem goneGo_high (N : Nat) (h : List Int) (bs : List Bd) : ∀ n gone k, n ≤ k → (goneGo N h bs n gone).getD k false = gone.getD k false
  | 0, _, _, _ => rfl
  | i + 1, gone, k, hk => by
    simp only [goneGo]
    split
    · rw [goneGo_high N h bs i _ k (by omega), getDB_set, if_neg (by omega)]
    · rw [goneGo_high N h bs i _ k (by omega)]

/-- The list of the indices that are gone. -/
theorem needGo_eq (N : Nat) (h : List Int) (bs : List Bd) : ∀ n gone out, n ≤ gone.length → (∀ k, k < n → gone.getD k false = false) →
    needGo N h bs n gone out = out ++ (((List.range n).reverse.filter fun k => (goneGo N h bs n gone).getD k false).map fun k : Nat => (k : Int))
  | 0, gone, out, _, _ => by simp [needGo]
  | i + 1, gone, out, hl, hg => by
    rw [List.range_succ, List.reverse_append, List.reverse_singleton, List.singleton_append, List.filter_cons]
    by_cases hy : needYes N h bs gone i = true
    · have e1 : goneGo N h bs (i + 1) gone = goneGo N h bs i (gone.set i true) := by rw [goneGo, if_pos hy]
      have e2 : needGo N h bs (i + 1) gone out = needGo N h bs i (gone.set i true) (out ++ [(i : Int)]) := by rw [needGo, if_pos hy]
      rw [e1, e2, needGo_eq N h bs i (gone.set i true) (out ++ [(i : Int)]) (by simp; omega) (fun k hk => by rw [getDB_set, if_neg (by omega)]; exact hg k (by omega))]
      rw [if_pos (by rw [goneGo_high _ _ _ _ _ _ (Nat.le_refl _), getDB_set, if_pos ⟨rfl, by omega⟩])]
      simp
    · have e1 : goneGo N h bs (i + 1) gone = goneGo N h bs i gone := by rw [goneGo, if_neg hy]
      have e2 : needGo N h bs (i + 1) gone out = needGo N h bs i gone out := by rw [needGo, if_neg hy]
      rw [e1, e2, needGo_eq N h bs i gone out (by omega) (fun k hk => hg k (by omega))]
      rw [if_neg (by rw [goneGo_high _ _ _ _ _ _ (Nat.le_refl _), hg i (by omega)]; simp)]

theorem filter_split (p : Nat → Bool) : ∀ l : List Nat, (l.filter fun k => !(p k)).length + (l.filter p).length = l.length
  | [] => rfl
  | x :: l => by
    have := filter_split p l
    simp only [List.filter_cons, List.length_cons]
    cases p x <;> simp <;> omega

theorem needlessP_eq (N : Nat) (h : List Int) (bs : List Bd) : needlessP N h bs = ((List.range bs.length).filter fun k => (goneP N h bs).getD k false).map fun k : Nat => (k : Int) := by
  unfold needlessP
  rw [needGo_eq N h bs bs.length _ [] (by simp) (fun k hk => by simp [List.getD_eq_getElem?_getD, hk])]
  rw [List.nil_append, ← List.map_reverse, ← List.filter_reverse, List.reverse_reverse]; rfl

/-- A system without the bounds with some indices. -/
def takenP (bs : List Bd) (l : List Int) : List Bd := selB bs ((List.range bs.length).filter fun k => !(l.contains (k : Int)))

theorem taken_needless (N : Nat) (h : List Int) (bs : List Bd) : takenP bs (needlessP N h bs) = stayP N h bs ∧ (stayP N h bs).length + (needlessP N h bs).length = bs.length := by
  have hc : ∀ k, k < bs.length → (needlessP N h bs).contains (k : Int) = (goneP N h bs).getD k false := by
    intro k hk
    rw [needlessP_eq, Bool.eq_iff_iff, List.contains_iff_mem]
    simp only [List.mem_map, List.mem_filter, List.mem_range]
    constructor
    · rintro ⟨j, ⟨_, h2⟩, e⟩
      have : j = k := by omega
      subst this; exact h2
    · intro h2; exact ⟨k, ⟨hk, h2⟩, rfl⟩
  have e1 : ∀ p : Nat → Bool, ((List.range (bs.length - 0)).map (0 + ·)).filter p = (List.range bs.length).filter p := by intro p; simp
  refine ⟨?_, ?_⟩
  · unfold takenP stayP behind
    rw [e1]
    congr 1
    exact List.filter_congr (fun k hk => by rw [hc k (List.mem_range.1 hk)])
  · unfold stayP behind
    rw [e1, needlessP_eq]
    simp only [selB, List.length_map]
    have := filter_split (fun k => (goneP N h bs).getD k false) (List.range bs.length)
    rw [List.length_range] at this
    exact this

theorem mem_behind {bs : List Bd} {gone : List Bool} {i : Nat} {x : Bd} : x ∈ behind bs gone i ↔ ∃ k, i ≤ k ∧ k < bs.length ∧ gone.getD k false = false ∧ bs.getD k bd0 = x := by
  unfold behind selB
  simp only [List.mem_map, List.mem_filter, List.mem_range, Bool.not_eq_true']
  constructor
  · rintro ⟨k, ⟨⟨j, hj, rfl⟩, h2⟩, h3⟩
    exact ⟨i + j, by omega, by omega, h2, h3⟩
  · rintro ⟨k, h1, h2, h3, h4⟩
    exact ⟨k, ⟨⟨k - i, by omega, by omega⟩, h3⟩, h4⟩

theorem take_append_getD {bs : List Bd} {i : Nat} (hi : i < bs.length) : bs.take (i + 1) = bs.take i ++ [bs.getD i bd0] := by
  rw [List.take_succ_eq_append_getElem hi, List.getD_eq_getElem?_getD, List.getElem?_eq_getElem hi]; rfl

/-- What needYes says. -/
theorem needYes_iff {N : Nat} {bs : List Bd} {h : List Int} (H : NetOk N bs h) {i : Nat} (hi : i < bs.length) {gone : List Bool} (hg : ∀ k, k ≤ i → gone.getD k false = false) :
    needYes N h bs gone i = true ↔ ∃ q, Walk (bs.getD i bd0).src (bs.getD i bd0).dst q ∧ Over (bs.take i ++ behind bs gone (i + 1)) q ∧ wsum q ≤ (bs.getD i bd0).most := by
  have hsel := need_sel hi hg
  have hbm : bs.getD i bd0 ∈ bs := by rw [List.getD_eq_getElem?_getD, List.getElem?_eq_getElem hi]; exact List.getElem_mem hi
  obtain ⟨v1, v2, v3, v4, v5, v6⟩ := H.valid _ hbm
  have hmem : ∀ x ∈ bs.take i ++ behind bs gone (i + 1), x ∈ bs := by
    rw [← hsel]; exact fun x hx => mem_selB (fun q hq => (passes_mem.1 hq).1) hx
  have hrow := distP_row (N := N) (a := (bs.getD i bd0).src.toNat) H.n1 (by omega) (fun x hx => H.valid x (hmem x hx)) (H.pot.mono hmem) H.low
  have hsrc : ((bs.getD i bd0).src.toNat : Int) = (bs.getD i bd0).src := by omega
  have hdst : ((bs.getD i bd0).dst.toNat : Int) = (bs.getD i bd0).dst := by omega
  have hr := hrow.2 (bs.getD i bd0).dst.toNat (by omega)
  rw [hsrc, hdst] at hr
  unfold needYes
  rw [hsel, decide_eq_true_eq]
  rcases hr with ⟨q1, ⟨q, q2, q3, q4⟩, q5⟩ | ⟨q1, q2⟩
  · constructor
    · intro hle; exact ⟨q, q2, q3, by omega⟩
    · rintro ⟨r, r1, r2, r3⟩; have := q5 r r1 r2; omega
  · constructor
    · intro hle; unfold farI at q1; omega
    · rintro ⟨r, r1, r2, _⟩; exact absurd r2 (q2 r r1)

/-- What the going through keeps. -/
theorem goneGo_inv {N : Nat} {bs : List Bd} {h : List Int} (H : NetOk N bs h) : ∀ (n : Nat) (gone : List Bool), n ≤ bs.length → gone.length = bs.length → (∀ k, k < n → gone.getD k false = false) →
    Rep bs (bs.take n ++ behind bs gone n) → (∀ i, n ≤ i → i < bs.length → gone.getD i false = false → ∀ q, Walk (bs.getD i bd0).src (bs.getD i bd0).dst q → Over (bs.take i ++ behind bs gone (i + 1)) q → (bs.getD i bd0).most < wsum q) →
    Rep bs (behind bs (goneGo N h bs n gone) 0) ∧ (∀ i, i < bs.length → (goneGo N h bs n gone).getD i false = false → ∀ q, Walk (bs.getD i bd0).src (bs.getD i bd0).dst q → Over (bs.take i ++ behind bs (goneGo N h bs n gone) (i + 1)) q → (bs.getD i bd0).most < wsum q)
  | 0, gone, _, _, _, hr, hk => by
    simp only [goneGo]
    refine ⟨by simpa using hr, fun i hi => hk i (Nat.zero_le _) hi⟩
  | i + 1, gone, hn, hgl, hg, hr, hk => by
    have hi : i < bs.length := by omega
    have hy := needYes_iff H hi (gone := gone) (fun k hk => hg k (by omega))
    simp only [goneGo]
    by_cases hyes : needYes N h bs gone i = true
    · rw [if_pos hyes]
      obtain ⟨q, q1, q2, q3⟩ := hy.1 hyes
      have hbs : behind bs (gone.set i true) i = behind bs gone (i + 1) := by
        rw [behind_step hi, if_pos (by rw [getDB_set, if_pos ⟨rfl, by omega⟩]), List.nil_append, behind_set]
      refine goneGo_inv H i (gone.set i true) (by omega) (by simpa using hgl) (fun k hk => by rw [getDB_set, if_neg (by omega)]; exact hg k (by omega)) ?_ (fun j hj hjl hjg => ?_)
      · refine hr.trans (rep_of_one fun x hx => ?_)
        rw [hbs]
        rw [take_append_getD hi, List.append_assoc] at hx
        rcases List.mem_append.1 hx with e | e
        · exact ⟨[x], ⟨rfl, rfl⟩, Over.one (List.mem_append_left _ e), by simp [wsum]⟩
        · rcases List.mem_append.1 e with e | e
          · rw [List.mem_singleton.1 e]; exact ⟨q, q1, q2, q3⟩
          · exact ⟨[x], ⟨rfl, rfl⟩, Over.one (List.mem_append_right _ e), by simp [wsum]⟩
      · have hne : j ≠ i := by
          rintro rfl
          rw [getDB_set, if_pos ⟨rfl, by omega⟩] at hjg; simp at hjg
        rw [getDB_set, if_neg (by omega)] at hjg
        intro q k1 k2
        refine hk j (by omega) hjl hjg q k1 (k2.mono fun x hx => ?_)
        rcases List.mem_append.1 hx with e | e
        · exact List.mem_append_left _ e
        · refine List.mem_append_right _ ?_
          rw [mem_behind] at e ⊢
          obtain ⟨k, e1, e2, e3, e4⟩ := e
          rw [getDB_set, if_neg (by omega)] at e3
          exact ⟨k, e1, e2, e3, e4⟩
    · rw [if_neg hyes]
      refine goneGo_inv H i gone (by omega) hgl (fun k hk => hg k (by omega)) ?_ (fun j hj hjl hjg => ?_)
      · rw [behind_step hi, if_neg (by rw [hg i (by omega)]; simp), ← List.append_assoc, ← take_append_getD hi]
        exact hr
      · by_cases e : j = i
        · subst e
          intro q k1 k2
          by_cases hle : wsum q ≤ (bs.getD j bd0).most
          · exact absurd (hy.2 ⟨q, k1, k2, hle⟩) hyes
          · omega
        · exact hk j (by omega) hjl hjg

theorem stay_inv {N : Nat} {bs : List Bd} {h : List Int} (H : NetOk N bs h) : Rep bs (stayP N h bs) ∧ (∀ i, i < bs.length → (goneP N h bs).getD i false = false → ∀ q, Walk (bs.getD i bd0).src (bs.getD i bd0).dst q → Over (bs.take i ++ behind bs (goneP N h bs) (i + 1)) q → (bs.getD i bd0).most < wsum q) := by
  refine goneGo_inv H bs.length (List.replicate bs.length false) (Nat.le_refl _) (by simp) (fun k hk => by simp [List.getD_eq_getElem?_getD, hk]) ?_ (fun i h1 h2 => by omega)
  have e : behind bs (List.replicate bs.length false) bs.length = [] := by unfold behind; simp [selB]
  rw [e, List.append_nil, List.take_of_length_le (Nat.le_refl _)]
  exact Rep.refl _

theorem stay_mem {N : Nat} {bs : List Bd} {h : List Int} {x : Bd} (hx : x ∈ stayP N h bs) : x ∈ bs := by
  obtain ⟨k, _, h2, _, h4⟩ := mem_behind.1 hx
  rw [← h4, List.getD_eq_getElem?_getD, List.getElem?_eq_getElem h2]
  exact List.getElem_mem h2

/-- A part of the bounds has a net of its own. -/
theorem net_part {N : Nat} {bs cs : List Bd} {t : List Int} (H : NetOk N bs t) (hs : ∀ x ∈ cs, x ∈ bs) (hl : cs.length ≤ 2002) : ∃ u, openedP N cs = some u ∧ NetOk N cs u := by
  have hv : AllValid N cs := fun x hx => H.valid x (hs x hx)
  obtain ⟨u, hu⟩ := openedP_some H.n1 hv (H.noNeg.mono hs)
  exact ⟨u, hu, netOk_of_opened H.n0 H.n1 hl hv hu⟩

theorem behind_len (bs : List Bd) (gone : List Bool) (i : Nat) : (behind bs gone i).length ≤ bs.length := by
  unfold behind selB
  rw [List.length_map]
  refine Nat.le_trans (List.length_filter_le _ _) ?_
  simp

/-- THE LAW: the distances stay. -/
theorem needed_alike {N : Nat} {bs : List Bd} {t : List Int} (H : NetOk N bs t) (ht : openedP N bs = some t) {a b : Nat} (ha : a < N) (hb : b < N) : distN N (stayP N t bs) a b = distN N bs a b := by
  obtain ⟨u, hu, K⟩ := net_part H (cs := stayP N t bs) (fun x hx => stay_mem hx) (Nat.le_trans (behind_len _ _ _) H.len)
  exact dist_rep H ht K hu (fun x hx => stay_mem hx) (stay_inv H).1 ha hb

/-- The indices that stay, and their bounds. -/
def idxL (bs : List Bd) (gone : List Bool) : List Nat := (List.range bs.length).filter fun k => !(gone.getD k false)
theorem stay_idx (N : Nat) (h : List Int) (bs : List Bd) : stayP N h bs = selB bs (idxL bs (goneP N h bs)) := by
  unfold stayP behind idxL; simp

/-- THE LAW: without one more, some distance does not stay. -/
theorem needed_more {N : Nat} {bs : List Bd} {t : List Int} (H : NetOk N bs t) (_ht : openedP N bs = some t) {j : Nat} (hj : j < (stayP N t bs).length) :
    ∃ a b : Nat, a < N ∧ b < N ∧ distN N (stayP N t bs) a b < distN N (takenP (stayP N t bs) [(j : Int)]) a b ∧ distN N (stayP N t bs) a b < farI := by
  obtain ⟨L, hL⟩ : ∃ L, idxL bs (goneP N t bs) = L := ⟨_, rfl⟩
  have hst := stay_idx N t bs
  rw [hL] at hst
  have hjL : j < L.length := by rw [hst] at hj; simpa [selB] using hj
  obtain ⟨i, hi⟩ : ∃ i, L[j]? = some i := ⟨_, List.getElem?_eq_getElem hjL⟩
  have hiL : i ∈ L := List.mem_of_getElem? hi
  have hi2 : i < bs.length ∧ (goneP N t bs).getD i false = false := by
    rw [← hL] at hiL; simpa [idxL] using hiL
  have hnd : L.Nodup := by rw [← hL]; exact List.nodup_range.filter _
  have hbm : bs.getD i bd0 ∈ bs := by rw [List.getD_eq_getElem?_getD, List.getElem?_eq_getElem hi2.1]; exact List.getElem_mem hi2.1
  obtain ⟨v1, v2, v3, v4, v5, v6⟩ := H.valid _ hbm
  have hsrc : ((bs.getD i bd0).src.toNat : Int) = (bs.getD i bd0).src := by omega
  have hdst : ((bs.getD i bd0).dst.toNat : Int) = (bs.getD i bd0).dst := by omega
  have hat : (stayP N t bs).getD j bd0 = bs.getD i bd0 := by
    rw [hst]; simp [selB, List.getD_eq_getElem?_getD, hi]
  -- what is taken
  have hsub : ∀ x ∈ takenP (stayP N t bs) [(j : Int)], x ∈ bs.take i ++ behind bs (goneP N t bs) (i + 1) := by
    intro x hx
    unfold takenP at hx
    obtain ⟨k, hk, e⟩ := mem_selB' hx
    simp only [List.mem_filter, List.mem_range, Bool.not_eq_true', List.contains_cons, List.contains_nil, Bool.or_false, beq_eq_false_iff_ne, ne_eq] at hk
    obtain ⟨hk1, hk2⟩ := hk
    have hkL : k < L.length := by rw [hst] at hk1; simpa [selB] using hk1
    obtain ⟨m, hm⟩ : ∃ m, L[k]? = some m := ⟨_, List.getElem?_eq_getElem hkL⟩
    have hmL : m ∈ L := List.mem_of_getElem? hm
    have hm2 : m < bs.length ∧ (goneP N t bs).getD m false = false := by
      rw [← hL] at hmL; simpa [idxL] using hmL
    have hmi : m ≠ i := by
      rintro rfl
      have := (List.getElem?_inj hjL hnd).1 (hi.trans hm.symm)
      omega
    have ex : x = bs.getD m bd0 := by rw [← e, hst]; simp [selB, List.getD_eq_getElem?_getD, hm]
    rw [ex]
    by_cases hlt : m < i
    · refine List.mem_append_left _ ?_
      rw [List.getD_eq_getElem?_getD, List.getElem?_eq_getElem hm2.1]
      simp only [Option.getD_some]
      exact List.mem_take_iff_getElem.2 ⟨m, by omega, rfl⟩
    · exact List.mem_append_right _ (mem_behind.2 ⟨m, by omega, hm2.1, hm2.2, rfl⟩)
  have hsub2 : ∀ x ∈ takenP (stayP N t bs) [(j : Int)], x ∈ bs := fun x hx => by
    rcases List.mem_append.1 (hsub x hx) with e | e
    · exact List.mem_of_mem_take e
    · obtain ⟨k, _, h2, _, h4⟩ := mem_behind.1 e
      rw [← h4, List.getD_eq_getElem?_getD, List.getElem?_eq_getElem h2]
      exact List.getElem_mem h2
  have hl1 : (stayP N t bs).length ≤ 2002 := Nat.le_trans (behind_len _ _ _) H.len
  have hl2 : (takenP (stayP N t bs) [(j : Int)]).length ≤ 2002 := by
    unfold takenP selB
    rw [List.length_map]
    refine Nat.le_trans (List.length_filter_le _ _) ?_
    simpa using hl1
  obtain ⟨u, hu, K⟩ := net_part H (cs := stayP N t bs) (fun x hx => stay_mem hx) hl1
  obtain ⟨u2, hu2, K2⟩ := net_part H (cs := takenP (stayP N t bs) [(j : Int)]) hsub2 hl2
  refine ⟨(bs.getD i bd0).src.toNat, (bs.getD i bd0).dst.toNat, by omega, by omega, ?_⟩
  have hin : bs.getD i bd0 ∈ stayP N t bs := by rw [hst]; exact selB_mem hiL
  have hle : distN N (stayP N t bs) (bs.getD i bd0).src.toNat (bs.getD i bd0).dst.toNat ≤ (bs.getD i bd0).most ∧ distN N (stayP N t bs) (bs.getD i bd0).src.toNat (bs.getD i bd0).dst.toNat < farI := by
    have hw : Walk (bs.getD i bd0).src (bs.getD i bd0).dst [bs.getD i bd0] := ⟨rfl, rfl⟩
    rcases dist_cases K hu (a := (bs.getD i bd0).src.toNat) (b := (bs.getD i bd0).dst.toNat) (by omega) (by omega) with ⟨k1, _, k3⟩ | ⟨_, k2⟩
    · have := k3 [bs.getD i bd0] (by rw [hsrc, hdst]; exact hw) (Over.one hin)
      simp only [wsum] at this
      exact ⟨by omega, k1⟩
    · exact absurd (Over.one hin) (k2 [bs.getD i bd0] (by rw [hsrc, hdst]; exact hw))
  refine ⟨?_, hle.2⟩
  rcases dist_cases K2 hu2 (a := (bs.getD i bd0).src.toNat) (b := (bs.getD i bd0).dst.toNat) (by omega) (by omega) with ⟨k1, ⟨q, q1, q2, q3⟩, _⟩ | ⟨k1, _⟩
  · rw [hsrc, hdst] at q1
    have := (stay_inv H).2 i hi2.1 hi2.2 q q1 (q2.mono hsub)
    omega
  · unfold farI at k1; omega

end Go.Proofs.YthcmjhellpjllaaGreat

/- Plain laws: what a list of indices proves: sums of paths, circles; the reference's way of checking them. No conditions beyond those stated. -/
namespace Go.Proofs.YthcmjhellpjllaaGreat

def bAt (bs : List Bd) (i : Int) : Bd := bs.getD i.toNat bd0
/-- The numbers are indices of bounds. -/
def indexP (n : Nat) (l : List Int) : Bool := !(l.any fun i => !inR i 0 ((n : Int) - 1))
def sumGo (bs : List Bd) (b : Int) : List Int → Int → Int → Int × Bool
  | [], at_, n => (n, at_ == b)
  | i :: l, at_, n => if (bAt bs i).src != at_ then (0, false) else sumGo bs b l (bAt bs i).dst (n + (bAt bs i).most)
/-- The sum of a path; false: it is none. -/
def sumP (bs : List Bd) (l : List Int) (a b : Int) : Int × Bool := if 2000 < l.length then (0, false) else if indexP bs.length l = true then sumGo bs b l a 0 else (0, false)
/-- The reference's path. -/
def pathR (bs : List Bd) (b : Int) : List Int → Int → Int → Int × Bool
  | [], at_, n => (n, at_ == b)
  | i :: l, at_, n => if i < 0 ∨ (bs.length : Int) ≤ i ∨ (bAt bs i).src ≠ at_ then (0, false) else pathR bs b l (bAt bs i).dst (n + (bAt bs i).most)

theorem indexP_cons (n : Nat) (i : Int) (l : List Int) : indexP n (i :: l) = (inR i 0 ((n : Int) - 1) && indexP n l) := by
  unfold indexP; rw [List.any_cons]; cases inR i 0 ((n : Int) - 1) <;> simp
theorem indexP_iff {n : Nat} {l : List Int} : indexP n l = true ↔ ∀ i ∈ l, 0 ≤ i ∧ i < n := by
  unfold indexP
  simp only [Bool.not_eq_true', List.any_eq_false]
  constructor
  · intro h i hi; have := inR_true.1 (by simpa using h i hi); omega
  · intro h i hi; have := h i hi; simp [inR_true.2 (show 0 ≤ i ∧ i ≤ (n : Int) - 1 by omega)]

theorem pathR_eq (bs : List Bd) (b : Int) : ∀ (l : List Int) (at_ n : Int), pathR bs b l at_ n = if indexP bs.length l = true then sumGo bs b l at_ n else (0, false)
  | [], _, _ => rfl
  | i :: l, at_, n => by
    simp only [pathR, sumGo, indexP_cons]
    by_cases hr : inR i 0 ((bs.length : Int) - 1) = true
    · have := inR_true.1 hr
      rw [hr, Bool.true_and]
      by_cases hs : (bAt bs i).src = at_
      · have hne : ((bAt bs i).src != at_) = false := by simp [hs]
        rw [if_neg (fun h => by rcases h with h | h | h <;> first | omega | exact h hs), pathR_eq bs b l, hne]
        rfl
      · have hne : ((bAt bs i).src != at_) = true := by simpa using hs
        rw [if_pos (.inr (.inr hs)), hne]
        simp
    · have : ¬ (0 ≤ i ∧ i ≤ (bs.length : Int) - 1) := fun h => hr (inR_true.2 h)
      rw [if_pos (by omega)]
      simp [hr]

theorem sumGo_iff (bs : List Bd) (b : Int) : ∀ (l : List Int) (at_ n : Int), (sumGo bs b l at_ n).2 = true ↔ Walk at_ b (l.map (bAt bs))
  | [], at_, n => by simp [sumGo, Walk]
  | i :: l, at_, n => by
    simp only [sumGo, List.map_cons, Walk]
    by_cases hs : (bAt bs i).src = at_
    · rw [if_neg (by simp [hs]), sumGo_iff bs b l]; simp [hs]
    · rw [if_pos (by simpa using hs)]; simp [hs]
theorem sumGo_sum (bs : List Bd) (b : Int) : ∀ (l : List Int) (at_ n : Int), (sumGo bs b l at_ n).2 = true → (sumGo bs b l at_ n).1 = n + wsum (l.map (bAt bs))
  | [], at_, n, _ => by simp [sumGo, wsum]
  | i :: l, at_, n, h => by
    simp only [sumGo, List.map_cons, wsum] at h ⊢
    by_cases hs : (bAt bs i).src = at_
    · rw [if_neg (by simp [hs])] at h ⊢
      rw [sumGo_sum bs b l _ _ h]; omega
    · rw [if_pos (by simpa using hs)] at h; simp at h

theorem over_idx {bs : List Bd} {l : List Int} (h : indexP bs.length l = true) : Over bs (l.map (bAt bs)) := by
  intro x hx
  obtain ⟨i, hi, rfl⟩ := List.mem_map.1 hx
  have := indexP_iff.1 h i hi
  unfold bAt
  rw [List.getD_eq_getElem?_getD, List.getElem?_eq_getElem (by omega : i.toNat < bs.length)]
  exact List.getElem_mem _

theorem sumP_iff {bs : List Bd} {l : List Int} {a b : Int} : (sumP bs l a b).2 = true ↔ l.length ≤ 2000 ∧ indexP bs.length l = true ∧ Walk a b (l.map (bAt bs)) := by
  unfold sumP
  split
  · simp; omega
  · split
    · rename_i h1 h2
      rw [sumGo_iff]; simp [h2]; omega
    · rename_i h1 h2
      simp [h2]
theorem sumP_sum {bs : List Bd} {l : List Int} {a b : Int} (h : (sumP bs l a b).2 = true) : (sumP bs l a b).1 = wsum (l.map (bAt bs)) := by
  unfold sumP at h ⊢
  split at h
  · simp at h
  · rename_i h1
    split at h
    · rename_i h2
      rw [if_neg h1, if_pos h2, sumGo_sum _ _ _ _ _ h]; omega
    · simp at h

/-- The points that a list of bounds leaves, each once. -/
def srcsP (bs : List Bd) (l : List Int) : List Int := l.map fun i => (bAt bs i).src
/-- CheckCircle: whether a list is a negative circle, and the error. -/
def circleOkP (bs : List Bd) (l : List Int) : Bool :=
  if l.length < 2 ∨ indexP bs.length l = false then false
  else if ¬ (srcsP bs l).Nodup then false
  else (sumP bs l (bAt bs (l.getD 0 0)).src (bAt bs (l.getD 0 0)).src).2 && decide ((sumP bs l (bAt bs (l.getD 0 0)).src (bAt bs (l.getD 0 0)).src).1 < 0)
def checkCircleP (N : Int) (bs : List Bd) (l : List Int) : Bool × Int := if checkP N bs ≠ 0 then (false, checkP N bs) else (circleOkP bs l, 0)

theorem nodup_range_len {N : Nat} : ∀ {l : List Int}, l.Nodup → (∀ x ∈ l, 0 ≤ x ∧ x < N) → l.length ≤ N := by
  intro l hn hr
  apply Classical.byContradiction
  intro hgt
  obtain ⟨i, j, hij, hj, e⟩ := pigeon N (fun k => (l.getD k 0).toNat) (fun k hk => by
    have hk2 : k < l.length := by omega
    have := hr (l.getD k 0) (by rw [List.getD_eq_getElem?_getD, List.getElem?_eq_getElem hk2]; exact List.getElem_mem hk2)
    show (l.getD k 0).toNat < N
    omega)
  have hi2 : i < l.length := by omega
  have hj2 : j < l.length := by omega
  have e1 : l.getD i 0 = l[i] := by rw [List.getD_eq_getElem?_getD, List.getElem?_eq_getElem hi2]; rfl
  have e2 : l.getD j 0 = l[j] := by rw [List.getD_eq_getElem?_getD, List.getElem?_eq_getElem hj2]; rfl
  have e3 : (l.getD i 0).toNat = (l.getD j 0).toNat := e
  rw [e1, e2] at e3
  have r1 := hr l[i] (List.getElem_mem hi2)
  have r2 := hr l[j] (List.getElem_mem hj2)
  have e4 : l[i] = l[j] := by omega
  rw [List.nodup_iff_pairwise_ne, List.pairwise_iff_getElem] at hn
  exact hn i j hi2 hj2 hij e4

theorem circleOk_iff {N : Nat} {bs : List Bd} (hN : N ≤ 128) (hv : AllValid N bs) {l : List Int} : circleOkP bs l = true ↔ 2 ≤ l.length ∧ indexP bs.length l = true ∧ (srcsP bs l).Nodup ∧ Walk (bAt bs (l.getD 0 0)).src (bAt bs (l.getD 0 0)).src (l.map (bAt bs)) ∧ wsum (l.map (bAt bs)) < 0 := by
  unfold circleOkP
  split
  · rename_i h
    constructor
    · intro e; simp at e
    · rintro ⟨h1, h2, _⟩
      rcases h with h | h
      · omega
      · rw [h2] at h; simp at h
  · rename_i h
    split
    · rename_i h2
      constructor
      · intro e; simp at e
      · rintro ⟨_, _, h3, _⟩; exact absurd h3 h2
    · rename_i h2
      have h2' : (srcsP bs l).Nodup := Classical.not_not.1 h2
      have hi : indexP bs.length l = true := by
        cases hq : indexP bs.length l with
        | true => rfl
        | false => exact absurd (.inr hq) h
      have hlen : l.length ≤ 2000 := by
        have := nodup_range_len (N := N) h2' (fun x hx => by
          obtain ⟨i, hi2, rfl⟩ := List.mem_map.1 hx
          have := hv _ (over_idx hi _ (List.mem_map.2 ⟨i, hi2, rfl⟩))
          exact ⟨this.1, this.2.1⟩)
        unfold srcsP at this
        rw [List.length_map] at this
        omega
      rw [Bool.and_eq_true, sumP_iff, decide_eq_true_eq]
      constructor
      · rintro ⟨h3, h4⟩
        rw [sumP_sum (sumP_iff.2 h3)] at h4
        exact ⟨by omega, hi, h2', h3.2.2, h4⟩
      · rintro ⟨_, _, _, h3, h4⟩
        have h5 := sumP_iff.2 ⟨hlen, hi, h3⟩
        exact ⟨⟨hlen, hi, h3⟩, by rw [sumP_sum h5]; exact h4⟩

/-- A circle that is accepted is a negative closed walk. -/
theorem circleOk_neg {N : Nat} {bs : List Bd} (hN : N ≤ 128) (hv : AllValid N bs) {l : List Int} (h : circleOkP bs l = true) : ∃ a, NegK bs a l.length := by
  obtain ⟨h1, h2, h3, h4, h5⟩ := (circleOk_iff hN hv).1 h
  exact ⟨_, l.map (bAt bs), h4, over_idx h2, by simp, h5⟩

/-- What following finds. -/
theorem followGo_spec {bs : List Bd} {ks : List Nat} {gd : Int → Int → Int → Bool} : ∀ (many : Nat) (at_ sum : Int) (acc r : List Int), followGo bs ks gd many at_ sum acc = some r →
    ∃ l fin, r = acc ++ l ∧ l.length = many ∧ (∀ i ∈ l, ∃ k ∈ ks, i = (k : Int)) ∧ Walk at_ fin (l.map (bAt bs)) ∧ (0 < many → gd 0 fin (sum + wsum (l.map (bAt bs))) = true) ∧ (many = 0 → fin = at_)
  | 0, at_, sum, acc, r, h => by
    simp only [followGo, Option.some.injEq] at h
    exact ⟨[], at_, by simp [h], rfl, by simp, rfl, by omega, fun _ => rfl⟩
  | k + 1, at_, sum, acc, r, h => by
    simp only [followGo] at h
    split at h
    · simp at h
    · rename_i i hf
      have hi := List.mem_of_find?_eq_some hf
      have hx := List.find?_some hf
      unfold fits at hx
      simp only [Bool.and_eq_true, beq_iff_eq] at hx
      obtain ⟨l, fin, h1, h2, h3, h4, h5, h6⟩ := followGo_spec k _ _ _ r h
      have hb : bAt bs (i : Int) = bs.getD i bd0 := by unfold bAt; rw [Int.toNat_natCast]
      refine ⟨(i : Int) :: l, fin, by rw [h1]; simp, by simp [h2], ?_, ?_, fun _ => ?_, by omega⟩
      · intro j hj
        rcases List.mem_cons.1 hj with e | e
        · exact ⟨i, hi, e⟩
        · exact h3 j e
      · rw [List.map_cons, hb]; exact ⟨hx.1, h4⟩
      · rw [List.map_cons, hb]
        simp only [wsum]
        by_cases hk : 0 < k
        · have := h5 hk; rwa [Int.add_assoc] at this
        · have hk0 : k = 0 := by omega
          have hl : l = [] := List.length_eq_zero_iff.1 (by omega)
          have hg := hx.2
          rw [hk0] at hg
          rw [h6 hk0, hl]
          simp only [List.map_nil, wsum, Int.add_zero]
          exact hg

theorem walkRow0 {N : Nat} (hN : N ≤ 128) (l : List Bd) {to v : Nat} (hv : v < N) (h : (walkRow l to 0).getD v 0 < farI) : v = to ∧ (walkRow l to 0).getD v 0 = 0 := by
  unfold walkRow at h ⊢
  rw [getD_set] at h ⊢
  by_cases e : v = to
  · subst e; rw [if_pos ⟨rfl, by simp; omega⟩]; exact ⟨rfl, rfl⟩
  · rw [if_neg (fun q => e q.1), rep_far_get (by omega)] at h; omega

/-- THE LAW: the path proves the distance. -/
theorem path_sum {N : Nat} {bs : List Bd} {t : List Int} (HO : NetOk N bs t) (ht : openedP N bs = some t) {a b : Nat} (ha : a < N) (hb : b < N) (hd : distN N bs a b < farI) :
    (pathP N bs a b).length ≤ N ∧ indexP bs.length (pathP N bs a b) = true ∧ Walk a b ((pathP N bs a b).map (bAt bs)) ∧ wsum ((pathP N bs a b).map (bAt bs)) = distN N bs a b := by
  have hN := HO.n1
  have hdist : IsDist bs a b (distN N bs a b) := by
    have h2 := (HO.row ha).2 b hb
    unfold distN at hd ⊢
    rw [heightsP_of ht] at hd ⊢
    rcases h2 with ⟨_, q⟩ | ⟨q, _⟩
    · exact q
    · omega
  obtain ⟨m, hm, hmN, hr⟩ := dist_in_rows HO ha hb hdist
  have hg := path_followGo HO ht ha hb hd hmN hr
  obtain ⟨r, hrr⟩ : ∃ r, followR bs (stepsRow N bs b) (passes allT bs.length) m a (distN N bs a b) [] = r := ⟨_, rfl⟩
  rw [hrr] at hg
  unfold pathP
  rw [hm, Int.toNat_natCast]
  obtain ⟨l, fin, h1, h2, h3, h4, h5, h6⟩ := followGo_spec _ _ _ _ _ hg
  have e : followedP bs (passes allT bs.length) (gdRows (walksP bs b N) (distN N bs a b)) a m = l := by unfold followedP; rw [hg]; simpa using h1
  rw [e]
  have hidx : indexP bs.length l = true := indexP_iff.2 fun i hi => by
    obtain ⟨k, hk, rfl⟩ := h3 i hi
    have := (passes_mem.1 hk).1
    omega
  by_cases hm0 : m = 0
  · subst hm0
    have hl : l = [] := List.length_eq_zero_iff.1 h2
    have hw := walkRow0 hN bs ha (by omega : (walkRow bs b 0).getD a 0 < farI)
    subst hl
    refine ⟨by simp, hidx, ?_, ?_⟩
    · have := hw.1; subst this; rfl
    · rw [← hr, hw.2]; rfl
  · have hgd := h5 (by omega)
    unfold gdRows at hgd
    rw [Bool.and_eq_true, decide_eq_true_eq, beq_iff_eq] at hgd
    have h00 : Int.toNat 0 = 0 := rfl
    rw [h00, walksP_get _ _ _ (Nat.zero_le _)] at hgd
    have hfin : 0 ≤ fin ∧ fin < N := by
      have hov := over_idx hidx
      have h7 := walk_split (l := l.map (bAt bs)) (l.map (bAt bs)).length (Nat.le_refl _) h4
      rw [List.drop_length] at h7
      have h8 : vert (a : Int) (l.map (bAt bs)) (l.map (bAt bs)).length = fin := h7.2
      have := vert_range HO.valid (a := (a : Int)) (l := l.map (bAt bs)) (l.map (bAt bs)).length (by omega) (by omega) hov
      rw [h8] at this; exact this
    obtain ⟨fn, rfl⟩ := Int.eq_ofNat_of_zero_le hfin.1
    unfold getI at hgd
    rw [Int.toNat_natCast] at hgd
    have hw := walkRow0 hN bs (by omega : fn < N) hgd.1
    obtain ⟨rfl, hw2⟩ := hw
    exact ⟨by omega, hidx, h4, by rw [hw2] at hgd; omega⟩

/-- What Circle finds is accepted, and no circle that is accepted is shorter. -/
theorem circle_sum {N : Nat} {bs : List Bd} (hN : N ≤ 128) (hv : AllValid N bs) (hns : ∀ b ∈ bs, b.src ≠ b.dst) (h : openedP N bs = none) :
    ∃ c, circleGo bs N = some c ∧ circleOkP bs c = true ∧ ∀ l, circleOkP bs l = true → c.length ≤ l.length := by
  have hno : ¬ NoNeg bs := fun hn => by
    have := (openedP_iff hN hv).2 hn
    rw [h] at this; simp at this
  obtain ⟨M, hM, h2, hMN⟩ := leastK_of hv hns hno
  obtain ⟨i, hi, hn, e1, e2⟩ := circle_first hN hv hM h2 hMN
  have hg := circle_followGo hN hv h2 hMN hi hn
  have hM1 := (circS_least hN hv hM hMN).1
  have hm : bs.getD i bd0 ∈ bs := by rw [List.getD_eq_getElem?_getD, List.getElem?_eq_getElem hi]; exact List.getElem_mem hi
  obtain ⟨v1, v2, v3, v4, _, _⟩ := hv _ hm
  obtain ⟨l, fin, h1, h3, h4, h5, h6, h7⟩ := followGo_spec _ _ _ _ _ hg
  have hrest : circRest bs M i = l := by unfold circRest followedP; rw [hg]; simpa using h1
  refine ⟨(i : Int) :: l, ?_, ?_, ?_⟩
  · unfold circleGo
    rw [e2, hM1]
    simp only
    rw [hrest]
  · have hbi : bAt bs (i : Int) = bs.getD i bd0 := by unfold bAt; rw [Int.toNat_natCast]
    have hidx : indexP bs.length ((i : Int) :: l) = true := indexP_iff.2 fun j hj => by
      rcases List.mem_cons.1 hj with e | e
      · omega
      · obtain ⟨k, hk, rfl⟩ := h4 j e
        have := (passes_mem.1 hk).1
        omega
    have hidl : indexP bs.length l = true := by rw [indexP_cons, Bool.and_eq_true] at hidx; exact hidx.2
    have hov := over_idx hidx
    have hgd := h6 (by omega)
    unfold gdCirc circRows at hgd
    rw [Bool.and_eq_true, decide_eq_true_eq, decide_eq_true_eq] at hgd
    have h00 : Int.toNat 0 = 0 := rfl
    rw [h00, walksP_get _ _ _ (Nat.zero_le _)] at hgd
    have hfin : 0 ≤ fin ∧ fin < N := by
      have h8 := walk_split (l := l.map (bAt bs)) (l.map (bAt bs)).length (Nat.le_refl _) h5
      rw [List.drop_length] at h8
      have h9 : vert (bs.getD i bd0).dst (l.map (bAt bs)) (l.map (bAt bs)).length = fin := h8.2
      have := vert_range hv (a := (bs.getD i bd0).dst) (l := l.map (bAt bs)) (l.map (bAt bs)).length v3 v4 (over_idx hidl)
      rw [h9] at this; exact this
    obtain ⟨fn, rfl⟩ := Int.eq_ofNat_of_zero_le hfin.1
    unfold getI at hgd
    rw [Int.toNat_natCast] at hgd
    have hw := walkRow0 hN _ (by omega : fn < N) hgd.1
    have hsrc : ((fn : Nat) : Int) = (bs.getD i bd0).src := by have := hw.1; omega
    have hneg : wsum (((i : Int) :: l).map (bAt bs)) < 0 := by
      rw [List.map_cons, hbi]
      simp only [wsum]
      rw [hw.2] at hgd; omega
    have hwalk : Walk (bs.getD i bd0).src (bs.getD i bd0).src (((i : Int) :: l).map (bAt bs)) := by
      rw [List.map_cons, hbi]
      refine ⟨rfl, ?_⟩
      rw [hsrc] at h5; exact h5
    refine (circleOk_iff hN hv).2 ⟨by simp [h3]; omega, hidx, ?_, by simpa [hbi] using hwalk, hneg⟩
    -- no point twice: the part between would be a shorter circle, or the rest
    obtain ⟨p, hp⟩ : ∃ p, ((i : Int) :: l).map (bAt bs) = p := ⟨_, rfl⟩
    have hpl : p.length = M := by rw [← hp]; simp [h3]; omega
    have hsp : srcsP bs ((i : Int) :: l) = p.map (fun x => x.src) := by rw [← hp]; unfold srcsP; rw [List.map_map]; rfl
    rw [hp] at hov hneg hwalk
    rw [hsp]
    clear hsp hgd hw h5 h6 h7 hidx hidl h1 h3 h4 hg hp
    rw [List.nodup_iff_pairwise_ne, List.pairwise_map]
    by_cases hq : List.Pairwise (fun x y : Bd => x.src ≠ y.src) p
    · exact hq
    · exfalso
      have hdup : ∃ u x m y q, p = u ++ x :: (m ++ y :: q) ∧ x.src = y.src := by
        clear hov hneg hwalk hpl
        induction p with
        | nil => exact absurd List.Pairwise.nil hq
        | cons x p ih =>
          rw [List.pairwise_cons] at hq
          by_cases hx : ∀ y ∈ p, x.src ≠ y.src
          · obtain ⟨u, x', m, y, q, e, e2⟩ := ih (fun h => hq ⟨hx, h⟩)
            exact ⟨x :: u, x', m, y, q, by rw [e]; rfl, e2⟩
          · obtain ⟨y, hy⟩ := Classical.not_forall.1 hx
            obtain ⟨hy1, hy2⟩ := Classical.not_imp.1 hy
            obtain ⟨m, q, e⟩ := List.append_of_mem hy1
            exact ⟨[], x, m, y, q, by rw [e]; rfl, Classical.not_not.1 hy2⟩
      obtain ⟨u, x, m, y, q, e, exy⟩ := hdup
      subst e
      obtain ⟨s1, w1, w2⟩ := walk_append.1 hwalk
      have e1 := w2.1
      subst e1
      obtain ⟨s2, w3, w4⟩ := walk_append.1 w2.2
      have e2 := w4.1
      rw [← exy] at e2
      subst e2
      have hcl : Walk x.src x.src (x :: m) := ⟨rfl, w3⟩
      have hrs : Walk (bs.getD i bd0).src (bs.getD i bd0).src (u ++ y :: q) := w1.trans w4
      have hlen : u.length + (m.length + (q.length + 1) + 1) = M := by simpa using hpl
      rw [wsum_append] at hneg
      simp only [wsum, wsum_append] at hneg
      by_cases hn2 : x.most + wsum m < 0
      · have := hM.2 x.src (m.length + 1) ⟨x :: m, hcl, Over.cons (hov _ (by simp)) (fun z hz => hov z (by simp [hz])), by simp, hn2⟩
        omega
      · have := hM.2 _ (u.length + (q.length + 1)) ⟨u ++ y :: q, hrs, Over.append (fun z hz => hov z (by simp [hz])) (Over.cons (hov _ (by simp)) (fun z hz => hov z (by simp [hz]))), by simp, by rw [wsum_append]; simp only [wsum]; omega⟩
        omega
  · intro k hk
    obtain ⟨a, ha⟩ := circleOk_neg hN hv hk
    have := hM.2 a _ ha
    simp [h3]; omega

end Go.Proofs.YthcmjhellpjllaaGreat

/- Plain laws: values that keep a system: Kept; the greatest and the least values; the lesser and the greater ones of two. No conditions beyond those stated. -/
namespace Go.Proofs.YthcmjhellpjllaaGreat

/-- A list is values. -/
def valuesB (N : Int) (y : List Int) : Bool := decide ((y.length : Int) = N) && (y.getD 0 0 == 0) && !(y.any fun v => !inR v (-400000000) 400000000)
def keptB (y : List Int) (b : Bd) : Bool := decide (b.most < getI y b.dst - getI y b.src)
/-- Kept: the index, whether all are kept, the error. -/
def keptE (N : Int) (bs : List Bd) (y : List Int) : Int × Bool × Int :=
  if checkP N bs ≠ 0 then (0, false, checkP N bs) else if valuesB N y = false then (0, false, 1) else (max (idxOf (keptB y) bs) 0, decide (idxOf (keptB y) bs < 0), 0)

/-- Values that keep a system. -/
structure Keeps (N : Nat) (bs : List Bd) (y : List Int) : Prop where
  len : y.length = N
  zero : y.getD 0 0 = 0
  bd : ∀ v ∈ y, -400000000 ≤ v ∧ v ≤ 400000000
  pot : Pot y bs

theorem valuesB_iff {N : Nat} {y : List Int} : valuesB N y = true ↔ y.length = N ∧ y.getD 0 0 = 0 ∧ ∀ v ∈ y, -400000000 ≤ v ∧ v ≤ 400000000 := by
  unfold valuesB
  simp only [Bool.and_eq_true, decide_eq_true_eq, beq_iff_eq, Bool.not_eq_true', List.any_eq_false, and_assoc]
  constructor
  · rintro ⟨h1, h2, h3⟩; exact ⟨by omega, h2, fun v hv => inR_true.1 (by simpa using h3 v hv)⟩
  · rintro ⟨h1, h2, h3⟩; exact ⟨by omega, h2, fun v hv => by simp [inR_true.2 (h3 v hv)]⟩
theorem kept_pot {bs : List Bd} {y : List Int} : idxOf (keptB y) bs < 0 ↔ Pot y bs := by
  rw [idxOf_neg]
  unfold Pot keptB
  simp only [List.any_eq_false, decide_eq_true_eq]
  constructor
  · intro h b hb; have := h b hb; omega
  · intro h b hb; have := h b hb; omega
theorem keptE_iff {N : Nat} {bs : List Bd} {y : List Int} (hc : checkP N bs = 0) : (keptE N bs y).2.1 = true ↔ Keeps N bs y := by
  unfold keptE
  rw [if_neg (by simp [hc])]
  split
  · rename_i h
    constructor
    · intro e; simp at e
    · intro k; rw [valuesB_iff.2 ⟨k.len, k.zero, k.bd⟩] at h; simp at h
  · rename_i h
    have h2 := valuesB_iff.1 (by simpa using h)
    simp only [decide_eq_true_eq]
    rw [kept_pot]
    exact ⟨fun p => ⟨h2.1, h2.2.1, h2.2.2, p⟩, fun k => k.pot⟩
theorem keptE_err {N : Nat} {bs : List Bd} {y : List Int} (hc : checkP N bs = 0) (h : (keptE N bs y).2.1 = true) : (keptE N bs y).2.2 = 0 ∧ (keptE N bs y).1 = 0 := by
  unfold keptE at h ⊢
  rw [if_neg (by simp [hc])] at h ⊢
  split at h
  · simp at h
  · rename_i h2
    rw [if_neg h2]
    simp only [decide_eq_true_eq] at h
    exact ⟨rfl, by simp only; omega⟩
theorem keptE_bad {N : Int} {bs : List Bd} {y : List Int} (h : (keptE N bs y).2.1 = true) : (keptE N bs y).2.2 = 0 ∧ checkP N bs = 0 := by
  unfold keptE at h ⊢
  split at h
  · simp at h
  · rename_i h1
    rw [if_neg h1]
    split at h
    · simp at h
    · rename_i h2
      rw [if_neg h2]
      exact ⟨rfl, Classical.not_not.1 h1⟩

/-- What keeps a system keeps what a path proves. -/
theorem keeps_walk {N : Nat} {bs : List Bd} {y : List Int} (k : Keeps N bs y) {a b : Int} {l : List Bd} (hw : Walk a b l) (ho : Over bs l) : getI y b - getI y a ≤ wsum l := walk_pot k.pot hw ho
theorem keeps_dist {N : Nat} {bs : List Bd} {t y : List Int} (H : NetOk N bs t) (ht : openedP N bs = some t) (k : Keeps N bs y) {a b : Nat} (ha : a < N) (hb : b < N) (hd : distN N bs a b < farI) : y.getD b 0 - y.getD a 0 ≤ distN N bs a b := by
  rcases dist_cases H ht ha hb with ⟨_, ⟨p, p1, p2, p3⟩, _⟩ | ⟨h, _⟩
  · have := keeps_walk k p1 p2
    unfold getI at this
    rw [Int.toNat_natCast, Int.toNat_natCast] at this
    omega
  · omega

theorem dist_bd {N : Nat} {bs : List Bd} {t : List Int} (H : NetOk N bs t) (ht : openedP N bs = some t) {a b : Nat} (ha : a < N) (hb : b < N) (hd : distN N bs a b < farI) : -((N : Int) * 1000000) ≤ distN N bs a b ∧ distN N bs a b ≤ (N : Int) * 1000000 := by
  rcases dist_cases H ht ha hb with ⟨_, q⟩ | ⟨h, _⟩
  · exact isDist_bd H.valid H.noNeg (by omega) (by omega) q
  · omega
theorem dist_self {N : Nat} {bs : List Bd} {t : List Int} (H : NetOk N bs t) (ht : openedP N bs = some t) {a : Nat} (ha : a < N) : distN N bs a a = 0 := by
  rcases dist_cases H ht ha ha with ⟨_, ⟨p, p1, p2, p3⟩, q⟩ | ⟨_, h⟩
  · have h1 := q [] rfl Over.nil
    have h2 := H.noNeg _ p p1 p2
    simp only [wsum] at h1
    omega
  · exact absurd Over.nil (h [] rfl)
theorem dist_tri {N : Nat} {bs : List Bd} {t : List Int} (H : NetOk N bs t) (ht : openedP N bs = some t) {a b c : Nat} (ha : a < N) (hb : b < N) (hc : c < N) (h1 : distN N bs a b < farI) (h2 : distN N bs b c < farI) : distN N bs a c < farI ∧ distN N bs a c ≤ distN N bs a b + distN N bs b c := by
  rcases dist_cases H ht ha hb with ⟨_, ⟨p, p1, p2, p3⟩, _⟩ | ⟨h, _⟩
  · rcases dist_cases H ht hb hc with ⟨_, ⟨q, q1, q2, q3⟩, _⟩ | ⟨h, _⟩
    · rcases dist_cases H ht ha hc with ⟨h3, _, r⟩ | ⟨_, h⟩
      · have := r (p ++ q) (p1.trans q1) (p2.append q2)
        rw [wsum_append] at this
        exact ⟨h3, by omega⟩
      · exact absurd (p2.append q2) (h (p ++ q) (p1.trans q1))
    · omega
  · omega
theorem dist_step {N : Nat} {bs : List Bd} {t : List Int} (H : NetOk N bs t) (ht : openedP N bs = some t) {b : Bd} (hb : b ∈ bs) : distN N bs b.src.toNat b.dst.toNat < farI ∧ distN N bs b.src.toNat b.dst.toNat ≤ b.most := by
  obtain ⟨v1, v2, v3, v4, v5, v6⟩ := H.valid b hb
  have hw : Walk (b.src.toNat : Int) (b.dst.toNat : Int) [b] := ⟨by omega, by show b.dst = _; omega⟩
  rcases dist_cases H ht (a := b.src.toNat) (b := b.dst.toNat) (by omega) (by omega) with ⟨k1, _, k3⟩ | ⟨_, k2⟩
  · have := k3 [b] hw (Over.one hb)
    simp only [wsum] at this
    exact ⟨k1, by omega⟩
  · exact absurd (Over.one hb) (k2 [b] hw)

/-- The greatest values, the least ones. -/
def highV (N : Nat) (bs : List Bd) : List Int := (List.range N).map fun p => distN N bs 0 p
def lowV (N : Nat) (bs : List Bd) : List Int := (List.range N).map fun p => -distN N bs p 0
/-- Greatest, Least: the list and the error. -/
def extremeE (N : Int) (bs : List Bd) (d : Nat → Int) (v : List Int) : List Int × Int :=
  if askedE N bs [] = 0 then (if (List.range N.toNat).any (fun p => !nB (d p)) then ([], 5) else (v, 0)) else ([], askedE N bs [])
def greatestE (N : Int) (bs : List Bd) : List Int × Int := extremeE N bs (fun p => distN N.toNat bs 0 p) (highV N.toNat bs)
def leastE (N : Int) (bs : List Bd) : List Int × Int := extremeE N bs (fun p => distN N.toNat bs p 0) (lowV N.toNat bs)

theorem highV_get {N : Nat} {bs : List Bd} {p : Nat} (hp : p < N) : (highV N bs).getD p 0 = distN N bs 0 p := by simp [highV, List.getD_eq_getElem?_getD, hp]
theorem lowV_get {N : Nat} {bs : List Bd} {p : Nat} (hp : p < N) : (lowV N bs).getD p 0 = -distN N bs p 0 := by simp [lowV, List.getD_eq_getElem?_getD, hp]

theorem extreme_all {N : Nat} {d : Nat → Int} (h : ¬ (List.range N).any (fun p => !nB (d p)) = true) {p : Nat} (hp : p < N) : d p < farI := by
  simp only [List.any_eq_true, List.mem_range, Bool.not_eq_true', not_exists, not_and, Bool.not_eq_false] at h
  have := h p hp
  unfold nB at this
  unfold farI
  simpa using this

theorem high_keeps {N : Nat} {bs : List Bd} {t : List Int} (H : NetOk N bs t) (ht : openedP N bs = some t) (hall : ∀ p, p < N → distN N bs 0 p < farI) : Keeps N bs (highV N bs) := by
  have h0 := H.n0
  have h1 := H.n1
  refine ⟨by simp [highV], by rw [highV_get (by omega)]; exact dist_self H ht (by omega), fun v hv => ?_, fun b hb => ?_⟩
  · simp only [highV, List.mem_map, List.mem_range] at hv
    obtain ⟨p, hp, rfl⟩ := hv
    have := dist_bd H ht (a := 0) (by omega) hp (hall p hp)
    omega
  · obtain ⟨v1, v2, v3, v4, v5, v6⟩ := H.valid b hb
    have hs : b.src.toNat < N := by omega
    have hd : b.dst.toNat < N := by omega
    have k := dist_step H ht hb
    have := dist_tri H ht (a := 0) (by omega) hs hd (hall _ hs) k.1
    unfold getI
    rw [highV_get hs, highV_get hd]
    omega
theorem low_keeps {N : Nat} {bs : List Bd} {t : List Int} (H : NetOk N bs t) (ht : openedP N bs = some t) (hall : ∀ p, p < N → distN N bs p 0 < farI) : Keeps N bs (lowV N bs) := by
  have h0 := H.n0
  have h1 := H.n1
  refine ⟨by simp [lowV], by rw [lowV_get (by omega), dist_self H ht (by omega)]; rfl, fun v hv => ?_, fun b hb => ?_⟩
  · simp only [lowV, List.mem_map, List.mem_range] at hv
    obtain ⟨p, hp, rfl⟩ := hv
    have := dist_bd H ht (b := 0) hp (by omega) (hall p hp)
    omega
  · obtain ⟨v1, v2, v3, v4, v5, v6⟩ := H.valid b hb
    have hs : b.src.toNat < N := by omega
    have hd : b.dst.toNat < N := by omega
    have k := dist_step H ht hb
    have := dist_tri H ht (c := 0) hs hd (by omega) k.1 (hall _ hd)
    unfold getI
    rw [lowV_get hs, lowV_get hd]
    omega

/-- The lesser and the greater ones of two. -/
def minV (N : Nat) (y z : List Int) : List Int := (List.range N).map fun p => min (y.getD p 0) (z.getD p 0)
def maxV (N : Nat) (y z : List Int) : List Int := (List.range N).map fun p => max (y.getD p 0) (z.getD p 0)
theorem minV_get {N : Nat} {y z : List Int} {p : Nat} (hp : p < N) : (minV N y z).getD p 0 = min (y.getD p 0) (z.getD p 0) := by simp [minV, List.getD_eq_getElem?_getD, hp]
theorem maxV_get {N : Nat} {y z : List Int} {p : Nat} (hp : p < N) : (maxV N y z).getD p 0 = max (y.getD p 0) (z.getD p 0) := by simp [maxV, List.getD_eq_getElem?_getD, hp]
theorem getD_mem {y : List Int} {p : Nat} (h : p < y.length) : y.getD p 0 ∈ y := by rw [List.getD_eq_getElem?_getD, List.getElem?_eq_getElem h]; exact List.getElem_mem h

theorem min_keeps {N : Nat} {bs : List Bd} {y z : List Int} (h0 : 1 ≤ N) (hv : AllValid N bs) (k : Keeps N bs y) (m : Keeps N bs z) : Keeps N bs (minV N y z) := by
  refine ⟨by simp [minV], by rw [minV_get (by omega), k.zero, m.zero]; rfl, fun v hv => ?_, fun b hb => ?_⟩
  · simp only [minV, List.mem_map, List.mem_range] at hv
    obtain ⟨p, hp, rfl⟩ := hv
    have := k.bd _ (getD_mem (p := p) (by rw [k.len]; exact hp))
    have := m.bd _ (getD_mem (p := p) (by rw [m.len]; exact hp))
    omega
  · obtain ⟨v1, v2, v3, v4, v5, v6⟩ := hv b hb
    have h1 := k.pot b hb
    have h2 := m.pot b hb
    unfold getI at *
    rw [minV_get (by omega), minV_get (by omega)]
    omega
theorem max_keeps {N : Nat} {bs : List Bd} {y z : List Int} (h0 : 1 ≤ N) (hv : AllValid N bs) (k : Keeps N bs y) (m : Keeps N bs z) : Keeps N bs (maxV N y z) := by
  refine ⟨by simp [maxV], by rw [maxV_get (by omega), k.zero, m.zero]; rfl, fun v hv => ?_, fun b hb => ?_⟩
  · simp only [maxV, List.mem_map, List.mem_range] at hv
    obtain ⟨p, hp, rfl⟩ := hv
    have := k.bd _ (getD_mem (p := p) (by rw [k.len]; exact hp))
    have := m.bd _ (getD_mem (p := p) (by rw [m.len]; exact hp))
    omega
  · obtain ⟨v1, v2, v3, v4, v5, v6⟩ := hv b hb
    have h1 := k.pot b hb
    have h2 := m.pot b hb
    unfold getI at *
    rw [maxV_get (by omega), maxV_get (by omega)]
    omega

theorem keeps_high {N : Nat} {bs : List Bd} {t y : List Int} (H : NetOk N bs t) (ht : openedP N bs = some t) (k : Keeps N bs y) {p : Nat} (hp : p < N) (hd : distN N bs 0 p < farI) : y.getD p 0 ≤ (highV N bs).getD p 0 := by
  have := keeps_dist H ht k (a := 0) (by have := H.n0; omega) hp hd
  rw [k.zero] at this
  rw [highV_get hp]; omega
theorem keeps_low {N : Nat} {bs : List Bd} {t y : List Int} (H : NetOk N bs t) (ht : openedP N bs = some t) (k : Keeps N bs y) {p : Nat} (hp : p < N) (hd : distN N bs p 0 < farI) : (lowV N bs).getD p 0 ≤ y.getD p 0 := by
  have := keeps_dist H ht k (b := 0) hp (by have := H.n0; omega) hd
  rw [k.zero] at this
  rw [lowV_get hp]; omega

/-- The values of Some keep the system. -/
theorem some_keeps {N : Nat} {bs : List Bd} {t : List Int} (H : NetOk N bs t) (ht : openedP N bs = some t) (hN : N ≤ 18) : Keeps N bs (valuesL N bs) := by
  obtain ⟨h1, h2, h3, h4⟩ := values_keep H ht
  have h0 := H.n0
  refine ⟨h1, ?_, fun v hv => ?_, fun b hb => ?_⟩
  · have hd := dist_self H ht (a := 0) (by omega)
    rw [h4 0 (by omega) (by rw [hd]; unfold farI; omega), hd]
  · obtain ⟨i, hi, rfl⟩ := List.getElem_of_mem hv
    have := h2 i (by omega)
    rw [List.getD_eq_getElem?_getD, List.getElem?_eq_getElem hi] at this
    simp only [Option.getD_some] at this
    have hb : ((N : Int) + 1) * ((N : Int) * 1000000) ≤ 19 * (18 * 1000000) := Int.mul_le_mul (by omega) (by omega) (by omega) (by omega)
    omega
  · have := h3 b hb
    omega

end Go.Proofs.YthcmjhellpjllaaGreat

/- Plain laws: the closure of a system: all its distances as bounds. Conditions: a net that was asked for. -/
namespace Go.Proofs.YthcmjhellpjllaaGreat

/-- The bounds of the distances from a point, of all points. -/
def closeRow (N : Nat) (D : Nat → Nat → Int) (a : Nat) : List Bd := ((List.range N).filter fun b => b != a && nB (D a b)).map fun b : Nat => (⟨(a : Int), (b : Int), D a b, 0⟩ : Bd)
def closeL (N : Nat) (D : Nat → Nat → Int) : List Bd := (List.range N).flatMap (closeRow N D)

theorem mem_closeL {N : Nat} {D : Nat → Nat → Int} {x : Bd} : x ∈ closeL N D ↔ ∃ a b : Nat, a < N ∧ b < N ∧ b ≠ a ∧ D a b < farI ∧ x = ⟨(a : Int), (b : Int), D a b, 0⟩ := by
  unfold closeL closeRow
  simp only [List.mem_flatMap, List.mem_range, List.mem_map, List.mem_filter, Bool.and_eq_true, bne_iff_ne, ne_eq]
  constructor
  · rintro ⟨a, ha, b, ⟨hb, h1, h2⟩, rfl⟩
    exact ⟨a, b, ha, hb, h1, by unfold nB at h2; unfold farI; simpa using h2, rfl⟩
  · rintro ⟨a, b, ha, hb, h1, h2, rfl⟩
    exact ⟨a, ha, b, ⟨hb, h1, by unfold nB; unfold farI at h2; simpa using h2⟩, rfl⟩

theorem closeL_congr {N : Nat} {D E : Nat → Nat → Int} (h : ∀ a b, a < N → b < N → D a b = E a b) : closeL N D = closeL N E := by
  unfold closeL
  rw [List.flatMap_def, List.flatMap_def]
  congr 1
  apply List.map_congr_left
  intro a ha
  have ha' := List.mem_range.1 ha
  unfold closeRow
  rw [List.filter_congr (q := fun b => b != a && nB (E a b)) (fun b hb => by rw [h a b ha' (List.mem_range.1 hb)])]
  apply List.map_congr_left
  intro b hb
  have := List.mem_range.1 (List.mem_filter.1 hb).1
  rw [h a b ha' this]

theorem closeRow_len (N : Nat) (D : Nat → Nat → Int) {a : Nat} (ha : a < N) : (closeRow N D a).length + 1 ≤ N := by
  unfold closeRow
  rw [List.length_map]
  have h1 : ((List.range N).filter fun b => b != a && nB (D a b)).length ≤ ((List.range N).filter fun b => b != a).length := by
    rw [← List.countP_eq_length_filter, ← List.countP_eq_length_filter]
    exact List.countP_mono_left (fun b _ h => by simp only [Bool.and_eq_true] at h; exact h.1)
  have h2 := filter_len_drop N (fun _ => true) (fun b => b != a) (k := a) ha rfl (by simp) (fun i hi => by simp [hi])
  rw [List.filter_eq_self.2 (fun _ _ => rfl), List.length_range] at h2
  omega
theorem closeL_len (N : Nat) (D : Nat → Nat → Int) : (closeL N D).length + N ≤ N * N := by
  unfold closeL
  have : ∀ k, k ≤ N → ((List.range k).flatMap (closeRow N D)).length + k ≤ k * N := by
    intro k
    induction k with
    | zero => intro _; simp
    | succ k ih =>
      intro hk
      rw [List.range_succ, List.flatMap_append, List.length_append, Nat.succ_mul]
      have := ih (by omega)
      have := closeRow_len N D (a := k) (by omega)
      simp only [List.flatMap_cons, List.flatMap_nil, List.append_nil]
      omega
  exact this N (Nat.le_refl _)

/-- A closure that is small enough has a net, and the same distances. -/
theorem close_same {N : Nat} {bs : List Bd} {t : List Int} (H : NetOk N bs t) (ht : openedP N bs = some t) (hl : (closeL N (distN N bs)).length ≤ 2000) (hb : ∀ a b, a < N → b < N → distN N bs a b < farI → -1000000 ≤ distN N bs a b ∧ distN N bs a b ≤ 1000000) :
    checkP N (closeL N (distN N bs)) = 0 ∧ ∃ u, openedP N (closeL N (distN N bs)) = some u ∧ NetOk N (closeL N (distN N bs)) u ∧ ∀ a b, a < N → b < N → distN N (closeL N (distN N bs)) a b = distN N bs a b := by
  have h0 := H.n0
  have h1 := H.n1
  obtain ⟨C, hC⟩ : ∃ C, closeL N (distN N bs) = C := ⟨_, rfl⟩
  have hm : ∀ x, x ∈ C ↔ ∃ a b : Nat, a < N ∧ b < N ∧ b ≠ a ∧ distN N bs a b < farI ∧ x = ⟨(a : Int), (b : Int), distN N bs a b, 0⟩ := fun x => by rw [← hC]; exact mem_closeL
  rw [hC] at hl ⊢
  have hv : AllValid N C := by
    intro x hx
    obtain ⟨a, b, ha, hb2, _, hd, rfl⟩ := (hm x).1 hx
    have := hb a b ha hb2 hd
    exact ⟨by simp only; omega, by simp only; omega, by simp only; omega, by simp only; omega, this.1, this.2⟩
  -- each bound of the closure is a walk over the system
  have hwalk : ∀ p (a b : Int), Walk a b p → Over C p → ∃ q, Walk a b q ∧ Over bs q ∧ wsum q = wsum p := by
    intro p
    induction p with
    | nil => intro a b hw _; exact ⟨[], hw, Over.nil, rfl⟩
    | cons x p ih =>
      intro a b hw ho
      obtain ⟨q, q1, q2, q3⟩ := ih _ _ hw.2 ho.tail
      obtain ⟨s, e, hs, he, _, hd, hx⟩ := (hm x).1 ho.head
      have e1 := hw.1
      subst hx
      rcases dist_cases H ht hs he with ⟨_, ⟨r, r1, r2, r3⟩, _⟩ | ⟨k, _⟩
      · simp only at e1 q1
        rw [← e1]
        exact ⟨r ++ q, r1.trans q1, r2.append q2, by rw [wsum_append]; simp only [wsum]; omega⟩
      · omega
  have hn : NoNeg C := by
    intro a l hw ho
    obtain ⟨q, q1, q2, q3⟩ := hwalk l a a hw ho
    have := H.noNeg a q q1 q2
    omega
  obtain ⟨u, hu⟩ := openedP_some h1 hv hn
  have K := netOk_of_opened h0 h1 (by omega) hv hu
  refine ⟨?_, u, hu, K, fun a b ha hb2 => ?_⟩
  · unfold checkP
    rw [if_neg (by omega)]
    unfold checkedP
    rw [if_neg (by omega), if_neg]
    simp only [List.any_eq_true, not_exists, not_and, Bool.not_eq_true]
    intro x hx
    obtain ⟨a, b, ha, hb2, hne, hd, rfl⟩ := (hm x).1 hx
    have := hb a b ha hb2 hd
    unfold badB inR
    simp only [Bool.or_eq_false_iff, Bool.not_eq_false', Bool.and_eq_true, decide_eq_true_eq, beq_eq_false_iff_ne]
    refine ⟨⟨⟨⟨?_, ?_⟩, ?_⟩, this⟩, ?_⟩ <;> omega
  · rcases dist_cases K hu ha hb2 with ⟨k1, ⟨p, p1, p2, p3⟩, k3⟩ | ⟨k1, k2⟩
    · obtain ⟨q, q1, q2, q3⟩ := hwalk p _ _ p1 p2
      rcases dist_cases H ht ha hb2 with ⟨j1, _, j3⟩ | ⟨_, j2⟩
      · have h5 := j3 q q1 q2
        by_cases e : b = a
        · subst e
          rw [dist_self K hu ha, dist_self H ht ha]
        · have hin : (⟨(a : Int), (b : Int), distN N bs a b, 0⟩ : Bd) ∈ C := (hm _).2 ⟨a, b, ha, hb2, e, j1, rfl⟩
          have := k3 [⟨(a : Int), (b : Int), distN N bs a b, 0⟩] ⟨rfl, rfl⟩ (Over.one hin)
          simp only [wsum] at this
          omega
      · exact absurd q2 (j2 q q1)
    · rcases dist_cases H ht ha hb2 with ⟨j1, _, j3⟩ | ⟨j1, _⟩
      · by_cases e : b = a
        · subst e
          exact absurd Over.nil (k2 [] rfl)
        · have hin : (⟨(a : Int), (b : Int), distN N bs a b, 0⟩ : Bd) ∈ C := (hm _).2 ⟨a, b, ha, hb2, e, j1, rfl⟩
          exact absurd (Over.one hin) (k2 [⟨(a : Int), (b : Int), distN N bs a b, 0⟩] ⟨rfl, rfl⟩)
      · rw [k1, j1]

/-- Whether a distance is too great for a bound. -/
def closeBad (N : Nat) (D : Nat → Nat → Int) : Bool := (closeL N D).any fun x => !inR x.most (-1000000) 1000000
/-- Close: the number of points, the bounds, the error. -/
def closeE (N : Int) (bs : List Bd) : Int × List Bd × Int :=
  if askedE N bs [] = 0 then (if closeBad N.toNat (distN N.toNat bs) = true ∨ 2000 < (closeL N.toNat (distN N.toNat bs)).length then (0, [], 2) else (N, closeL N.toNat (distN N.toNat bs), 0)) else (0, [], askedE N bs [])

/-- Where Blame finds a record, each negative circle has a bound of it. -/
theorem blamed_in {N : Nat} {bs : List Bd} (hN : N ≤ 128) (hv : AllValid N bs) {r : Int} {cs : List Bd} (hcs : ∀ x ∈ bs, x.rcd ≠ r → x ∈ cs) (hsub : ∀ x ∈ cs, x ∈ bs) (hk : keptP N cs = true) {l : List Int} (h : circleOkP bs l = true) : ∃ i ∈ l, 0 ≤ i ∧ i < bs.length ∧ (bAt bs i).rcd = r := by
  obtain ⟨h1, h2, h3, h4, h5⟩ := (circleOk_iff hN hv).1 h
  apply Classical.byContradiction
  intro hno
  have hvc : AllValid N cs := fun x hx => hv x (hsub x hx)
  have hn := (keptP_iff hN hvc).1 hk
  have ho := over_idx h2
  have := hn _ _ h4 (fun x hx => by
    refine hcs x (ho x hx) (fun e => ?_)
    obtain ⟨i, hi, rfl⟩ := List.mem_map.1 hx
    have hr := indexP_iff.1 h2 i hi
    exact hno ⟨i, hi, hr.1, hr.2, e⟩)
  omega

end Go.Proofs.YthcmjhellpjllaaGreat

/- Plain laws: the classes of points whose differences are fixed. Conditions: a net that was asked for. -/
namespace Go.Proofs.YthcmjhellpjllaaGreat

/-- Two points have a fixed difference. -/
def sameD (D : Nat → Nat → Int) (a b : Nat) : Bool := decide (D a b < 1125899906842624) && decide (D b a < 1125899906842624) && (D a b + D b a == 0)
def leader (D : Nat → Nat → Int) (a : Nat) : Bool := !((List.range a).any fun x => sameD D x a)
def classD (N : Nat) (D : Nat → Nat → Int) (a : Nat) : List Int := ((List.range N).filter fun b => decide (a ≤ b) && sameD D a b).map fun b : Nat => (b : Int)
def rigidL (N : Nat) (D : Nat → Nat → Int) : List (List Int) := ((List.range N).filter (leader D)).map (classD N D)

/-- One point looked at, as the program does it. -/
def rigidAt (N : Nat) (D : Nat → Nat → Int) (st : List Bool × List (List Int)) (a : Nat) : List Bool × List (List Int) :=
  if st.1.getD a false = true then st else ((List.range N).map fun b => st.1.getD b false || (decide (a ≤ b) && sameD D a b), st.2 ++ [classD N D a])
def rigidS (N : Nat) (D : Nat → Nat → Int) (k : Nat) : List Bool × List (List Int) := (List.range k).foldl (rigidAt N D) (List.replicate N false, [])

structure EqvD (N : Nat) (D : Nat → Nat → Int) : Prop where
  refl : ∀ a, a < N → sameD D a a = true
  symm : ∀ a b, a < N → b < N → sameD D a b = true → sameD D b a = true
  trans : ∀ a b c, a < N → b < N → c < N → sameD D a b = true → sameD D b c = true → sameD D a c = true

theorem eqvD_of {N : Nat} {bs : List Bd} {t : List Int} (H : NetOk N bs t) (ht : openedP N bs = some t) : EqvD N (distN N bs) := by
  have e : ∀ a b, sameD (distN N bs) a b = true ↔ distN N bs a b < farI ∧ distN N bs b a < farI ∧ distN N bs a b + distN N bs b a = 0 := by
    intro a b
    unfold sameD farI
    simp [and_assoc]
  refine ⟨fun a ha => ?_, fun a b ha hb h => ?_, fun a b c ha hb hc h k => ?_⟩
  · rw [e, dist_self H ht ha]; unfold farI; omega
  · rw [e] at h ⊢; omega
  · rw [e] at h k ⊢
    have h1 := dist_tri H ht ha hb hc h.1 k.1
    have h2 := dist_tri H ht hc hb ha k.2.1 h.2.1
    have h3 := (dist_tri H ht ha hc ha h1.1 h2.1).2
    rw [dist_self H ht ha] at h3
    refine ⟨h1.1, h2.1, by omega⟩

theorem range_get (k i : Nat) : (List.range k)[i]? = if i < k then some i else none := by
  split
  · rw [List.getElem?_range ‹_›]
  · rw [List.getElem?_eq_none (by simp; omega)]

theorem rigidS_eq {N : Nat} {D : Nat → Nat → Int} (E : EqvD N D) : ∀ k, k ≤ N → rigidS N D k = ((List.range N).map fun p => (List.range k).any fun a => decide (a ≤ p) && sameD D a p, ((List.range k).filter (leader D)).map (classD N D))
  | 0, _ => by
    unfold rigidS
    simp only [List.range_zero, List.foldl_nil, List.any_nil, List.filter_nil, List.map_nil, Prod.mk.injEq, and_true]
    apply List.ext_getElem?
    intro i
    simp only [List.getElem?_replicate, List.getElem?_map, range_get]
    split <;> simp
  | k + 1, hk => by
    have ih := rigidS_eq E k (by omega)
    unfold rigidS at ih ⊢
    rw [List.range_succ, List.foldl_append, ih]
    simp only [List.foldl_cons, List.foldl_nil]
    have hget : ∀ p, p < N → ((List.range N).map fun p => (List.range k).any fun a => decide (a ≤ p) && sameD D a p).getD p false = (List.range k).any fun a => decide (a ≤ p) && sameD D a p := by
      intro p hp
      simp [List.getD_eq_getElem?_getD, hp]
    have hlead : ((List.range k).any fun a => decide (a ≤ k) && sameD D a k) = !leader D k := by
      unfold leader
      rw [Bool.not_not]
      rw [Bool.eq_iff_iff]
      simp only [List.any_eq_true, List.mem_range, Bool.and_eq_true, decide_eq_true_eq]
      constructor
      · rintro ⟨a, h1, _, h2⟩; exact ⟨a, h1, h2⟩
      · rintro ⟨a, h1, h2⟩; exact ⟨a, h1, by omega, h2⟩
    unfold rigidAt
    simp only
    rw [hget k (by omega), hlead]
    cases hl : leader D k with
    | false =>
      rw [if_pos (by rfl), List.filter_append]
      simp only [List.filter_cons, hl, List.filter_nil, List.append_nil, Prod.mk.injEq, and_true, Bool.false_eq_true, if_false]
      apply List.map_congr_left
      intro p hp
      have hp' := List.mem_range.1 hp
      rw [List.any_append]
      simp only [List.any_cons, List.any_nil, Bool.or_false]
      unfold leader at hl
      simp only [Bool.not_eq_false', List.any_eq_true, List.mem_range] at hl
      obtain ⟨x, hx1, hx2⟩ := hl
      rw [Bool.eq_iff_iff, Bool.or_eq_true]
      constructor
      · exact .inl
      · rintro (h | h)
        · exact h
        · simp only [Bool.and_eq_true, decide_eq_true_eq] at h
          simp only [List.any_eq_true, List.mem_range, Bool.and_eq_true, decide_eq_true_eq]
          exact ⟨x, hx1, by omega, E.trans x k p (by omega) (by omega) hp' hx2 h.2⟩
    | true =>
      rw [if_neg (by simp), List.filter_append]
      simp only [List.filter_cons, hl, List.filter_nil, if_true, List.map_append, List.map_cons, List.map_nil, Prod.mk.injEq, and_true]
      apply List.map_congr_left
      intro p hp
      rw [hget p (List.mem_range.1 hp), List.any_append]
      simp

/-- The mirror of Rigid. -/
def rigidE (N : Int) (bs : List Bd) : List (List Int) × Int := if askedE N bs [] = 0 then (rigidL N.toNat (distN N.toNat bs), 0) else ([], askedE N bs [])

theorem mem_classD {N : Nat} {D : Nat → Nat → Int} {a : Nat} {x : Int} : x ∈ classD N D a ↔ ∃ b : Nat, b < N ∧ a ≤ b ∧ sameD D a b = true ∧ x = b := by
  unfold classD
  simp only [List.mem_map, List.mem_filter, List.mem_range, Bool.and_eq_true, decide_eq_true_eq]
  constructor
  · rintro ⟨b, ⟨h1, h2, h3⟩, rfl⟩; exact ⟨b, h1, h2, h3, rfl⟩
  · rintro ⟨b, h1, h2, h3, rfl⟩; exact ⟨b, ⟨h1, h2, h3⟩, rfl⟩

/-- The leader of a point. -/
theorem leader_of {N : Nat} {D : Nat → Nat → Int} (E : EqvD N D) {p : Nat} (hp : p < N) : ∃ a, a ≤ p ∧ sameD D a p = true ∧ leader D a = true := by
  obtain ⟨a, ha, hl⟩ := least_of (Q := fun a => sameD D a p = true) p p (Nat.le_refl _) (E.refl p hp)
  have hap := hl p (E.refl p hp)
  refine ⟨a, hap, ha, ?_⟩
  unfold leader
  cases hq : (List.range a).any fun x => sameD D x a with
  | false => rfl
  | true =>
    simp only [List.any_eq_true, List.mem_range] at hq
    obtain ⟨x, hx, hxa⟩ := hq
    have := hl x (E.trans x a p (by omega) (by omega) hp hxa ha)
    omega
theorem leader_one {N : Nat} {D : Nat → Nat → Int} (E : EqvD N D) {a b p : Nat} (hp : p < N) (ha : a ≤ p) (hb : b ≤ p) (h1 : sameD D a p = true) (h2 : sameD D b p = true) (l1 : leader D a = true) (l2 : leader D b = true) : a = b := by
  have hab : sameD D a b = true := E.trans a p b (by omega) hp (by omega) h1 (E.symm b p (by omega) hp h2)
  have hba := E.symm a b (by omega) (by omega) hab
  unfold leader at l1 l2
  simp only [Bool.not_eq_true', List.any_eq_false, List.mem_range, Bool.not_eq_true] at l1 l2
  rcases Nat.lt_trichotomy a b with h | h | h
  · rw [l2 a h] at hab; simp at hab
  · exact h
  · rw [l1 b h] at hba; simp at hba

end Go.Proofs.YthcmjhellpjllaaGreat
