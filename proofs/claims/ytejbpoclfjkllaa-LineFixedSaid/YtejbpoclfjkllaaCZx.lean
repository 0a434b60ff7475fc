/- Maps whose keys and values are integers, as a call's own memory. No conditions. -/
import Derived.Test.YtejbpoclfjkllaaA1
import Derived.Test.YtejbpoclfjkllaaCPlZ
namespace Go.Proofs.Ytejbpoclfjkllaa
open Go Go.RowKit

/-- The entries of a map, in the order in which they came. -/
def mapL : Nat → List (Int × Int) → List MapEntry
  | _, [] => []
  | c, (k, v) :: l => { key := .int .i64 k, val := .int .i64 v, born := c } :: mapL (c + 1) l
def mapO (l : List (Int × Int)) : Obj := .map (mapL 0 l).toArray l.length

theorem mapL_append (x : Int × Int) : ∀ (c : Nat) (l : List (Int × Int)), mapL c (l ++ [x]) = mapL c l ++ [{ key := .int .i64 x.1, val := .int .i64 x.2, born := c + l.length }]
  | c, [] => by simp [mapL]
  | c, (k, v) :: l => by
    simp only [List.cons_append, mapL, List.length_cons, mapL_append x (c + 1) l]
    rw [show c + 1 + l.length = c + (l.length + 1) by omega]
theorem mapL_length : ∀ (c : Nat) (l : List (Int × Int)), (mapL c l).length = l.length
  | _, [] => rfl
  | c, (k, v) :: l => by simp [mapL, mapL_length (c + 1) l]
/-- Whether a key is there, and its value. -/
def mapAt (k : Int) : List (Int × Int) → Option Int
  | [] => none
  | (x, v) :: l => if x = k then some v else mapAt k l
theorem sameNow_int (a b : Int) : Instr.sameNow (.int .i64) (.int .i64 a) (.int .i64 b) = some (a == b) := by rfl
theorem find_none {k : Int} : ∀ (c i : Nat) (l : List (Int × Int)), mapAt k l = none → Instr.findNow (.int .i64) (.int .i64 k) (mapL c l) i = some none
  | _, _, [], _ => rfl
  | c, i, (x, v) :: l, h => by
    simp only [mapAt] at h
    by_cases e : x = k
    · rw [if_pos e] at h; cases h
    · rw [if_neg e] at h
      have ne : (k == x) = false := by simpa using fun q : k = x => e q.symm
      simp only [mapL, Instr.findNow, sameNow_int, ne]
      exact find_none (c + 1) (i + 1) l h
theorem find_some {k u : Int} : ∀ (c i : Nat) (l : List (Int × Int)), mapAt k l = some u → ∃ j, Instr.findNow (.int .i64) (.int .i64 k) (mapL c l) i = some (some (j, .int .i64 u))
  | _, _, [], h => by simp [mapAt] at h
  | c, i, (x, v) :: l, h => by
    simp only [mapAt] at h
    by_cases e : x = k
    · rw [if_pos e] at h
      have ye : (k == x) = true := by simpa using e.symm
      simp only [mapL, Instr.findNow, sameNow_int, ye]
      exact ⟨i, by rw [Option.some.inj h]⟩
    · rw [if_neg e] at h
      have ne : (k == x) = false := by simpa using fun q : k = x => e q.symm
      simp only [mapL, Instr.findNow, sameNow_int, ne]
      exact find_some (c + 1) (i + 1) l h
theorem checkKey_int {P : Program} {kt : TypeId} (hk : P.underlying kt = some (.int .i64)) (e : Bool) (n : Nat) (s : Int) (w : World) : (Instr.checkKey e (n + 1) kt (.int .i64 s)).run P w = .ok () w := by
  unfold Instr.checkKey
  rw [Sem.run_bind, run_underlying hk]
  rfl
theorem run_findKey_int {P : Program} {kt : TypeId} (hk : P.underlying kt = some (.int .i64)) {s : Int} {es : List MapEntry} {r : Option (Nat × Value)} (hf : Instr.findNow (.int .i64) (.int .i64 s) es 0 = some r) (w : World) : (Instr.findKey kt (.int .i64 s) es).run P w = .ok r w := by
  unfold Instr.findKey
  rw [Sem.run_bind, run_underlying hk]
  simp only [Result.andThen_ok, hf]
  rfl
/-- A new key. -/
theorem run_map_new {P : Program} {t kt et : TypeId} {r : Nat} {l : List (Int × Int)} {k v : Int} {w : World} (hm : P.underlying t = some (.map kt et)) (hk : P.underlying kt = some (.int .i64)) (ho : w.heap[r]? = some (mapO l)) (hf : mapAt k l = none) :
    (Instr.mapUpdate t (.map (some r)) (.int .i64 k) (.int .i64 v)).run P w = .ok () (w.putObj r (mapO (l ++ [(k, v)]))) := by
  have ho' : w.heap[r]? = some (.map (mapL 0 l).toArray l.length) := ho
  unfold Instr.mapUpdate
  rw [Sem.run_bind, run_underlying hm]
  simp only [Result.andThen_ok]
  rw [Sem.run_bind, run_getObj_map ho']
  simp only [Result.andThen_ok]
  rw [Sem.run_bind, checkKey_int hk false 9999]
  simp only [Result.andThen_ok]
  rw [Sem.run_bind, run_findKey_int hk (find_none 0 0 l hf)]
  simp only [Result.andThen_ok]
  rw [run_setObj_map ho']
  unfold mapO
  rw [mapL_append]
  simp
/-- A key that is there, with the second result. -/
theorem run_map_at {P : Program} {t kt et : TypeId} {r : Nat} {l : List (Int × Int)} {k v : Int} {w : World} (hm : P.underlying t = some (.map kt et)) (hk : P.underlying kt = some (.int .i64)) (ho : w.heap[r]? = some (mapO l)) (hf : mapAt k l = some v) :
    (Instr.lookup t (.map (some r)) (.int .i64 k) true).run P w = .ok (.tuple #[.int .i64 v, .bool true]) w := by
  have ho' : w.heap[r]? = some (.map (mapL 0 l).toArray l.length) := ho
  obtain ⟨j, hj⟩ := find_some 0 0 l hf
  unfold Instr.lookup
  rw [Sem.run_bind, run_underlying hm]
  simp only [Result.andThen_ok]
  simp only [Sem.run_bind, run_getObj_map ho', Result.andThen_ok, Sem.run_pure]
  rw [checkKey_int hk _ 9999]
  simp only [Result.andThen_ok]
  rw [run_findKey_int hk hj]
  simp [Result.andThen_ok]

/-! The classes, laid into a map. -/

/-- The pairs of the first i classes. -/
def pairsTo (ls : List (List Int)) (i : Nat) : List (Int × Int) := (List.range i).flatMap fun j => (ls.getD j []).map fun p => (p, (j : Int))
theorem pairsTo_succ (ls : List (List Int)) (i : Nat) : pairsTo ls (i + 1) = pairsTo ls i ++ (ls.getD i []).map fun p => (p, (i : Int)) := by
  unfold pairsTo; rw [List.range_succ, List.flatMap_append]; simp
theorem mapAt_append (k : Int) : ∀ (l m : List (Int × Int)), mapAt k (l ++ m) = (mapAt k l).or (mapAt k m)
  | [], m => by simp [mapAt]
  | (x, v) :: l, m => by
    simp only [List.cons_append, mapAt]
    by_cases e : x = k
    · simp [e]
    · simp [e, mapAt_append k l m]
theorem mapAt_class {k i : Int} : ∀ (c : List Int), mapAt k (c.map fun p => (p, i)) = if k ∈ c then some i else none
  | [] => rfl
  | x :: c => by
    simp only [List.map_cons, mapAt, List.mem_cons]
    by_cases e : x = k
    · simp [e]
    · rw [if_neg e, mapAt_class c]
      simp [Ne.symm e]
theorem mapAt_pairs {ls : List (List Int)} {k : Int} : ∀ i, (mapAt k (pairsTo ls i) = none ↔ ∀ j, j < i → k ∉ ls.getD j [])
  | 0 => by simp [pairsTo, mapAt]
  | i + 1 => by
    rw [pairsTo_succ, mapAt_append, mapAt_class]
    have ih := mapAt_pairs (ls := ls) (k := k) i
    constructor
    · intro h j hj
      cases h1 : mapAt k (pairsTo ls i) with
      | some v => rw [h1] at h; simp at h
      | none =>
        rw [h1] at h
        by_cases e : j = i
        · subst e; intro hm; rw [Option.none_or, if_pos hm] at h; cases h
        · exact ih.1 h1 j (by omega)
    · intro h
      rw [ih.2 (fun j hj => h j (by omega)), if_neg (h i (by omega))]; rfl
theorem mapAt_found {ls : List (List Int)} {k : Int} : ∀ (i j : Nat), j < i → k ∈ ls.getD j [] → (∀ q, q < j → k ∉ ls.getD q []) → mapAt k (pairsTo ls i) = some (j : Int)
  | 0, j, h, _, _ => by omega
  | i + 1, j, h, hm, hno => by
    rw [pairsTo_succ, mapAt_append, mapAt_class]
    by_cases e : j = i
    · subst e
      rw [(mapAt_pairs j).2 hno, if_pos hm]; rfl
    · rw [mapAt_found i j (by omega) hm hno]; rfl

/-- The pairs of the first i classes and of the first k points of the next one. -/
def pairsAt (ls : List (List Int)) (i k : Nat) : List (Int × Int) := pairsTo ls i ++ ((ls.getD i []).take k).map fun p => (p, (i : Int))
theorem pairsAt_zero (ls : List (List Int)) (i : Nat) : pairsAt ls i 0 = pairsTo ls i := by simp [pairsAt]
theorem pairsAt_next {ls : List (List Int)} {i k : Nat} (hk : k < (ls.getD i []).length) : pairsAt ls i (k + 1) = pairsAt ls i k ++ [((ls.getD i [])[k], (i : Int))] := by
  unfold pairsAt
  rw [List.take_succ_eq_append_getElem hk, List.map_append, List.append_assoc]; rfl
theorem pairsAt_end {ls : List (List Int)} {i k : Nat} (hk : (ls.getD i []).length ≤ k) : pairsAt ls i k = pairsTo ls (i + 1) := by
  unfold pairsAt
  rw [List.take_of_length_le hk, pairsTo_succ]

theorem sub_len : ∀ {l m : List Int}, l.Nodup → (∀ x ∈ l, x ∈ m) → l.length ≤ m.length
  | [], _, _, _ => Nat.zero_le _
  | x :: l, m, hn, hs => by
    have hx := hs x (List.mem_cons_self ..)
    have hn2 := List.nodup_cons.1 hn
    have ih := sub_len (l := l) (m := m.erase x) hn2.2 (fun y hy => (List.mem_erase_of_ne (fun e => hn2.1 (by rw [← e]; exact hy))).2 (hs y (List.mem_cons_of_mem _ hy)))
    rw [List.length_erase_of_mem hx] at ih
    have := List.length_pos_of_mem hx
    simp only [List.length_cons]; omega

/-- What the classes of fixed points are. -/
structure Classes (N : Nat) (D : Nat → Nat → Int) (ls : List (List Int)) : Prop where
  range : ∀ i, i < ls.length → ∀ p ∈ ls.getD i [], 0 ≤ p ∧ p < N
  ne : ∀ i, i < ls.length → 0 < (ls.getD i []).length
  up : ∀ i, i < ls.length → ∀ k (h : k + 1 < (ls.getD i []).length), (ls.getD i [])[k] < (ls.getD i [])[k + 1]
  heads : ∀ i (_h1 : i + 1 < ls.length) (h2 : 0 < (ls.getD i []).length) (h3 : 0 < (ls.getD (i + 1) []).length), (ls.getD i [])[0] < (ls.getD (i + 1) [])[0]
  once : ∀ i j (p : Int), i < ls.length → j < ls.length → p ∈ ls.getD i [] → p ∈ ls.getD j [] → i = j
  all : ∀ a, a < N → ∃ i, i < ls.length ∧ (a : Int) ∈ ls.getD i []
  same : ∀ a b i j, a < N → b < N → i < ls.length → j < ls.length → (a : Int) ∈ ls.getD i [] → (b : Int) ∈ ls.getD j [] → (i = j ↔ sameD D a b = true)

theorem classD_pair (N : Nat) (D : Nat → Nat → Int) (a : Nat) : (classD N D a).Pairwise (· < ·) := by
  unfold classD
  rw [List.pairwise_map]
  exact (List.pairwise_lt_range.filter _).imp (fun h => by omega)
theorem classD_head {N : Nat} {D : Nat → Nat → Int} (E : EqvD N D) {a : Nat} (ha : a < N) : ∃ h : 0 < (classD N D a).length, (classD N D a)[0] = (a : Int) := by
  have hmem : (a : Int) ∈ classD N D a := mem_classD.2 ⟨a, ha, Nat.le_refl _, E.refl a ha, rfl⟩
  have hpos := List.length_pos_of_mem hmem
  refine ⟨hpos, ?_⟩
  obtain ⟨k, hk, e⟩ := List.getElem_of_mem hmem
  have hle : ∀ x ∈ classD N D a, (a : Int) ≤ x := fun x hx => by obtain ⟨b, _, h2, _, rfl⟩ := mem_classD.1 hx; omega
  by_cases h0 : k = 0
  · subst h0; exact e
  · have := (List.pairwise_iff_getElem.1 (classD_pair N D a)) 0 k hpos hk (by omega)
    have h2 := hle _ (List.getElem_mem hpos)
    omega
theorem rigid_classes {N : Nat} {D : Nat → Nat → Int} (E : EqvD N D) : Classes N D (rigidL N D) := by
  have hlen : (rigidL N D).length = ((List.range N).filter (leader D)).length := by unfold rigidL; simp
  have hget : ∀ i (hi : i < (rigidL N D).length), ∃ a, a < N ∧ leader D a = true ∧ ((List.range N).filter (leader D))[i]'(by omega) = a ∧ (rigidL N D).getD i [] = classD N D a := by
    intro i hi
    have hi2 : i < ((List.range N).filter (leader D)).length := by omega
    have hm := List.getElem_mem hi2
    rw [List.mem_filter, List.mem_range] at hm
    exact ⟨_, hm.1, hm.2, rfl, by unfold rigidL; simp [List.getD_eq_getElem?_getD, hi2]⟩
  have hone : ∀ i j (p : Int), i < (rigidL N D).length → j < (rigidL N D).length → p ∈ (rigidL N D).getD i [] → p ∈ (rigidL N D).getD j [] → i = j := by
    intro i j p hi hj h1 h2
    obtain ⟨a, ha, la, ea, e1⟩ := hget i hi
    obtain ⟨b, hb, lb, eb, e2⟩ := hget j hj
    rw [e1] at h1
    rw [e2] at h2
    obtain ⟨q, hq, hq1, hq2, rfl⟩ := mem_classD.1 h1
    obtain ⟨q', hq', hq1', hq2', e⟩ := mem_classD.1 h2
    have : q' = q := by omega
    subst this
    have hab := leader_one E hq hq1 hq1' hq2 hq2' la lb
    have hpw := List.pairwise_iff_getElem.1 (List.pairwise_lt_range.filter (leader D) (l := List.range N))
    rcases Nat.lt_trichotomy i j with h | h | h
    · have := hpw i j (by omega) (by omega) h
      rw [ea, eb] at this; omega
    · exact h
    · have := hpw j i (by omega) (by omega) h
      rw [ea, eb] at this; omega
  refine ⟨?_, ?_, ?_, ?_, hone, ?_, ?_⟩
  · intro i hi p hp
    obtain ⟨a, ha, la, ea, e1⟩ := hget i hi
    rw [e1] at hp
    obtain ⟨q, hq, _, _, rfl⟩ := mem_classD.1 hp
    omega
  · intro i hi
    obtain ⟨a, ha, la, ea, e1⟩ := hget i hi
    rw [e1]
    exact (classD_head E ha).1
  · intro i hi k h
    obtain ⟨a, ha, la, ea, e1⟩ := hget i hi
    have hp := classD_pair N D a
    rw [← e1] at hp
    exact (List.pairwise_iff_getElem.1 hp) k (k + 1) (by omega) h (by omega)
  · intro i h1 h2 h3
    obtain ⟨a, ha, la, ea, e1⟩ := hget i (by omega)
    obtain ⟨b, hb, lb, eb, e2⟩ := hget (i + 1) h1
    obtain ⟨_, g1⟩ := classD_head E ha
    obtain ⟨_, g2⟩ := classD_head E hb
    have k1 : ((rigidL N D).getD i [])[0] = (a : Int) := by rw [← g1]; congr 1
    have k2 : ((rigidL N D).getD (i + 1) [])[0] = (b : Int) := by rw [← g2]; congr 1
    rw [k1, k2]
    have := (List.pairwise_iff_getElem.1 (List.pairwise_lt_range.filter (leader D) (l := List.range N))) i (i + 1) (by omega) (by omega) (by omega)
    rw [ea, eb] at this
    omega
  · intro a ha
    obtain ⟨l, h1, h2, h3⟩ := leader_of E ha
    have hm : l ∈ (List.range N).filter (leader D) := List.mem_filter.2 ⟨List.mem_range.2 (by omega), h3⟩
    obtain ⟨i, hi, e⟩ := List.getElem_of_mem hm
    refine ⟨i, by omega, ?_⟩
    obtain ⟨a', _, _, ea, e1⟩ := hget i (by omega)
    rw [e1, ← ea, e]
    exact mem_classD.2 ⟨a, ha, h1, h2, rfl⟩
  · intro a b i j ha hb hi hj h1 h2
    obtain ⟨l, hl, la, el, e1⟩ := hget i hi
    obtain ⟨m, hm, lm, em, e2⟩ := hget j hj
    have g1 := h1
    have g2 := h2
    rw [e1] at g1
    rw [e2] at g2
    obtain ⟨q, _, q1, q2, e⟩ := mem_classD.1 g1
    obtain ⟨r, _, r1, r2, e'⟩ := mem_classD.1 g2
    obtain rfl : q = a := by omega
    obtain rfl : r = b := by omega
    constructor
    · intro hij
      subst hij
      have hlm : l = m := by rw [← el, ← em]
      subst hlm
      exact E.trans q l r ha hl hb (E.symm l q hl ha q2) r2
    · intro hs
      by_cases hlm : l ≤ r
      · have h3 : sameD D l r = true := E.trans l q r hl ha hb q2 hs
        exact hone i j (r : Int) hi hj (by rw [e1]; exact mem_classD.2 ⟨r, hb, hlm, h3, rfl⟩) h2
      · have h3 : sameD D m q = true := E.trans m r q hm hb ha r2 (E.symm q r ha hb hs)
        exact hone i j (q : Int) hi hj h1 (by rw [e2]; exact mem_classD.2 ⟨q, ha, by omega, h3, rfl⟩)

theorem Classes.fresh {N : Nat} {D : Nat → Nat → Int} {ls : List (List Int)} (C : Classes N D ls) {i k : Nat} (hi : i < ls.length) (hk : k < (ls.getD i []).length) : mapAt (ls.getD i [])[k] (pairsAt ls i k) = none := by
  unfold pairsAt
  rw [mapAt_append, (mapAt_pairs i).2 (fun j hj hm => by have := C.once j i _ (by omega) hi hm (List.getElem_mem hk); omega), mapAt_class, if_neg]
  · rfl
  · intro hm
    obtain ⟨q, hq, e⟩ := List.getElem_of_mem hm
    have hq2 : q < k := by simp at hq; omega
    rw [List.getElem_take] at e
    have hp : ∀ n m (h : n + m + 1 < (ls.getD i []).length), (ls.getD i [])[n] < (ls.getD i [])[n + m + 1] := by
      intro n m
      induction m with
      | zero => intro h; exact C.up i hi n h
      | succ m ih => intro h; exact Int.lt_trans (ih (by omega)) (C.up i hi (n + m + 1) h)
    have := hp q (k - q - 1) (by omega)
    have e2 : (ls.getD i [])[q + (k - q - 1) + 1]'(by omega) = (ls.getD i [])[k] := by congr 1; omega
    omega
theorem Classes.look {N : Nat} {D : Nat → Nat → Int} {ls : List (List Int)} (C : Classes N D ls) {a : Nat} (ha : a < N) : ∃ i, i < ls.length ∧ (a : Int) ∈ ls.getD i [] ∧ mapAt (a : Int) (pairsTo ls ls.length) = some (i : Int) := by
  obtain ⟨i, hi, hm⟩ := C.all a ha
  exact ⟨i, hi, hm, mapAt_found ls.length i hi hm (fun q hq h => by have := C.once q i _ (by omega) hi h hm; omega)⟩
theorem mapAt_mem {k : Int} : ∀ (l : List (Int × Int)), k ∈ l.map Prod.fst ↔ mapAt k l ≠ none
  | [] => by simp [mapAt]
  | (x, v) :: l => by
    simp only [List.map_cons, List.mem_cons, mapAt]
    by_cases e : x = k
    · simp [e]
    · rw [if_neg e, ← mapAt_mem l]
      simp [Ne.symm e]
theorem Classes.keys {N : Nat} {D : Nat → Nat → Int} {ls : List (List Int)} (C : Classes N D ls) : ∀ i, i ≤ ls.length → ∀ k, i < ls.length ∧ k ≤ (ls.getD i []).length ∨ k = 0 → ((pairsAt ls i k).map Prod.fst).Nodup
  | 0, _, 0, _ => by simp [pairsAt, pairsTo]
  | i + 1, hi, 0, _ => by
    rw [pairsAt_zero, ← pairsAt_end (Nat.le_refl (ls.getD i []).length)]
    exact C.keys i (by omega) _ (.inl ⟨by omega, Nat.le_refl _⟩)
  | i, hi, k + 1, h => by
    obtain ⟨h1, h2⟩ := h.resolve_right (by omega)
    rw [pairsAt_next h2, List.map_append, List.nodup_append]
    refine ⟨C.keys i hi k (.inl ⟨h1, by omega⟩), by simp, ?_⟩
    intro x hx y hy e
    simp at hy
    have hf := C.fresh h1 h2
    rw [e, hy] at hx
    exact (mapAt_mem _).1 hx hf
theorem Classes.size {N : Nat} {D : Nat → Nat → Int} {ls : List (List Int)} (C : Classes N D ls) : (pairsTo ls ls.length).length = N := by
  have hn := C.keys ls.length (Nat.le_refl _) 0 (.inr rfl)
  rw [pairsAt_zero] at hn
  have hlen : ((pairsTo ls ls.length).map Prod.fst).length = (pairsTo ls ls.length).length := by simp
  have hr : ((List.range N).map fun p : Nat => (p : Int)).length = N := by simp
  have h1 := sub_len hn (m := (List.range N).map fun p : Nat => (p : Int)) (fun x hx => by
    have hne := (mapAt_mem _).1 hx
    have : ¬ ∀ j, j < ls.length → x ∉ ls.getD j [] := fun h => hne ((mapAt_pairs _).2 h)
    obtain ⟨j, hj⟩ := Classical.not_forall.1 this
    obtain ⟨hj1, hj2⟩ := Classical.not_forall.1 hj
    have hm := Classical.not_not.1 hj2
    have := C.range j hj1 x hm
    exact List.mem_map.2 ⟨x.toNat, List.mem_range.2 (by omega), by omega⟩)
  have h2 := sub_len (l := (List.range N).map fun p : Nat => (p : Int)) (m := (pairsTo ls ls.length).map Prod.fst) (by
    unfold List.Nodup
    rw [List.pairwise_map]
    exact List.nodup_range.imp (fun h e => h (by omega))) (fun x hx => by
    obtain ⟨a, ha, rfl⟩ := List.mem_map.1 hx
    obtain ⟨i, _, _, h⟩ := C.look (List.mem_range.1 ha)
    exact (mapAt_mem _).2 (by rw [h]; simp))
  omega

end Go.Proofs.Ytejbpoclfjkllaa
