/- Merged text P1 of the chapter line: Pure, PureB, PureC, PureD, PureE, PureF, PlA, PlB, PlC, PlD, PlE. No conditions beyond those stated. -/


/- Plain Lean, no program: the data of the chapter 'line' and mirrors of its small functions. No conditions. -/
namespace Go.Proofs.YthcmjhellpjllaaGreat

/-- A bound, as plain data. -/
structure Bd where
  src : Int
  dst : Int
  most : Int
  rcd : Int

def i64ok (n : Int) : Prop := -9223372036854775808 ≤ n ∧ n ≤ 9223372036854775807
def Bd.ok (b : Bd) : Prop := i64ok b.src ∧ i64ok b.dst ∧ i64ok b.most ∧ i64ok b.rcd

def inR (n a b : Int) : Bool := decide (a ≤ n) && decide (n ≤ b)

def badB (N : Int) (b : Bd) : Bool :=
  !inR b.src 0 (N - 1) || !inR b.dst 0 (N - 1) || b.src == b.dst || !inR b.most (-1000000) 1000000 || !inR b.rcd 0 1000000
def checkedP (N : Int) (bs : List Bd) : Int := if N < 1 then 1 else if bs.any (badB N) then 1 else 0
def checkP (N : Int) (bs : List Bd) : Int := if 128 < N ∨ 2000 < bs.length then 2 else checkedP N bs

/-- The index of the first element that passes; -1 if none does. -/
def idxOf {α : Type} (p : α → Bool) : List α → Int
  | [] => -1
  | x :: l => if p x then 0 else if idxOf p l < 0 then -1 else idxOf p l + 1

theorem idxOf_none {α : Type} {p : α → Bool} : ∀ {l : List α}, l.any p = false → idxOf p l = -1
  | [], _ => rfl
  | x :: l, h => by
    simp only [List.any_cons, Bool.or_eq_false_iff] at h
    simp [idxOf, h.1, idxOf_none h.2]

theorem idxOf_found {α : Type} {p : α → Bool} : ∀ {l : List α} {k : Nat} (hk : k < l.length), (l.take k).any p = false → p l[k] = true → idxOf p l = k
  | [], k, hk, _, _ => by simp at hk
  | x :: l, 0, hk, _, h => by simp at h; simp [idxOf, h]
  | x :: l, k + 1, hk, h0, h => by
    simp only [List.take_succ_cons, List.any_cons, Bool.or_eq_false_iff] at h0
    have := idxOf_found (l := l) (k := k) (by simpa using hk) h0.2 (by simpa using h)
    simp [idxOf, h0.1, this]; omega

theorem idxOf_neg {α : Type} {p : α → Bool} (l : List α) : idxOf p l < 0 ↔ l.any p = false := by
  constructor
  · induction l with
    | nil => intro; rfl
    | cons x l ih =>
      intro h
      simp only [idxOf] at h
      simp only [List.any_cons, Bool.or_eq_false_iff]
      by_cases hp : p x = true
      · simp [hp] at h
      · simp [hp] at h
        by_cases h2 : idxOf p l < 0
        · exact ⟨by simpa using hp, ih h2⟩
        · simp [h2] at h; omega
  · intro h; rw [idxOf_none h]; omega

theorem take_any_succ {α : Type} {p : α → Bool} {l : List α} {k : Nat} (hk : k < l.length) (h0 : (l.take k).any p = false) (h1 : p l[k] = false) : (l.take (k + 1)).any p = false := by
  rw [List.take_succ_eq_append_getElem hk, List.any_append, h0]; simp [h1]

theorem any_of_take {α : Type} {p : α → Bool} {l : List α} {k : Nat} (hk : l.length ≤ k) (h0 : (l.take k).any p = false) : l.any p = false := by
  rwa [List.take_of_length_le hk] at h0

theorem any_of_at {α : Type} {p : α → Bool} {l : List α} {k : Nat} (hk : k < l.length) (h1 : p l[k] = true) : l.any p = true :=
  List.any_eq_true.2 ⟨_, List.getElem_mem hk, h1⟩

def pointP (N : Int) (l : List Int) : Int := if l.any (fun p => !inR p 0 (N - 1)) then 1 else 0

end Go.Proofs.YthcmjhellpjllaaGreat

/- Plain Lean, no program: mirrors of opened and distances. No conditions. -/
namespace Go.Proofs.YthcmjhellpjllaaGreat

def getI (h : List Int) (i : Int) : Int := h.getD i.toNat 0
def getB (h : List Bool) (i : Int) : Bool := h.getD i.toNat false

/-- One bound tried: the heights, and whether something has changed so far. -/
def relaxC (s : List Int × Bool) (b : Bd) : List Int × Bool :=
  if getI s.1 b.src + b.most < getI s.1 b.dst then (s.1.set b.dst.toNat (getI s.1 b.src + b.most), true) else s

def roundP (bs : List Bd) (h : List Int) : List Int × Bool := bs.foldl relaxC (h, false)

def openedGo (bs : List Bd) : Nat → List Int → Option (List Int)
  | 0, _ => none
  | r + 1, h => if (roundP bs h).2 then openedGo bs r (roundP bs h).1 else some (roundP bs h).1

def openedP (N : Int) (bs : List Bd) : Option (List Int) := openedGo bs (N + 1).toNat (List.replicate 128 0)

/-- A valid bound, as far as the walks ask it. -/
def Bd.valid (N : Int) (b : Bd) : Prop := 0 ≤ b.src ∧ b.src < N ∧ 0 ≤ b.dst ∧ b.dst < N ∧ -1000000 ≤ b.most ∧ b.most ≤ 1000000

/-- Heights after at most c lowerings. -/
def LowBy (c : Nat) (h : List Int) : Prop := ∀ i : Nat, -((c : Int) * 1000000) ≤ h.getD i 0 ∧ h.getD i 0 ≤ 0

theorem LowBy.mono {c d : Nat} {h : List Int} (H : LowBy c h) (hcd : c ≤ d) : LowBy d h := fun i => by have := H i; omega

theorem lowBy_start (n : Nat) : LowBy 0 (List.replicate n 0) := fun i => by simp [List.getD_eq_getElem?_getD, List.getElem?_replicate]; split <;> simp

theorem getD_set (h : List Int) (j i : Nat) (v : Int) : (h.set j v).getD i 0 = if i = j ∧ j < h.length then v else h.getD i 0 := by
  simp only [List.getD_eq_getElem?_getD, List.getElem?_set]
  by_cases e : j = i
  · subst e
    by_cases hl : j < h.length
    · simp [hl]
    · simp [hl]
  · simp [e, Ne.symm e]

theorem relaxC_length (s : List Int × Bool) (b : Bd) : (relaxC s b).1.length = s.1.length := by unfold relaxC; split <;> simp
theorem foldl_relaxC_length (bs : List Bd) : ∀ s, (bs.foldl relaxC s).1.length = s.1.length := by
  induction bs with
  | nil => intro s; rfl
  | cons b bs ih => intro s; rw [List.foldl_cons, ih, relaxC_length]

theorem relaxC_low {N : Int} {c : Nat} {s : List Int × Bool} {b : Bd} (hb : b.valid N) (H : LowBy c s.1) : LowBy (c + 1) (relaxC s b).1 := by
  unfold relaxC
  split
  · rename_i hlt
    intro i
    show _ ≤ (s.1.set b.dst.toNat _).getD i 0 ∧ (s.1.set b.dst.toNat _).getD i 0 ≤ 0
    rw [getD_set]
    have h1 := H b.src.toNat
    have h2 := H b.dst.toNat
    have h3 := H i
    obtain ⟨_, _, _, _, hm, _⟩ := hb
    unfold getI at *
    split <;> omega
  · exact H.mono (by omega)

theorem foldl_relaxC_low {N : Int} (bs : List Bd) : ∀ (c : Nat) (s : List Int × Bool), (∀ b ∈ bs, b.valid N) → LowBy c s.1 → LowBy (c + bs.length) (bs.foldl relaxC s).1 := by
  induction bs with
  | nil => intro c s _ H; exact H
  | cons b bs ih =>
    intro c s hv H
    have := ih (c + 1) (relaxC s b) (fun x hx => hv x (List.mem_cons_of_mem _ hx)) (relaxC_low (hv b (List.mem_cons_self ..)) H)
    rw [show c + 1 + bs.length = c + (b :: bs).length by simp only [List.length_cons]; omega] at this
    exact this

theorem foldl_take_succ {α β : Type} (f : β → α → β) (l : List α) (s : β) {k : Nat} (hk : k < l.length) : (l.take (k + 1)).foldl f s = f ((l.take k).foldl f s) l[k] := by
  rw [List.take_succ_eq_append_getElem hk, List.foldl_append]; rfl

theorem openedGo_low {N : Int} {bs : List Bd} (hv : ∀ b ∈ bs, b.valid N) (r : Nat) : ∀ (c : Nat) (h h' : List Int), LowBy c h → openedGo bs r h = some h' → LowBy (c + r * bs.length) h' := by
  induction r with
  | zero => intro c h h' _ e; simp [openedGo] at e
  | succ r ih =>
    intro c h h' H e
    have H1 : LowBy (c + bs.length) (roundP bs h).1 := foldl_relaxC_low bs c (h, false) hv H
    have hm : (r + 1) * bs.length = r * bs.length + bs.length := Nat.succ_mul _ _
    simp only [openedGo] at e
    split at e
    · have := ih (c + bs.length) _ h' H1 e
      exact this.mono (by omega)
    · simp only [Option.some.injEq] at e
      rw [← e]
      exact H1.mono (by omega)

theorem openedGo_length {bs : List Bd} : ∀ (r : Nat) (h h' : List Int), openedGo bs r h = some h' → h'.length = h.length
  | 0, _, _, e => by simp [openedGo] at e
  | r + 1, h, h', e => by
    simp only [openedGo] at e
    have hl : (roundP bs h).1.length = h.length := foldl_relaxC_length bs (h, false)
    split at e
    · rw [openedGo_length r _ h' e, hl]
    · simp at e; subst e; exact hl

end Go.Proofs.YthcmjhellpjllaaGreat

/- Plain Lean, no program: what a checked system gives; asked. No conditions. -/
namespace Go.Proofs.YthcmjhellpjllaaGreat

theorem inR_true {n a b : Int} : inR n a b = true ↔ a ≤ n ∧ n ≤ b := by simp [inR]
theorem badB_false {N : Int} {b : Bd} (h : badB N b = false) : b.valid N ∧ b.src ≠ b.dst ∧ 0 ≤ b.rcd ∧ b.rcd ≤ 1000000 := by
  simp only [badB, Bool.or_eq_false_iff, Bool.not_eq_false', inR_true, beq_eq_false_iff_ne] at h
  obtain ⟨⟨⟨⟨h1, h2⟩, h3⟩, h4⟩, h5⟩ := h
  exact ⟨⟨by omega, by omega, by omega, by omega, by omega, by omega⟩, h3, by omega, by omega⟩

theorem checkedP_zero {N : Int} {bs : List Bd} (h : checkedP N bs = 0) : 1 ≤ N ∧ ∀ b ∈ bs, b.valid N ∧ b.src ≠ b.dst ∧ 0 ≤ b.rcd ∧ b.rcd ≤ 1000000 := by
  unfold checkedP at h
  split at h
  · simp at h
  · split at h
    · simp at h
    · rename_i h1 h2
      refine ⟨by omega, fun b hb => badB_false ?_⟩
      simp only [List.any_eq_true, not_exists, not_and, Bool.not_eq_true] at h2
      exact h2 b hb

theorem checkP_zero {N : Int} {bs : List Bd} (h : checkP N bs = 0) : 1 ≤ N ∧ N ≤ 128 ∧ bs.length ≤ 2000 ∧ ∀ b ∈ bs, b.valid N ∧ b.src ≠ b.dst ∧ 0 ≤ b.rcd ∧ b.rcd ≤ 1000000 := by
  unfold checkP at h
  split at h
  · simp at h
  · have := checkedP_zero h
    exact ⟨this.1, by omega, by omega, this.2⟩

theorem checkedP_bd (N : Int) (bs : List Bd) : checkedP N bs = 0 ∨ checkedP N bs = 1 := by unfold checkedP; split; exact .inr rfl; split; exact .inr rfl; exact .inl rfl
theorem checkP_bd (N : Int) (bs : List Bd) : checkP N bs = 0 ∨ checkP N bs = 1 ∨ checkP N bs = 2 := by
  unfold checkP; split; exact .inr (.inr rfl)
  rcases checkedP_bd N bs with h | h <;> simp [h]
theorem pointP_bd (N : Int) (l : List Int) : pointP N l = 0 ∨ pointP N l = 1 := by unfold pointP; split; exact .inr rfl; exact .inl rfl

theorem pointP_zero {N : Int} {l : List Int} (h : pointP N l = 0) : ∀ p ∈ l, 0 ≤ p ∧ p < N := by
  unfold pointP at h
  split at h
  · simp at h
  · rename_i h2
    intro p hp
    have h3 : inR p 0 (N - 1) = true := by
      cases hq : inR p 0 (N - 1) with
      | true => rfl
      | false => exact absurd (List.any_eq_true.2 ⟨p, hp, by simp [hq]⟩) h2
    rw [inR_true] at h3
    omega

/-- The error of asked: 0 if there is none. -/
def askedE (N : Int) (bs : List Bd) (l : List Int) : Int :=
  if checkP N bs ≠ 0 then checkP N bs else if pointP N l ≠ 0 then pointP N l else match openedP N bs with | none => 10 | some _ => 0

theorem askedE_zero {N : Int} {bs : List Bd} {l : List Int} (h : askedE N bs l = 0) : checkP N bs = 0 ∧ pointP N l = 0 ∧ ∃ t, openedP N bs = some t := by
  unfold askedE at h
  split at h
  · rename_i h1; exact absurd h h1
  · split at h
    · rename_i _ h1; exact absurd h h1
    · rename_i h1 h2
      split at h
      · simp at h
      · rename_i t ht
        exact ⟨by simpa using h1, by simpa using h2, t, ht⟩

end Go.Proofs.YthcmjhellpjllaaGreat

/- Plain Lean, no program: the mirror of (*net).distances. No conditions. -/
namespace Go.Proofs.YthcmjhellpjllaaGreat

def bd0 : Bd := ⟨0, 0, 0, 0⟩

/-- The bounds of a list of indices. -/
def selB (bs : List Bd) (ks : List Nat) : List Bd := ks.map fun k => bs.getD k bd0
/-- The indices that pass a test, in order. -/
def passes (t : Nat → Bool) (n : Nat) : List Nat := (List.range n).filter t
theorem passes_succ (t : Nat → Bool) (n : Nat) : passes t (n + 1) = passes t n ++ (if t n then [n] else []) := by
  simp only [passes, List.range_succ, List.filter_append, List.filter_cons, List.filter_nil]
theorem passes_len (t : Nat → Bool) (n : Nat) : (passes t n).length ≤ n := by
  have := List.length_filter_le t (List.range n); simpa [passes] using this
theorem passes_mem {t : Nat → Bool} {n k : Nat} : k ∈ passes t n ↔ k < n ∧ t k = true := by simp [passes]

/-- The bounds out of each point, gathered in order. -/
def nearP (N : Nat) (l : List Bd) : List (List Bd) := (List.range N).map fun (p : Nat) => l.filter fun b => b.src == (p : Int)

def farI : Int := 1125899906842624

/-- One point looked at in the search of the next one. -/
def pick1 (out : List Int) (done : List Bool) (at_ : Int) (p : Nat) : Int :=
  if done.getD p false = false ∧ out.getD p 0 < farI ∧ (at_ < 0 ∨ out.getD p 0 < getI out at_) then (p : Int) else at_
def pickP (N : Nat) (out : List Int) (done : List Bool) : Int := (List.range N).foldl (pick1 out done) (-1)

/-- One bound out of the point that was picked. -/
def relaxD (h : List Int) (at_ : Nat) (out : List Int) (b : Bd) : List Int :=
  out.set b.dst.toNat (min (getI out b.dst) (out.getD at_ 0 + b.most + getI h b.src - getI h b.dst))

def dijGo (N : Nat) (h : List Int) (near : List (List Bd)) : Nat → List Int → List Bool → List Int
  | 0, out, _ => out
  | f + 1, out, done =>
    if pickP N out done < 0 then out
    else dijGo N h near f ((near.getD (pickP N out done).toNat []).foldl (relaxD h (pickP N out done).toNat) out) (done.set (pickP N out done).toNat true)

/-- The end: the reduced distances turned back. -/
def back1 (h : List Int) (a : Int) (out : List Int) (p : Nat) : List Int :=
  if out.getD p 0 < farI then out.set p (out.getD p 0 + (h.getD p 0 - getI h a)) else out
def backP (N : Nat) (h : List Int) (a : Int) (out : List Int) : List Int := (List.range N).foldl (back1 h a) out

def distP (N : Nat) (h : List Int) (l : List Bd) (a : Int) : List Int :=
  backP N h a (dijGo N h (nearP N l) (N + 1) ((List.replicate 128 farI).set a.toNat 0) (List.replicate 128 false))

/-- How many of the first N are not done. -/
def undone (N : Nat) (done : List Bool) : Nat := ((List.range N).filter fun p => done.getD p false == false).length

/-- A potential: no bound is less than 0 by it. -/
def Pot (h : List Int) (bs : List Bd) : Prop := ∀ b ∈ bs, 0 ≤ b.most + getI h b.src - getI h b.dst

/-- What the search keeps of its row. -/
def OutOk (out : List Int) : Prop := out.length = 128 ∧ ∀ p : Nat, 0 ≤ out.getD p 0 ∧ out.getD p 0 ≤ farI

theorem pick1_range {N : Nat} (out : List Int) (done : List Bool) {at_ : Int} {p : Nat} (hp : p < N) (h : at_ < 0 ∨ (at_.toNat < N ∧ done.getD at_.toNat false = false ∧ out.getD at_.toNat 0 < farI)) :
    pick1 out done at_ p < 0 ∨ ((pick1 out done at_ p).toNat < N ∧ done.getD (pick1 out done at_ p).toNat false = false ∧ out.getD (pick1 out done at_ p).toNat 0 < farI) := by
  unfold pick1
  split
  · rename_i h1
    exact .inr ⟨by simpa using hp, by simpa using h1.1, by simpa using h1.2.1⟩
  · exact h

theorem pick_fold {N : Nat} (out : List Int) (done : List Bool) (l : List Nat) (hl : ∀ p ∈ l, p < N) : ∀ at_ : Int, (at_ < 0 ∨ (at_.toNat < N ∧ done.getD at_.toNat false = false ∧ out.getD at_.toNat 0 < farI)) →
    l.foldl (pick1 out done) at_ < 0 ∨ ((l.foldl (pick1 out done) at_).toNat < N ∧ done.getD (l.foldl (pick1 out done) at_).toNat false = false ∧ out.getD (l.foldl (pick1 out done) at_).toNat 0 < farI) := by
  induction l with
  | nil => intro a h; exact h
  | cons p l ih => intro a h; exact ih (fun q hq => hl q (List.mem_cons_of_mem _ hq)) _ (pick1_range out done (hl p (List.mem_cons_self ..)) h)

theorem pickP_range (N : Nat) (out : List Int) (done : List Bool) : pickP N out done < 0 ∨ ((pickP N out done).toNat < N ∧ done.getD (pickP N out done).toNat false = false ∧ out.getD (pickP N out done).toNat 0 < farI) :=
  pick_fold out done _ (fun p hp => by simpa using hp) (-1) (.inl (by omega))

theorem undone_le (N : Nat) (done : List Bool) : undone N done ≤ N := by have := List.length_filter_le (fun p => done.getD p false == false) (List.range N); simpa [undone] using this

theorem filter_len_drop (N : Nat) (P Q : Nat → Bool) {k : Nat} (hk : k < N) (h1 : P k = true) (h2 : Q k = false) (h3 : ∀ i, i ≠ k → Q i = P i) : ((List.range N).filter Q).length + 1 = ((List.range N).filter P).length := by
  induction N with
  | zero => omega
  | succ N ih =>
    rw [List.range_succ, List.filter_append, List.filter_append, List.length_append, List.length_append]
    by_cases e : k = N
    · subst e
      have : (List.range k).filter Q = (List.range k).filter P := List.filter_congr (fun i hi => h3 i (by have := List.mem_range.1 hi; omega))
      rw [this]; simp [h1, h2]
    · have := ih (by omega)
      have e2 := h3 N (Ne.symm e)
      simp only [List.filter_cons, List.filter_nil, e2]; omega

theorem undone_set {N : Nat} {done : List Bool} {k : Nat} (hN : N ≤ done.length) (hk : k < N) (hd : done.getD k false = false) : undone N (done.set k true) + 1 = undone N done := by
  refine filter_len_drop N _ _ hk (by rw [hd]; rfl) ?_ ?_
  · simp [List.getD_eq_getElem?_getD, show k < done.length by omega]
  · intro i hi
    simp [List.getD_eq_getElem?_getD, Ne.symm hi]

theorem outOk_relax {h : List Int} {at_ : Nat} {out : List Int} {b : Bd} (ho : OutOk out) (hp : 0 ≤ b.most + getI h b.src - getI h b.dst) : OutOk (relaxD h at_ out b) := by
  refine ⟨by unfold relaxD; rw [List.length_set]; exact ho.1, fun p => ?_⟩
  unfold relaxD
  rw [getD_set]
  have h1 := ho.2 b.dst.toNat
  have h2 := ho.2 at_
  have h3 := ho.2 p
  unfold getI at *
  split
  · omega
  · exact h3

theorem outOk_fold {h : List Int} {at_ : Nat} (l : List Bd) : ∀ out, OutOk out → (∀ b ∈ l, 0 ≤ b.most + getI h b.src - getI h b.dst) → OutOk (l.foldl (relaxD h at_) out) := by
  induction l with
  | nil => intro out h _; exact h
  | cons b l ih => intro out ho hp; exact ih _ (outOk_relax ho (hp b (List.mem_cons_self ..))) (fun x hx => hp x (List.mem_cons_of_mem _ hx))

theorem outOk_start {a : Int} : OutOk ((List.replicate 128 farI).set a.toNat 0) := by
  refine ⟨by simp, fun p => ?_⟩
  rw [getD_set]
  split
  · unfold farI; omega
  · simp only [List.getD_eq_getElem?_getD, List.getElem?_replicate]
    split <;> simp [farI]

theorem nearP_length (N : Nat) (l : List Bd) : (nearP N l).length = N := by simp [nearP]
theorem nearP_nil (N : Nat) : nearP N [] = List.replicate N [] := by
  apply List.ext_getElem?
  intro i
  simp only [nearP, List.getElem?_map, List.getElem?_replicate, List.filter_nil]
  by_cases h : i < N <;> simp [h]
theorem nearP_get {N : Nat} {l : List Bd} {p : Nat} (hp : p < N) : (nearP N l).getD p [] = l.filter fun b => b.src == (p : Int) := by simp [nearP, hp]
theorem nearP_snoc {N : Nat} {l : List Bd} {b : Bd} {s : Nat} (hs : b.src = s) (hN : s < N) : nearP N (l ++ [b]) = (nearP N l).set s ((nearP N l).getD s [] ++ [b]) := by
  apply List.ext_getElem?
  intro i
  rw [List.getElem?_set, nearP_get hN]
  simp only [nearP, List.getElem?_map, List.length_map, List.length_range, List.filter_append]
  by_cases h : i < N
  · by_cases e : s = i
    · subst e; simp [h, hs]
    · have : (b.src == (i : Int)) = false := by rw [hs]; simp; omega
      simp [h, e, this]
  · have : s ≠ i := by omega
    simp [h, this]

theorem mem_nearP {N : Nat} {l : List Bd} {p : Nat} {b : Bd} (h : b ∈ (nearP N l).getD p []) : b ∈ l ∧ b.src = p := by
  by_cases hp : p < N
  · rw [nearP_get hp] at h
    simpa using h
  · rw [List.getD_eq_getElem?_getD, List.getElem?_eq_none (by rw [nearP_length]; omega)] at h; simp at h

theorem selB_append (bs : List Bd) (a b : List Nat) : selB bs (a ++ b) = selB bs a ++ selB bs b := by simp [selB]
theorem mem_selB {bs : List Bd} {ks : List Nat} (hk : ∀ k ∈ ks, k < bs.length) {b : Bd} (h : b ∈ selB bs ks) : b ∈ bs := by
  simp only [selB, List.mem_map] at h
  obtain ⟨k, hk1, rfl⟩ := h
  have := hk k hk1
  rw [List.getD_eq_getElem?_getD, List.getElem?_eq_getElem this]
  exact List.getElem_mem this

end Go.Proofs.YthcmjhellpjllaaGreat

/- Plain Lean, no program: the mirror of walks. -/
namespace Go.Proofs.YthcmjhellpjllaaGreat

def stepE (cur nx : List Int) (b : Bd) : List Int :=
  if getI cur b.dst < farI then nx.set b.src.toNat (min (getI nx b.src) (getI cur b.dst + b.most)) else nx
def stepW (l : List Bd) (cur : List Int) : List Int := l.foldl (stepE cur) (List.replicate 128 farI)
def walkRow (l : List Bd) (to : Nat) : Nat → List Int
  | 0 => (List.replicate 128 farI).set to 0
  | k + 1 => stepW l (walkRow l to k)
def walksP (l : List Bd) (to most : Nat) : List (List Int) := (List.range (most + 1)).map (walkRow l to)

theorem walksP_length (l : List Bd) (to most : Nat) : (walksP l to most).length = most + 1 := by simp [walksP]
theorem walksP_get (l : List Bd) (to most : Nat) {k : Nat} (hk : k ≤ most) : (walksP l to most).getD k [] = walkRow l to k := by
  simp [walksP, List.getD_eq_getElem?_getD, show k < most + 1 by omega]
theorem walksP_succ (l : List Bd) (to most : Nat) : walksP l to (most + 1) = walksP l to most ++ [stepW l (walkRow l to most)] := by
  simp only [walksP]
  rw [List.range_succ, List.map_append]
  rfl

/-- A row of walks of c bounds. -/
def WalkOk (c : Nat) (r : List Int) : Prop := r.length = 128 ∧ ∀ p : Nat, r.getD p 0 = farI ∨ (-((c : Int) * 1000000) ≤ r.getD p 0 ∧ r.getD p 0 ≤ (c : Int) * 1000000)

theorem getD_far (p : Nat) : (List.replicate 128 farI).getD p 0 = farI ∨ (List.replicate 128 farI).getD p 0 = 0 := by
  simp only [List.getD_eq_getElem?_getD, List.getElem?_replicate]
  split
  · left; rfl
  · right; rfl

theorem walkOk_far (c : Nat) : WalkOk c (List.replicate 128 farI) := by
  refine ⟨by simp, fun p => ?_⟩
  rcases getD_far p with e | e
  · exact .inl e
  · right; rw [e]; omega
theorem walkOk_zero (to : Nat) : WalkOk 0 ((List.replicate 128 farI).set to 0) := by
  refine ⟨by simp, fun p => ?_⟩
  rw [getD_set]
  split
  · right; omega
  · rcases getD_far p with e | e
    · exact .inl e
    · right; rw [e]; omega

theorem walkOk_step {N : Int} {c : Nat} {cur nx : List Int} {b : Bd} (hb : b.valid N) (hc : WalkOk c cur) (hn : WalkOk (c + 1) nx) : WalkOk (c + 1) (stepE cur nx b) := by
  unfold stepE
  split
  · rename_i hlt
    refine ⟨by rw [List.length_set]; exact hn.1, fun p => ?_⟩
    rw [getD_set]
    obtain ⟨_, _, _, _, v5, v6⟩ := hb
    have h1 := hc.2 b.dst.toNat
    have h2 := hn.2 b.src.toNat
    have h3 := hn.2 p
    unfold getI at *
    unfold farI at *
    split
    · right; omega
    · exact h3
  · exact hn

theorem walkOk_fold {N : Int} {c : Nat} {cur : List Int} (l : List Bd) : ∀ nx, (∀ b ∈ l, b.valid N) → WalkOk c cur → WalkOk (c + 1) nx → WalkOk (c + 1) (l.foldl (stepE cur) nx) := by
  induction l with
  | nil => intro nx _ _ h; exact h
  | cons b l ih => intro nx hv hc hn; exact ih _ (fun x hx => hv x (List.mem_cons_of_mem _ hx)) hc (walkOk_step (hv b (List.mem_cons_self ..)) hc hn)

theorem walkOk_row {N : Int} {l : List Bd} (hv : ∀ b ∈ l, b.valid N) (to k : Nat) : WalkOk k (walkRow l to k) := by
  induction k with
  | zero => exact walkOk_zero to
  | succ k ih => exact walkOk_fold l _ hv ih (walkOk_far _)

end Go.Proofs.YthcmjhellpjllaaGreat

/- Plain Lean, no program: the mirror of followed. -/
namespace Go.Proofs.YthcmjhellpjllaaGreat

def fits (bs : List Bd) (gd : Int → Int → Int → Bool) (left : Nat) (at_ sum : Int) (i : Nat) : Bool :=
  (bs.getD i bd0).src == at_ && gd left (bs.getD i bd0).dst (sum + (bs.getD i bd0).most)

def followGo (bs : List Bd) (ks : List Nat) (gd : Int → Int → Int → Bool) : Nat → Int → Int → List Int → Option (List Int)
  | 0, _, _, acc => some acc
  | left + 1, at_, sum, acc =>
    match ks.find? (fits bs gd left at_ sum) with
    | none => none
    | some i => followGo bs ks gd left (bs.getD i bd0).dst (sum + (bs.getD i bd0).most) (acc ++ [(i : Int)])

def followedP (bs : List Bd) (ks : List Nat) (gd : Int → Int → Int → Bool) (from_ : Int) (many : Nat) : List Int := (followGo bs ks gd many from_ 0 []).getD []

theorem passes_prefix (t : Nat → Bool) {k n : Nat} (h : k ≤ n) : ∃ r, passes t n = passes t k ++ r := by
  induction n with
  | zero => have : k = 0 := by omega
            subst this; exact ⟨[], by simp⟩
  | succ n ih =>
    by_cases e : k = n + 1
    · subst e; exact ⟨[], by simp⟩
    · obtain ⟨r, hr⟩ := ih (by omega)
      exact ⟨r ++ (if t n then [n] else []), by rw [passes_succ, hr, List.append_assoc]⟩

theorem find_passes {t p : Nat → Bool} {n k x : Nat} {pre : List Nat} (hk : k ≤ n) (hp : pre ++ [x] = passes t k) (hn : ∀ i ∈ pre, p i = false) (hx : p x = true) : (passes t n).find? p = some x := by
  obtain ⟨r, hr⟩ := passes_prefix t hk
  rw [hr, ← hp, List.append_assoc, List.find?_append, List.find?_eq_none.2 (fun i hi => by rw [hn i hi]; simp)]
  simp [hx]
theorem find_passes_none {t p : Nat → Bool} {n : Nat} (hn : ∀ i ∈ passes t n, p i = false) : (passes t n).find? p = none := List.find?_eq_none.2 (fun i hi => by rw [hn i hi]; simp)

end Go.Proofs.YthcmjhellpjllaaGreat

/- Plain Lean, no program: walks over bounds, sums, potentials; what opened says. No conditions. -/
namespace Go.Proofs.YthcmjhellpjllaaGreat

/-- A list of bounds leads from a point to a point. -/
def Walk (a b : Int) : List Bd → Prop
  | [] => a = b
  | x :: l => x.src = a ∧ Walk x.dst b l
def wsum : List Bd → Int
  | [] => 0
  | x :: l => x.most + wsum l
def Over (bs l : List Bd) : Prop := ∀ x ∈ l, x ∈ bs

theorem wsum_append (p q : List Bd) : wsum (p ++ q) = wsum p + wsum q := by
  induction p with
  | nil => simp [wsum]
  | cons x p ih => simp only [List.cons_append, wsum, ih]; omega

theorem walk_append {a c : Int} : ∀ {p q : List Bd}, Walk a c (p ++ q) ↔ ∃ b, Walk a b p ∧ Walk b c q
  | [], q => by simp [Walk]
  | x :: p, q => by
    simp only [List.cons_append, Walk, walk_append (p := p)]
    constructor
    · rintro ⟨h, b, h1, h2⟩; exact ⟨b, ⟨h, h1⟩, h2⟩
    · rintro ⟨b, ⟨h, h1⟩, h2⟩; exact ⟨h, b, h1, h2⟩

theorem Walk.trans {a b c : Int} {p q : List Bd} (h1 : Walk a b p) (h2 : Walk b c q) : Walk a c (p ++ q) := walk_append.2 ⟨b, h1, h2⟩
theorem Over.append {bs p q : List Bd} (h1 : Over bs p) (h2 : Over bs q) : Over bs (p ++ q) := fun x hx => (List.mem_append.1 hx).elim (h1 x) (h2 x)
theorem Over.left {bs p q : List Bd} (h : Over bs (p ++ q)) : Over bs p := fun x hx => h x (List.mem_append_left _ hx)
theorem Over.right {bs p q : List Bd} (h : Over bs (p ++ q)) : Over bs q := fun x hx => h x (List.mem_append_right _ hx)
theorem Over.tail {bs q : List Bd} {x : Bd} (h : Over bs (x :: q)) : Over bs q := fun y hy => h y (List.mem_cons_of_mem _ hy)
theorem Over.head {bs q : List Bd} {x : Bd} (h : Over bs (x :: q)) : x ∈ bs := h x (List.mem_cons_self ..)
theorem Over.one {bs : List Bd} {x : Bd} (h : x ∈ bs) : Over bs [x] := fun y hy => by rw [List.mem_singleton.1 hy]; exact h
theorem Over.nil {bs : List Bd} : Over bs [] := fun y hy => by cases hy
theorem Over.mono {bs cs l : List Bd} (h : Over bs l) (hs : ∀ x ∈ bs, x ∈ cs) : Over cs l := fun x hx => hs x (h x hx)
theorem Over.self {bs : List Bd} : Over bs bs := fun _ h => h

/-- Where the walks lie: all points from 0 on below N. -/
def AllValid (N : Int) (bs : List Bd) : Prop := ∀ b ∈ bs, b.valid N

theorem walk_pot {h : List Int} {bs : List Bd} (hp : Pot h bs) : ∀ {a b : Int} {l : List Bd}, Walk a b l → Over bs l → getI h b - getI h a ≤ wsum l
  | a, b, [], hw, _ => by simp only [Walk] at hw; subst hw; simp [wsum]
  | a, b, x :: l, hw, ho => by
    have h1 := walk_pot hp hw.2 ho.tail
    have h2 := hp x ho.head
    rw [hw.1] at h2
    simp only [wsum]
    omega

/-- No closed walk is negative. -/
def NoNeg (bs : List Bd) : Prop := ∀ a l, Walk a a l → Over bs l → 0 ≤ wsum l
theorem noNeg_of_pot {h : List Int} {bs : List Bd} (hp : Pot h bs) : NoNeg bs := fun a l hw ho => by have := walk_pot hp hw ho; omega
theorem NoNeg.mono {bs cs : List Bd} (h : NoNeg cs) (hs : ∀ x ∈ bs, x ∈ cs) : NoNeg bs := fun a l hw ho => h a l hw (ho.mono hs)
theorem Pot.mono {h : List Int} {bs cs : List Bd} (hp : Pot h cs) (hs : ∀ x ∈ bs, x ∈ cs) : Pot h bs := fun b hb => hp b (hs b hb)

/-- Pigeons. -/
theorem pigeon : ∀ (N : Nat) (f : Nat → Nat), (∀ i, i ≤ N → f i < N) → ∃ i j, i < j ∧ j ≤ N ∧ f i = f j
  | 0, f, h => by have := h 0 (Nat.le_refl _); omega
  | N + 1, f, h => by
    by_cases hx : ∃ i, i ≤ N ∧ f i = f (N + 1)
    · obtain ⟨i, hi, e⟩ := hx
      exact ⟨i, N + 1, by omega, Nat.le_refl _, e⟩
    · have hne : ∀ i, i ≤ N → f i ≠ f (N + 1) := fun i hi e => hx ⟨i, hi, e⟩
      have hN := h (N + 1) (Nat.le_refl _)
      obtain ⟨i, j, h1, h2, h3⟩ := pigeon N (fun i => if f i < f (N + 1) then f i else f i - 1) (fun i hi => by
        have a := hne i hi
        have b := h i (by omega)
        show (if f i < f (N + 1) then f i else f i - 1) < N
        split <;> omega)
      refine ⟨i, j, h1, by omega, ?_⟩
      have a := hne i (by omega)
      have b := hne j h2
      have h4 : (if f i < f (N + 1) then f i else f i - 1) = (if f j < f (N + 1) then f j else f j - 1) := h3
      split at h4 <;> split at h4 <;> omega

/-- The points of a walk. -/
def vert (a : Int) : List Bd → Nat → Int
  | _, 0 => a
  | [], _ + 1 => a
  | x :: l, k + 1 => vert x.dst l k

theorem walk_split : ∀ {a b : Int} {l : List Bd} (k : Nat), k ≤ l.length → Walk a b l → Walk a (vert a l k) (l.take k) ∧ Walk (vert a l k) b (l.drop k)
  | a, b, l, 0, _, h => by simp [vert, Walk, h]
  | a, b, [], k + 1, hk, h => by simp at hk
  | a, b, x :: l, k + 1, hk, h => by
    have := walk_split k (by simpa using hk) h.2
    simp only [vert, List.take_succ_cons, List.drop_succ_cons, Walk]
    exact ⟨⟨h.1, this.1⟩, this.2⟩

theorem vert_range {N : Int} {bs : List Bd} (hv : AllValid N bs) : ∀ {a : Int} {l : List Bd} (k : Nat), 0 ≤ a → a < N → Over bs l → 0 ≤ vert a l k ∧ vert a l k < N
  | a, l, 0, h0, h1, _ => by cases l <;> exact ⟨h0, h1⟩
  | a, [], k + 1, h0, h1, _ => ⟨h0, h1⟩
  | a, x :: l, k + 1, h0, h1, ho => by
    have hx := hv x ho.head
    exact vert_range hv k hx.2.2.1 hx.2.2.2.1 ho.tail

theorem vert_take : ∀ (l : List Bd) (a : Int) (i j : Nat), i ≤ j → vert a (l.take j) i = vert a l i
  | l, a, 0, j, _ => by cases l <;> cases j <;> simp [vert]
  | [], a, i + 1, j, _ => by simp
  | x :: l, a, i + 1, 0, h => by omega
  | x :: l, a, i + 1, j + 1, h => by
    simp only [List.take_succ_cons, vert]
    exact vert_take l x.dst i j (by omega)

/-- A long walk has a closed part. -/
theorem walk_cycle {N : Nat} {bs : List Bd} (hv : AllValid N bs) {a b : Int} {l : List Bd} (ha0 : 0 ≤ a) (ha1 : a < N) (hw : Walk a b l) (ho : Over bs l) (hl : N ≤ l.length) :
    ∃ p c q x, l = p ++ c ++ q ∧ c ≠ [] ∧ Walk a x p ∧ Walk x x c ∧ Walk x b q := by
  obtain ⟨i, j, hij, hj, e⟩ := pigeon N (fun k => (vert a l k).toNat) (fun k hk => by have := vert_range hv k ha0 ha1 ho; show (vert a l k).toNat < N; omega)
  have ri := vert_range hv i ha0 ha1 ho
  have rj := vert_range hv j ha0 ha1 ho
  have e2 : vert a l i = vert a l j := by
    have e' : (vert a l i).toNat = (vert a l j).toNat := e
    omega
  have sj := walk_split j (by omega) hw
  have si := walk_split (l := l.take j) (k := i) (by simp; omega) sj.1
  rw [vert_take l a i j (by omega)] at si
  refine ⟨(l.take j).take i, (l.take j).drop i, l.drop j, vert a l i, by rw [List.take_append_drop, List.take_append_drop], ?_, si.1, ?_, ?_⟩
  · intro e3
    have := congrArg List.length e3
    simp at this; omega
  · have := si.2; rw [← e2] at this; exact this
  · rw [e2]; exact sj.2

/-- A walk is no longer than needed. -/
theorem walk_short {N : Nat} {bs : List Bd} (hv : AllValid N bs) (hn : NoNeg bs) : ∀ (n : Nat) {a b : Int} {l : List Bd}, l.length ≤ n → 0 ≤ a → a < N → Walk a b l → Over bs l →
    ∃ l', Walk a b l' ∧ Over bs l' ∧ l'.length < N ∧ wsum l' ≤ wsum l
  | 0, a, b, l, hl, h0, h1, hw, ho => ⟨l, hw, ho, by omega, Int.le_refl _⟩
  | n + 1, a, b, l, hl, h0, h1, hw, ho => by
    by_cases hlt : l.length < N
    · exact ⟨l, hw, ho, hlt, Int.le_refl _⟩
    · obtain ⟨p, c, q, x, e, hc, h2, h3, h4⟩ := walk_cycle hv h0 h1 hw ho (by omega)
      subst e
      have hcl : 0 < c.length := List.length_pos_iff.2 hc
      obtain ⟨l', g1, g2, g3, g4⟩ := walk_short hv hn n (l := p ++ q) (by simp at hl ⊢; omega) h0 h1 (h2.trans h4) (ho.left.left.append ho.right)
      have := hn x c h3 ho.left.right
      refine ⟨l', g1, g2, g3, ?_⟩
      rw [wsum_append] at g4
      rw [wsum_append, wsum_append]
      omega

end Go.Proofs.YthcmjhellpjllaaGreat

/- Plain Lean, no program: opened finds a potential exactly if no closed walk is negative. Conditions: valid bounds, at most 128 points. -/
namespace Go.Proofs.YthcmjhellpjllaaGreat

theorem getI_set (h : List Int) (j i v : Int) : getI (h.set j.toNat v) i = if i.toNat = j.toNat ∧ j.toNat < h.length then v else getI h i := by
  unfold getI; rw [getD_set]

theorem relaxC_flag {s : List Int × Bool} (h : s.2 = true) (b : Bd) : (relaxC s b).2 = true := by unfold relaxC; split <;> first | rfl | exact h
theorem fold_flag : ∀ (bs : List Bd) (s : List Int × Bool), s.2 = true → (bs.foldl relaxC s).2 = true
  | [], _, h => h
  | b :: bs, _s, h => fold_flag bs _ (relaxC_flag h b)

theorem fold_still : ∀ (bs : List Bd) (s : List Int × Bool), (bs.foldl relaxC s).2 = false → (bs.foldl relaxC s).1 = s.1 ∧ ∀ b ∈ bs, getI s.1 b.dst ≤ getI s.1 b.src + b.most
  | [], s, _ => ⟨rfl, fun b hb => by cases hb⟩
  | b :: bs, s, h => by
    simp only [List.foldl_cons] at h ⊢
    by_cases hlt : getI s.1 b.src + b.most < getI s.1 b.dst
    · rw [fold_flag bs _ (by unfold relaxC; rw [if_pos hlt])] at h; cases h
    · have e : relaxC s b = s := by unfold relaxC; rw [if_neg hlt]
      rw [e] at h ⊢
      obtain ⟨h1, h2⟩ := fold_still bs s h
      refine ⟨h1, fun x hx => ?_⟩
      rcases List.mem_cons.1 hx with rfl | hx
      · omega
      · exact h2 x hx

theorem fold_quiet : ∀ (bs : List Bd) (s : List Int × Bool), (∀ b ∈ bs, getI s.1 b.dst ≤ getI s.1 b.src + b.most) → bs.foldl relaxC s = s
  | [], _, _ => rfl
  | b :: bs, s, h => by
    have e : relaxC s b = s := by unfold relaxC; rw [if_neg (by have := h b (List.mem_cons_self ..); omega)]
    rw [List.foldl_cons, e]
    exact fold_quiet bs s (fun x hx => h x (List.mem_cons_of_mem _ hx))

theorem openedGo_pot {bs : List Bd} : ∀ (r : Nat) (h h' : List Int), openedGo bs r h = some h' → Pot h' bs
  | 0, _, _, e => by simp [openedGo] at e
  | r + 1, h, h', e => by
    simp only [openedGo] at e
    split at e
    · exact openedGo_pot r _ _ e
    · rename_i hf
      have hf' : (roundP bs h).2 = false := by simpa using hf
      obtain ⟨h1, h2⟩ := fold_still bs (h, false) hf'
      simp only [Option.some.injEq] at e
      have e1 : h' = h := by rw [← e]; exact h1
      subst e1
      intro b hb
      have := h2 b hb
      simp only at this
      omega

theorem openedP_pot {N : Int} {bs : List Bd} {h : List Int} (e : openedP N bs = some h) : Pot h bs := openedGo_pot _ _ _ e
theorem openedP_length {N : Int} {bs : List Bd} {h : List Int} (e : openedP N bs = some h) : h.length = 128 := by
  have := openedGo_length _ _ _ e
  simpa using this
theorem openedP_low {N : Int} {bs : List Bd} {h : List Int} (hv : AllValid N bs) (e : openedP N bs = some h) : LowBy ((N + 1).toNat * bs.length) h := by
  have := openedGo_low hv _ 0 _ _ (lowBy_start 128) e
  simpa using this

/-- Heights that some walk has. -/
def Reach (N : Int) (bs : List Bd) (h : List Int) : Prop := ∀ v, 0 ≤ v → v < N → ∃ a l, 0 ≤ a ∧ a < N ∧ Walk a v l ∧ Over bs l ∧ wsum l = getI h v
/-- Heights no greater than the sum of any walk of at most k bounds. -/
def LowR (N : Int) (bs : List Bd) (k : Nat) (h : List Int) : Prop := ∀ a v l, 0 ≤ a → a < N → Walk a v l → Over bs l → l.length ≤ k → getI h v ≤ wsum l

theorem relaxC_le (s : List Int × Bool) (b : Bd) (v : Int) : getI (relaxC s b).1 v ≤ getI s.1 v := by
  unfold relaxC
  split
  · rename_i hlt
    show getI (s.1.set b.dst.toNat _) v ≤ _
    rw [getI_set]
    split
    · rename_i e
      have : getI s.1 v = getI s.1 b.dst := by unfold getI; rw [e.1]
      omega
    · exact Int.le_refl _
  · exact Int.le_refl _
theorem fold_le : ∀ (bs : List Bd) (s : List Int × Bool) (v : Int), getI (bs.foldl relaxC s).1 v ≤ getI s.1 v
  | [], _, _ => Int.le_refl _
  | b :: bs, s, v => Int.le_trans (fold_le bs _ v) (relaxC_le s b v)

theorem relaxC_step {N : Int} {s : List Int × Bool} {b : Bd} (hb : b.valid N) (hN : N ≤ 128) (hl : s.1.length = 128) : getI (relaxC s b).1 b.dst ≤ getI s.1 b.src + b.most := by
  unfold relaxC
  split
  · show getI (s.1.set b.dst.toNat _) _ ≤ _
    obtain ⟨_, _, v3, v4, _⟩ := hb
    rw [getI_set, if_pos ⟨rfl, by omega⟩]
    exact Int.le_refl _
  · omega

theorem fold_step {N : Int} (hN : N ≤ 128) : ∀ (bs : List Bd) (s : List Int × Bool), AllValid N bs → s.1.length = 128 → ∀ b ∈ bs, getI (bs.foldl relaxC s).1 b.dst ≤ getI s.1 b.src + b.most
  | [], _, _, _, b, hb => by cases hb
  | x :: bs, s, hv, hl, b, hb => by
    rw [List.foldl_cons]
    rcases List.mem_cons.1 hb with rfl | hb
    · exact Int.le_trans (fold_le bs _ _) (relaxC_step (hv b (List.mem_cons_self ..)) hN hl)
    · have := fold_step hN bs (relaxC s x) (fun y hy => hv y (List.mem_cons_of_mem _ hy)) (by rw [relaxC_length]; exact hl) b hb
      have := relaxC_le s x b.src
      omega

theorem walk_last {a v : Int} {p : List Bd} {x : Bd} (h : Walk a v (p ++ [x])) : Walk a x.src p ∧ v = x.dst := by
  obtain ⟨b, h1, h2⟩ := walk_append.1 h
  simp only [Walk] at h2
  exact ⟨by rw [h2.1]; exact h1, h2.2.symm⟩

theorem lowR_round {N : Int} {bs : List Bd} {k : Nat} {h : List Int} (hN : N ≤ 128) (hv : AllValid N bs) (hl : h.length = 128) (H : LowR N bs k h) : LowR N bs (k + 1) (roundP bs h).1 := by
  intro a v l h0 h1 hw ho hlen
  rcases List.eq_nil_or_concat l with rfl | ⟨p, x, rfl⟩
  · exact Int.le_trans (fold_le bs (h, false) v) (H a v [] h0 h1 hw ho (by simp))
  · rw [List.concat_eq_append] at hw ho hlen ⊢
    obtain ⟨w1, rfl⟩ := walk_last hw
    have hx : x ∈ bs := ho x (by simp)
    have s1 := fold_step hN bs (h, false) hv hl x hx
    have s2 := H a x.src p h0 h1 w1 ho.left (by simp at hlen; omega)
    simp only at s1
    rw [wsum_append]
    simp only [wsum]
    show getI (bs.foldl relaxC (h, false)).1 x.dst ≤ _
    omega

theorem relaxC_reach {N : Int} {bs : List Bd} {s : List Int × Bool} {b : Bd} (hv : AllValid N bs) (hb : b ∈ bs) (H : Reach N bs s.1) : Reach N bs (relaxC s b).1 := by
  unfold relaxC
  split
  · intro v h0 h1
    show ∃ a l, 0 ≤ a ∧ a < N ∧ Walk a v l ∧ Over bs l ∧ wsum l = getI (s.1.set b.dst.toNat _) v
    rw [getI_set]
    obtain ⟨v1, v2, v3, v4, _⟩ := hv b hb
    split
    · rename_i e
      have e1 : v = b.dst := by omega
      subst e1
      obtain ⟨a, l, a0, a1, hw, ho, hs⟩ := H b.src v1 v2
      refine ⟨a, l ++ [b], a0, a1, hw.trans ⟨rfl, rfl⟩, ho.append (Over.one hb), ?_⟩
      rw [wsum_append, hs]; simp [wsum]
    · exact H v h0 h1
  · exact H
theorem fold_reach {N : Int} {bs : List Bd} (hv : AllValid N bs) : ∀ (cs : List Bd) (s : List Int × Bool), (∀ c ∈ cs, c ∈ bs) → Reach N bs s.1 → Reach N bs (cs.foldl relaxC s).1
  | [], _, _, H => H
  | c :: cs, _s, hc, H => fold_reach hv cs _ (fun x hx => hc x (List.mem_cons_of_mem _ hx)) (relaxC_reach hv (hc c (List.mem_cons_self ..)) H)

theorem low_quiet {N : Nat} {bs : List Bd} {k : Nat} {h : List Int} (hv : AllValid N bs) (hn : NoNeg bs) (hk : N ≤ k + 1) (HR : Reach N bs h) (HL : LowR N bs k h) : ∀ b ∈ bs, getI h b.dst ≤ getI h b.src + b.most := by
  intro b hb
  obtain ⟨v1, v2, v3, v4, _⟩ := hv b hb
  obtain ⟨a, l, a0, a1, hw, ho, hs⟩ := HR b.src v1 v2
  obtain ⟨l', g1, g2, g3, g4⟩ := walk_short hv hn (l ++ [b]).length (l := l ++ [b]) (Nat.le_refl _) a0 a1 (hw.trans ⟨rfl, rfl⟩) (ho.append (Over.one hb))
  have := HL a b.dst l' a0 a1 g1 g2 (by omega)
  rw [wsum_append, hs] at g4
  simp only [wsum] at g4
  omega

theorem openedGo_some {N : Nat} {bs : List Bd} (hN : N ≤ 128) (hv : AllValid N bs) (hn : NoNeg bs) : ∀ (r k : Nat) (h : List Int), 1 ≤ r → N ≤ k + r → h.length = 128 → Reach N bs h → LowR N bs k h → ∃ h', openedGo bs r h = some h'
  | 0, _, _, h1, _, _, _, _ => by omega
  | r + 1, k, h, _, hk, hl, HR, HL => by
    simp only [openedGo]
    split
    · rename_i hf
      by_cases hr : r = 0
      · have := fold_quiet bs (h, false) (low_quiet hv hn (by omega) HR HL)
        rw [roundP, this] at hf; cases hf
      · exact openedGo_some hN hv hn r (k + 1) _ (by omega) (by omega) (by unfold roundP; rw [foldl_relaxC_length]; exact hl) (fold_reach hv bs (h, false) (fun _ hc => hc) HR) (lowR_round (by omega) hv hl HL)
    · exact ⟨_, rfl⟩

theorem getI_rep0 (v : Int) : getI (List.replicate 128 0) v = 0 := by
  unfold getI
  simp only [List.getD_eq_getElem?_getD, List.getElem?_replicate]
  split <;> rfl

/-- THE LAW. -/
theorem openedP_some {N : Nat} {bs : List Bd} (hN : N ≤ 128) (hv : AllValid N bs) (hn : NoNeg bs) : ∃ h, openedP N bs = some h := by
  unfold openedP
  refine openedGo_some hN hv hn _ 0 _ (by omega) (by omega) (by simp) ?_ ?_
  · intro v h0 h1
    exact ⟨v, [], h0, h1, rfl, Over.nil, by rw [getI_rep0]; rfl⟩
  · intro a v l h0 h1 hw ho hlen
    have : l = [] := List.length_eq_zero_iff.1 (by omega)
    subst this
    rw [getI_rep0]; simp [wsum]

theorem openedP_iff {N : Nat} {bs : List Bd} (hN : N ≤ 128) (hv : AllValid N bs) : (openedP N bs).isSome = true ↔ NoNeg bs := by
  constructor
  · intro h
    obtain ⟨t, ht⟩ := Option.isSome_iff_exists.1 h
    exact noNeg_of_pot (openedP_pot ht)
  · intro h
    obtain ⟨t, ht⟩ := openedP_some hN hv h
    rw [ht]; rfl

end Go.Proofs.YthcmjhellpjllaaGreat

/- Plain Lean, no program: distances finds the least sums of walks. Conditions: valid bounds, a potential, at most 128 points. -/
namespace Go.Proofs.YthcmjhellpjllaaGreat

def IsDist (l : List Bd) (a b d : Int) : Prop := (∃ p, Walk a b p ∧ Over l p ∧ wsum p = d) ∧ ∀ p, Walk a b p → Over l p → d ≤ wsum p
def NoWalk (l : List Bd) (a b : Int) : Prop := ∀ p, Walk a b p → ¬ Over l p
/-- A row of distances. -/
def DistRow (N : Nat) (l : List Bd) (a : Int) (r : List Int) : Prop :=
  r.length = 128 ∧ ∀ v : Nat, v < N → (r.getD v 0 < farI ∧ IsDist l a v (r.getD v 0)) ∨ (r.getD v 0 = farI ∧ NoWalk l a v)

theorem IsDist.unique {l : List Bd} {a b d e : Int} (h : IsDist l a b d) (k : IsDist l a b e) : d = e := by
  obtain ⟨⟨p, p1, p2, p3⟩, h2⟩ := h
  obtain ⟨⟨q, q1, q2, q3⟩, k2⟩ := k
  have := h2 q q1 q2
  have := k2 p p1 p2
  omega
theorem IsDist.not_none {l : List Bd} {a b d : Int} (h : IsDist l a b d) (k : NoWalk l a b) : False := by
  obtain ⟨⟨p, p1, p2, _⟩, _⟩ := h
  exact k p p1 p2

/-- The sum of a walk of valid bounds. -/
theorem wsum_bd {N : Int} {bs : List Bd} (hv : AllValid N bs) : ∀ {l : List Bd}, Over bs l → -((l.length : Int) * 1000000) ≤ wsum l ∧ wsum l ≤ (l.length : Int) * 1000000
  | [], _ => by simp [wsum]
  | x :: l, ho => by
    have h1 := wsum_bd hv (l := l) ho.tail
    obtain ⟨_, _, _, _, h2, h3⟩ := hv x ho.head
    simp only [wsum, List.length_cons]
    omega

theorem isDist_bd {N : Nat} {bs : List Bd} (hv : AllValid N bs) (hn : NoNeg bs) {a b d : Int} (h0 : 0 ≤ a) (h1 : a < N) (h : IsDist bs a b d) : -((N : Int) * 1000000) ≤ d ∧ d ≤ (N : Int) * 1000000 := by
  obtain ⟨⟨p, p1, p2, p3⟩, h2⟩ := h
  obtain ⟨q, q1, q2, q3, q4⟩ := walk_short hv hn p.length (Nat.le_refl _) h0 h1 p1 p2
  have := h2 q q1 q2
  have := wsum_bd hv q2
  omega

/-- The sum by the heights. -/
def rsum (h : List Int) : List Bd → Int
  | [] => 0
  | x :: l => (x.most + getI h x.src - getI h x.dst) + rsum h l
theorem rsum_eq (h : List Int) : ∀ {a b : Int} {l : List Bd}, Walk a b l → rsum h l = wsum l + getI h a - getI h b
  | a, b, [], hw => by simp only [Walk] at hw; subst hw; simp [rsum, wsum]
  | a, b, x :: l, hw => by
    have := rsum_eq h hw.2
    rw [← hw.1]
    simp only [rsum, wsum]
    omega

theorem rsum_append (h : List Int) (p q : List Bd) : rsum h (p ++ q) = rsum h p + rsum h q := by
  induction p with
  | nil => simp [rsum]
  | cons x p ih => simp only [List.cons_append, rsum, ih]; omega

/-- What the search keeps. -/
structure DInv (N : Nat) (h : List Int) (l : List Bd) (a : Nat) (out : List Int) (done : List Bool) : Prop where
  ok : OutOk out
  dl : done.length = 128
  here : out.getD a 0 = 0
  path : ∀ v : Nat, v < N → out.getD v 0 < farI → ∃ p, Walk a v p ∧ Over l p ∧ rsum h p = out.getD v 0
  relaxed : ∀ b ∈ l, done.getD b.src.toNat false = true → getI out b.dst ≤ getI out b.src + (b.most + getI h b.src - getI h b.dst)
  first : ∀ p q : Nat, q < N → done.getD p false = true → done.getD q false = false → out.getD p 0 ≤ out.getD q 0
  near : ∀ p : Nat, done.getD p false = true → out.getD p 0 < farI

theorem getD_eq_getI (r : List Int) (v : Nat) : r.getD v 0 = getI r (v : Int) := by unfold getI; rw [Int.toNat_natCast]

theorem pick_least (out : List Int) (done : List Bool) : ∀ (l : List Nat) (pre : List Nat) (at_ : Int),
    (at_ < 0 ∧ (∀ p ∈ pre, done.getD p false = true ∨ farI ≤ out.getD p 0)) ∨ (0 ≤ at_ ∧ ∀ p ∈ pre, done.getD p false = true ∨ farI ≤ out.getD p 0 ∨ getI out at_ ≤ out.getD p 0) →
    (l.foldl (pick1 out done) at_ < 0 ∧ (∀ p ∈ pre ++ l, done.getD p false = true ∨ farI ≤ out.getD p 0)) ∨ (0 ≤ l.foldl (pick1 out done) at_ ∧ ∀ p ∈ pre ++ l, done.getD p false = true ∨ farI ≤ out.getD p 0 ∨ getI out (l.foldl (pick1 out done) at_) ≤ out.getD p 0)
  | [], pre, at_, H => by simpa using H
  | x :: l, pre, at_, H => by
    have key : (pick1 out done at_ x < 0 ∧ (∀ p ∈ pre ++ [x], done.getD p false = true ∨ farI ≤ out.getD p 0)) ∨ (0 ≤ pick1 out done at_ x ∧ ∀ p ∈ pre ++ [x], done.getD p false = true ∨ farI ≤ out.getD p 0 ∨ getI out (pick1 out done at_ x) ≤ out.getD p 0) := by
      unfold pick1
      split
      · rename_i h
        right
        refine ⟨by omega, fun p hp => ?_⟩
        have e : getI out (x : Int) = out.getD x 0 := (getD_eq_getI out x).symm
        rw [e]
        rcases List.mem_append.1 hp with hp | hp
        · rcases H with ⟨h1, h2⟩ | ⟨h1, h2⟩
          · rcases h2 p hp with q | q
            · exact .inl q
            · exact .inr (.inl q)
          · rcases h2 p hp with q | q | q
            · exact .inl q
            · exact .inr (.inl q)
            · right; right
              rcases h.2.2 with h3 | h3 <;> omega
        · rw [List.mem_singleton.1 hp]; right; right; exact Int.le_refl _
      · rename_i h
        have hx : done.getD x false = true ∨ farI ≤ out.getD x 0 ∨ (0 ≤ at_ ∧ getI out at_ ≤ out.getD x 0) := by
          by_cases h1 : done.getD x false = true
          · exact .inl h1
          · have h1' : done.getD x false = false := by simpa using h1
            by_cases h2 : out.getD x 0 < farI
            · right; right
              have : ¬ (at_ < 0 ∨ out.getD x 0 < getI out at_) := fun h3 => h ⟨h1', h2, h3⟩
              omega
            · right; left; omega
        rcases H with ⟨h1, h2⟩ | ⟨h1, h2⟩
        · left
          refine ⟨h1, fun p hp => ?_⟩
          rcases List.mem_append.1 hp with hp | hp
          · exact h2 p hp
          · rw [List.mem_singleton.1 hp]
            rcases hx with q | q | q
            · exact .inl q
            · exact .inr q
            · omega
        · right
          refine ⟨h1, fun p hp => ?_⟩
          rcases List.mem_append.1 hp with hp | hp
          · exact h2 p hp
          · rw [List.mem_singleton.1 hp]
            rcases hx with q | q | q
            · exact .inl q
            · exact .inr (.inl q)
            · exact .inr (.inr q.2)
    have := pick_least out done l (pre ++ [x]) _ key
    simpa [List.append_assoc] using this

theorem pickP_least (N : Nat) (out : List Int) (done : List Bool) :
    (pickP N out done < 0 ∧ ∀ p, p < N → done.getD p false = true ∨ farI ≤ out.getD p 0) ∨ (0 ≤ pickP N out done ∧ ∀ p, p < N → done.getD p false = true ∨ farI ≤ out.getD p 0 ∨ getI out (pickP N out done) ≤ out.getD p 0) := by
  have := pick_least out done (List.range N) [] (-1) (.inl ⟨by omega, fun p hp => by cases hp⟩)
  simpa [pickP] using this

/-- One bound out of the picked point: what becomes of the row. -/
theorem relaxD_get {h : List Int} {at_ : Nat} {out : List Int} {b : Bd} (hl : out.length = 128) (hd0 : 0 ≤ b.dst) (hd1 : b.dst < 128) (v : Nat) :
    (relaxD h at_ out b).getD v 0 = if v = b.dst.toNat then min (out.getD v 0) (out.getD at_ 0 + (b.most + getI h b.src - getI h b.dst)) else out.getD v 0 := by
  unfold relaxD
  rw [getD_set]
  by_cases e : v = b.dst.toNat
  · subst e
    rw [if_pos ⟨rfl, by omega⟩, if_pos rfl]
    unfold getI
    omega
  · rw [if_neg (fun h => e h.1), if_neg e]

/-- All bounds out of the picked point. -/
structure RelInv (N : Nat) (h : List Int) (l : List Bd) (a : Nat) (at_ : Nat) (o0 : List Int) (done : List Bool) (pre : List Bd) (out : List Int) : Prop where
  ok : OutOk out
  le : ∀ v : Nat, out.getD v 0 ≤ o0.getD v 0
  ge : ∀ v : Nat, o0.getD v 0 = out.getD v 0 ∨ o0.getD at_ 0 ≤ out.getD v 0
  path : ∀ v : Nat, v < N → out.getD v 0 < farI → ∃ p, Walk a v p ∧ Over l p ∧ rsum h p = out.getD v 0
  done_ : ∀ b ∈ pre, getI out b.dst ≤ getI out b.src + (b.most + getI h b.src - getI h b.dst)

theorem relInv_fold {N : Nat} {h : List Int} {l : List Bd} {a at_ : Nat} {o0 : List Int} {done : List Bool} (hN : N ≤ 128) (hat : at_ < N) (hv : AllValid N l) (hp : Pot h l) (hfar : o0.getD at_ 0 < farI) :
    ∀ (cs pre : List Bd) (out : List Int), (∀ b ∈ cs, b ∈ l ∧ b.src = at_) → (∀ b ∈ pre, b.src = at_) → RelInv N h l a at_ o0 done pre out → RelInv N h l a at_ o0 done (pre ++ cs) (cs.foldl (relaxD h at_) out)
  | [], pre, out, _, _, H => by simpa using H
  | b :: cs, pre, out, hc, hpre, H => by
    obtain ⟨hb, hs⟩ := hc b (List.mem_cons_self ..)
    obtain ⟨v1, v2, v3, v4, v5, v6⟩ := hv b hb
    have hpb := hp b hb
    have hl := H.ok.1
    have hget := relaxD_get (h := h) (at_ := at_) (b := b) hl v3 (by omega)
    have hat0 : out.getD at_ 0 = o0.getD at_ 0 := by
      have := H.le at_
      rcases H.ge at_ with e | e
      · exact e.symm
      · omega
    have hsrc : getI (relaxD h at_ out b) b.src = o0.getD at_ 0 := by
      rw [hs, ← getD_eq_getI, hget]
      split
      · omega
      · exact hat0
    have key : RelInv N h l a at_ o0 done (pre ++ [b]) (relaxD h at_ out b) := by
      refine ⟨outOk_relax H.ok hpb, fun v => ?_, fun v => ?_, fun v hvN hlt => ?_, fun x hx => ?_⟩
      · rw [hget]; have := H.le v; split <;> omega
      · rw [hget]
        have := H.ge v
        split <;> omega
      · rw [hget] at hlt ⊢
        split at hlt
        · rename_i e
          rw [if_pos e]
          by_cases hm : out.getD v 0 ≤ out.getD at_ 0 + (b.most + getI h b.src - getI h b.dst)
          · rw [Int.min_eq_left hm]
            exact H.path v hvN (by omega)
          · rw [Int.min_eq_right (by omega)]
            obtain ⟨p, p1, p2, p3⟩ := H.path at_ hat (by omega)
            refine ⟨p ++ [b], p1.trans ⟨hs, by show b.dst = _; omega⟩, p2.append (Over.one hb), ?_⟩
            rw [rsum_append, p3]
            simp [rsum]
        · rename_i e
          rw [if_neg e]
          exact H.path v hvN hlt
      · rcases List.mem_append.1 hx with hx | hx
        · have h1 := H.done_ x hx
          have e1 : getI (relaxD h at_ out b) x.src = getI out x.src := by
            rw [hpre x hx, ← getD_eq_getI, ← getD_eq_getI]
            have := hsrc
            rw [hs, ← getD_eq_getI] at this
            rw [this, hat0]
          have e2 : getI (relaxD h at_ out b) x.dst ≤ getI out x.dst := by
            show (relaxD h at_ out b).getD x.dst.toNat 0 ≤ out.getD x.dst.toNat 0
            rw [hget]; split <;> omega
          omega
        · rw [List.mem_singleton.1 hx, hsrc]
          show (relaxD h at_ out b).getD b.dst.toNat 0 ≤ _
          rw [hget, if_pos rfl]
          omega
    have := relInv_fold hN hat hv hp hfar cs (pre ++ [b]) _ (fun x hx => hc x (List.mem_cons_of_mem _ hx)) (fun x hx => (List.mem_append.1 hx).elim (hpre x) (fun h => by rw [List.mem_singleton.1 h]; exact hs)) key
    simpa [List.append_assoc] using this

theorem getDB_set (d : List Bool) (j i : Nat) (v : Bool) : (d.set j v).getD i false = if i = j ∧ j < d.length then v else d.getD i false := by
  simp only [List.getD_eq_getElem?_getD, List.getElem?_set]
  by_cases e : j = i
  · subst e
    by_cases hl : j < d.length
    · simp [hl]
    · simp [hl]
  · simp [e, Ne.symm e]

theorem dInv_step {N : Nat} {h : List Int} {l : List Bd} {a : Nat} {out : List Int} {done : List Bool} (hN : N ≤ 128) (hv : AllValid N l) (hp : Pot h l) (H : DInv N h l a out done) {k : Nat} (hk : pickP N out done = (k : Int)) :
    DInv N h l a ((l.filter fun b => b.src == (k : Int)).foldl (relaxD h k) out) (done.set k true) ∧ k < N ∧ done.getD k false = false := by
  have hr := pickP_range N out done
  have hle := pickP_least N out done
  rw [hk] at hr hle
  rcases hr with hr | ⟨r1, r2, r3⟩
  · omega
  rw [Int.toNat_natCast] at r1 r2 r3
  rcases hle with ⟨hle, _⟩ | ⟨_, hle⟩
  · omega
  rw [← getD_eq_getI] at hle
  have R := relInv_fold (a := a) (done := done) hN r1 hv hp r3 (l.filter fun b => b.src == (k : Int)) [] out (fun b hb => by simpa using List.mem_filter.1 hb) (fun b hb => by cases hb)
    ⟨H.ok, fun v => Int.le_refl _, fun v => .inl rfl, H.path, fun b hb => by cases hb⟩
  rw [List.nil_append] at R
  obtain ⟨o, ho⟩ : ∃ o, (l.filter fun b => b.src == (k : Int)).foldl (relaxD h k) out = o := ⟨_, rfl⟩
  rw [ho] at R ⊢
  have same : ∀ p : Nat, done.getD p false = true → o.getD p 0 = out.getD p 0 := by
    intro p hpd
    have h1 := H.first p k r1 hpd r2
    have h2 := R.le p
    rcases R.ge p with e | e <;> omega
  have samek : o.getD k 0 = out.getD k 0 := by
    have h2 := R.le k
    rcases R.ge k with e | e <;> omega
  refine ⟨⟨R.ok, by simpa using H.dl, ?_, R.path, ?_, ?_, ?_⟩, r1, r2⟩
  · have h1 := R.le a
    have h2 := (R.ok.2 a).1
    rw [H.here] at h1
    omega
  · intro b hb hd
    obtain ⟨v1, v2, v3, v4, v5, v6⟩ := hv b hb
    by_cases e : b.src = (k : Int)
    · exact R.done_ b (List.mem_filter.2 ⟨hb, by simpa using e⟩)
    · have hd' : done.getD b.src.toNat false = true := by
        rw [getDB_set] at hd
        split at hd
        · omega
        · exact hd
      have h1 := H.relaxed b hb hd'
      have h2 : getI o b.src = getI out b.src := same _ hd'
      have h3 : getI o b.dst ≤ getI out b.dst := R.le _
      omega
  · intro p q hqN hpd hqd
    rw [getDB_set] at hpd hqd
    have hkl : k < done.length := by rw [H.dl]; omega
    have hqk : q ≠ k := by
      intro e; rw [if_pos ⟨e, hkl⟩] at hqd; cases hqd
    rw [if_neg (fun e => hqk e.1)] at hqd
    by_cases e : p = k
    · subst e
      rw [samek]
      rcases R.ge q with e | e
      · rw [← e]
        rcases hle q hqN with x | x | x
        · rw [x] at hqd; cases hqd
        · omega
        · exact x
      · exact e
    · rw [if_neg (fun x => e x.1)] at hpd
      rw [same p hpd]
      rcases R.ge q with e | e
      · rw [← e]; exact H.first p q hqN hpd hqd
      · have := H.first p k r1 hpd r2; omega
  · intro p hpd
    rw [getDB_set] at hpd
    by_cases e : p = k
    · subst e; rw [samek]; exact r3
    · rw [if_neg (fun x => e x.1)] at hpd
      rw [same p hpd]; exact H.near p hpd

theorem dijGo_final {N : Nat} {h : List Int} {l : List Bd} {a : Nat} (hN : N ≤ 128) (hv : AllValid N l) (hp : Pot h l) : ∀ (f : Nat) (out : List Int) (done : List Bool), undone N done < f → DInv N h l a out done →
    ∃ done', DInv N h l a (dijGo N h (nearP N l) f out done) done' ∧ pickP N (dijGo N h (nearP N l) f out done) done' < 0
  | 0, _, _, hf, _ => by omega
  | f + 1, out, done, hf, H => by
    simp only [dijGo]
    by_cases hk : pickP N out done < 0
    · rw [if_pos hk]; exact ⟨done, H, hk⟩
    · rw [if_neg hk]
      obtain ⟨k, hkk⟩ := Int.eq_ofNat_of_zero_le (Int.not_lt.1 hk)
      obtain ⟨h1, h2, h3⟩ := dInv_step hN hv hp H hkk
      rw [hkk, Int.toNat_natCast, nearP_get h2]
      refine dijGo_final hN hv hp f _ _ ?_ h1
      have := undone_set (N := N) (by rw [H.dl]; omega) h2 h3
      omega


theorem dist_low {N : Nat} {h : List Int} {l : List Bd} {a : Nat} {out : List Int} {done : List Bool} (hv : AllValid N l) (hp : Pot h l) (H : DInv N h l a out done) (hk : pickP N out done < 0) :
    ∀ (n : Nat) (q : List Bd) (v : Int), q.length ≤ n → Walk a v q → Over l q → rsum h q < farI → getI out v ≤ rsum h q
  | n, q, v, hn, hw, ho, hs => by
    rcases List.eq_nil_or_concat q with rfl | ⟨p, b, rfl⟩
    · simp only [Walk] at hw
      subst hw
      rw [← getD_eq_getI, H.here]; simp [rsum]
    · rw [List.concat_eq_append] at hw ho hs hn ⊢
      cases n with
      | zero => simp at hn
      | succ n =>
        obtain ⟨w1, rfl⟩ := walk_last hw
        have hb : b ∈ l := ho b (by simp)
        have hpb := hp b hb
        obtain ⟨v1, v2, _⟩ := hv b hb
        rw [rsum_append] at hs ⊢
        simp only [rsum] at hs ⊢
        have ih := dist_low hv hp H hk n p b.src (by simp at hn; omega) w1 ho.left (by omega)
        have hd : done.getD b.src.toNat false = true := by
          rcases pickP_least N out done with ⟨_, h2⟩ | ⟨h2, _⟩
          · rcases h2 b.src.toNat (by omega) with x | x
            · exact x
            · have : getI out b.src = out.getD b.src.toNat 0 := rfl
              omega
          · omega
        have := H.relaxed b hb hd
        omega

theorem back_get {h : List Int} {a : Int} {out : List Int} (hl : out.length = 128) : ∀ (k : Nat), k ≤ 128 → ((List.range k).foldl (back1 h a) out).length = 128 ∧ ∀ v : Nat, ((List.range k).foldl (back1 h a) out).getD v 0 = if v < k ∧ out.getD v 0 < farI then out.getD v 0 + (h.getD v 0 - getI h a) else out.getD v 0
  | 0, _ => ⟨hl, fun v => by simp⟩
  | k + 1, hk => by
    obtain ⟨ih1, ih2⟩ := back_get hl k (by omega)
    rw [List.range_succ, List.foldl_append]
    simp only [List.foldl_cons, List.foldl_nil]
    obtain ⟨o, ho⟩ : ∃ o, (List.range k).foldl (back1 h a) out = o := ⟨_, rfl⟩
    rw [ho] at ih1 ih2 ⊢
    unfold back1
    have hk0 := ih2 k
    rw [if_neg (by omega)] at hk0
    split
    · rename_i hlt
      refine ⟨by simpa using ih1, fun v => ?_⟩
      rw [getD_set, ih2 v]
      by_cases e : v = k
      · subst e
        rw [if_pos ⟨rfl, by omega⟩, if_pos ⟨by omega, by omega⟩, hk0]
      · rw [if_neg (fun x => e x.1)]
        by_cases hv : v < k
        · by_cases hf : out.getD v 0 < farI
          · rw [if_pos ⟨hv, hf⟩, if_pos ⟨by omega, hf⟩]
          · rw [if_neg (fun x => hf x.2), if_neg (fun x => hf x.2)]
        · rw [if_neg (fun x => hv x.1), if_neg (by omega)]
    · rename_i hlt
      refine ⟨ih1, fun v => ?_⟩
      rw [ih2 v]
      by_cases e : v = k
      · subst e
        rw [if_neg (by omega), if_neg (by omega)]
      · by_cases hv : v < k
        · by_cases hf : out.getD v 0 < farI
          · rw [if_pos ⟨hv, hf⟩, if_pos ⟨by omega, hf⟩]
          · rw [if_neg (fun x => hf x.2), if_neg (fun x => hf x.2)]
        · rw [if_neg (fun x => hv x.1), if_neg (by omega)]

/-- THE LAW: the program's distances. -/
theorem distP_row {N : Nat} {h : List Int} {l : List Bd} {a : Nat} (hN : N ≤ 128) (ha : a < N) (hv : AllValid N l) (hp : Pot h l) (hlow : LowBy 520000 h) : DistRow N l a (distP N h l a) := by
  have hn := noNeg_of_pot hp
  have H0 : DInv N h l a ((List.replicate 128 farI).set a 0) (List.replicate 128 false) := by
    have hget : ∀ v : Nat, ((List.replicate 128 farI).set a 0).getD v 0 = if v = a then 0 else if v < 128 then farI else 0 := by
      intro v
      rw [getD_set]
      simp only [List.length_replicate]
      by_cases e : v = a
      · rw [if_pos ⟨e, by omega⟩, if_pos e]
      · rw [if_neg (fun x => e x.1), if_neg e]
        simp only [List.getD_eq_getElem?_getD, List.getElem?_replicate]
        split <;> rfl
    have hno : ∀ p : Nat, (List.replicate 128 false).getD p false = false := by
      intro p
      simp only [List.getD_eq_getElem?_getD, List.getElem?_replicate]
      split <;> rfl
    refine ⟨?_, by simp, by rw [hget, if_pos rfl], ?_, ?_, ?_, ?_⟩
    · have := outOk_start (a := (a : Int)); rwa [Int.toNat_natCast] at this
    · intro v hvN hlt
      rw [hget] at hlt ⊢
      by_cases e : v = a
      · subst e; exact ⟨[], rfl, Over.nil, by rw [if_pos rfl]; rfl⟩
      · rw [if_neg e, if_pos (by omega)] at hlt; omega
    · intro b _ hd; rw [hno] at hd; cases hd
    · intro p q _ hd; rw [hno] at hd; cases hd
    · intro p hd; rw [hno] at hd; cases hd
  obtain ⟨done, H, hk⟩ := dijGo_final (a := a) hN hv hp (N + 1) _ _ (by have := undone_le N (List.replicate 128 false); omega) H0
  unfold distP backP
  rw [Int.toNat_natCast]
  obtain ⟨out, ho⟩ : ∃ o, dijGo N h (nearP N l) (N + 1) ((List.replicate 128 farI).set a 0) (List.replicate 128 false) = o := ⟨_, rfl⟩
  rw [ho] at H hk ⊢
  obtain ⟨b1, b2⟩ := back_get (h := h) (a := (a : Int)) H.ok.1 N hN
  refine ⟨b1, fun v hvN => ?_⟩
  rw [b2 v]
  have la := hlow a
  have lv := hlow v
  have ea : getI h (a : Int) = h.getD a 0 := (getD_eq_getI h a).symm
  have ev : getI h (v : Int) = h.getD v 0 := (getD_eq_getI h v).symm
  have short : ∀ q, Walk a v q → Over l q → ∃ q', Walk a v q' ∧ Over l q' ∧ wsum q' ≤ wsum q ∧ rsum h q' = wsum q' + h.getD a 0 - h.getD v 0 ∧ -((128 : Int) * 1000000) ≤ wsum q' ∧ wsum q' ≤ (128 : Int) * 1000000 := by
    intro q hw ho
    obtain ⟨q', g1, g2, g3, g4⟩ := walk_short hv hn q.length (Nat.le_refl _) (by omega) (by omega) hw ho
    have := wsum_bd hv g2
    have := rsum_eq h g1
    rw [ea, ev] at this
    exact ⟨q', g1, g2, g4, this, by omega, by omega⟩
  have low : ∀ q, Walk a v q → Over l q → ∃ q', Walk a v q' ∧ Over l q' ∧ wsum q' ≤ wsum q ∧ out.getD v 0 ≤ wsum q' + h.getD a 0 - h.getD v 0 ∧ wsum q' + h.getD a 0 - h.getD v 0 < farI := by
    intro q hw ho
    obtain ⟨q', g1, g2, g3, g4, g5, g6⟩ := short q hw ho
    have hb : rsum h q' < farI := by unfold farI; omega
    have := dist_low hv hp H hk q'.length q' v (Nat.le_refl _) g1 g2 hb
    rw [← getD_eq_getI] at this
    exact ⟨q', g1, g2, g3, by omega, by omega⟩
  by_cases hlt : out.getD v 0 < farI
  · left
    rw [if_pos ⟨hvN, hlt⟩, ea]
    obtain ⟨p, p1, p2, p3⟩ := H.path v hvN hlt
    have e3 := rsum_eq h p1
    rw [ea, ev] at e3
    have hd : IsDist l a v (out.getD v 0 + (h.getD v 0 - h.getD a 0)) := by
      refine ⟨⟨p, p1, p2, by omega⟩, fun q hw ho => ?_⟩
      obtain ⟨q', _, _, g3, g4, _⟩ := low q hw ho
      omega
    refine ⟨?_, hd⟩
    have := isDist_bd hv hn (by omega) (by omega) hd
    unfold farI
    omega
  · right
    rw [if_neg (fun x => hlt x.2)]
    have := (H.ok.2 v).2
    refine ⟨by omega, fun q hw ho => ?_⟩
    obtain ⟨q', _, _, _, g4, g5⟩ := low q hw ho
    omega

end Go.Proofs.YthcmjhellpjllaaGreat

/- Plain Lean, no program: the mirror of the reference's Matrix, and that it holds the least sums of walks. Conditions: valid bounds, no negative closed walk. -/
namespace Go.Proofs.YthcmjhellpjllaaGreat

/-- A sum that may be missing. -/
structure Fr where
  s : Int
  ok : Bool
def fr0 : Fr := ⟨0, false⟩
def lesserP (a b : Fr) : Fr := if a.ok = false ∨ (b.ok = true ∧ b.s < a.s) then b else a
def plusP (a : Fr) (n : Int) : Fr := ⟨a.s + n, a.ok⟩

def mget (d : List (List Fr)) (i j : Nat) : Fr := (d.getD i []).getD j fr0
def mset (d : List (List Fr)) (i j : Nat) (x : Fr) : List (List Fr) := d.set i ((d.getD i []).set j x)
def mat0 (N : Nat) : List (List Fr) := (List.range N).map fun a => (List.replicate N fr0).set a ⟨0, true⟩
def mat1 (d : List (List Fr)) (x : Bd) : List (List Fr) := mset d x.src.toNat x.dst.toNat (lesserP (mget d x.src.toNat x.dst.toNat) ⟨x.most, true⟩)
def cellM (c a : Nat) (d : List (List Fr)) (b : Nat) : List (List Fr) :=
  if (mget d a c).ok = true ∧ (mget d c b).ok = true then mset d a b (lesserP (mget d a b) (plusP (mget d a c) (mget d c b).s)) else d
def rowM (N c : Nat) (d : List (List Fr)) (a : Nat) : List (List Fr) := (List.range N).foldl (cellM c a) d
def pivM (N : Nat) (d : List (List Fr)) (c : Nat) : List (List Fr) := (List.range N).foldl (rowM N c) d
def matrixP (N : Nat) (bs : List Bd) : List (List Fr) := (List.range N).foldl (pivM N) (bs.foldl mat1 (mat0 N))

def Dim (N : Nat) (d : List (List Fr)) : Prop := d.length = N ∧ ∀ i, i < N → (d.getD i []).length = N

theorem mset_dim {N : Nat} {d : List (List Fr)} (h : Dim N d) (i j : Nat) (x : Fr) : Dim N (mset d i j x) := by
  refine ⟨by unfold mset; rw [List.length_set]; exact h.1, fun k hk => ?_⟩
  unfold mset
  simp only [List.getD_eq_getElem?_getD, List.getElem?_set]
  by_cases e : i = k
  · subst e
    simp only [if_true, h.1, hk, Option.getD_some, List.length_set]
    have := h.2 i hk
    rwa [List.getD_eq_getElem?_getD] at this
  · rw [if_neg e]
    have := h.2 k hk
    rwa [List.getD_eq_getElem?_getD] at this

theorem mget_mset {N : Nat} {d : List (List Fr)} (h : Dim N d) {i j : Nat} (hi : i < N) (hj : j < N) (x : Fr) (k m : Nat) : mget (mset d i j x) k m = if k = i ∧ m = j then x else mget d k m := by
  unfold mget mset
  have h2 := h.2 i hi
  simp only [List.getD_eq_getElem?_getD, List.getElem?_set] at h2 ⊢
  by_cases e : i = k
  · subst e
    simp only [if_true, h.1, hi, Option.getD_some, List.getElem?_set]
    by_cases e2 : j = m
    · subst e2
      simp [h2, hj]
    · simp [e2, Ne.symm e2]
  · simp [e, Ne.symm e]

theorem mat0_dim (N : Nat) : Dim N (mat0 N) := by
  refine ⟨by simp [mat0], fun i hi => ?_⟩
  simp [mat0, List.getD_eq_getElem?_getD, hi]
theorem mat0_get {N a b : Nat} (ha : a < N) (hb : b < N) : mget (mat0 N) a b = if a = b then ⟨0, true⟩ else fr0 := by
  unfold mget mat0
  simp only [List.getD_eq_getElem?_getD, List.getElem?_map, List.getElem?_range ha, Option.map_some, Option.getD_some, List.getElem?_set, List.length_replicate]
  by_cases e : a = b
  · subst e; simp [ha]
  · simp [e, hb]

/-- The order: no greater. -/
def LeF (x y : Fr) : Prop := y.ok = true → x.ok = true ∧ x.s ≤ y.s
theorem LeF.refl (x : Fr) : LeF x x := fun h => ⟨h, Int.le_refl _⟩
theorem LeF.trans {x y z : Fr} (h1 : LeF x y) (h2 : LeF y z) : LeF x z := fun h => by
  obtain ⟨a, b⟩ := h2 h
  obtain ⟨c, d⟩ := h1 a
  exact ⟨c, by omega⟩
theorem lesser_left (a b : Fr) : LeF (lesserP a b) a := by
  intro h
  unfold lesserP
  split
  · rename_i hc
    rcases hc with hc | hc
    · rw [hc] at h; cases h
    · exact ⟨hc.1, by omega⟩
  · exact ⟨h, Int.le_refl _⟩
theorem lesser_right (a b : Fr) : LeF (lesserP a b) b := by
  intro h
  unfold lesserP
  split
  · exact ⟨h, Int.le_refl _⟩
  · rename_i hc
    refine ⟨?_, ?_⟩
    · cases ha : a.ok with
      | true => rfl
      | false => exact absurd (.inl ha) hc
    · by_cases h2 : b.s < a.s
      · exact absurd (.inr ⟨h, h2⟩) hc
      · omega
theorem lesser_cases (a b : Fr) : lesserP a b = a ∨ lesserP a b = b := by unfold lesserP; split; exact .inr rfl; exact .inl rfl

/-- All that stands is the sum of a walk. -/
def Snd (N : Nat) (bs : List Bd) (d : List (List Fr)) : Prop := ∀ a b : Nat, a < N → b < N → (mget d a b).ok = true → ∃ p, Walk a b p ∧ Over bs p ∧ wsum p = (mget d a b).s

theorem snd_mat0 (N : Nat) (bs : List Bd) : Snd N bs (mat0 N) := by
  intro a b ha hb h
  rw [mat0_get ha hb] at h ⊢
  split at h
  · rename_i e; subst e; rw [if_pos rfl]; exact ⟨[], rfl, Over.nil, rfl⟩
  · cases h

theorem mat1_facts {N : Nat} {bs : List Bd} (hv : AllValid N bs) : ∀ (cs : List Bd) (d : List (List Fr)), Over bs cs → Dim N d → Snd N bs d →
    Dim N (cs.foldl mat1 d) ∧ Snd N bs (cs.foldl mat1 d) ∧ (∀ a b, LeF (mget (cs.foldl mat1 d) a b) (mget d a b)) ∧ ∀ x ∈ cs, LeF (mget (cs.foldl mat1 d) x.src.toNat x.dst.toNat) ⟨x.most, true⟩
  | [], d, _, hd, hs => ⟨hd, hs, fun _ _ => LeF.refl _, fun x hx => by cases hx⟩
  | x :: cs, d, ho, hd, hs => by
    obtain ⟨v1, v2, v3, v4, _, _⟩ := hv x ho.head
    have hi : x.src.toNat < N := by omega
    have hj : x.dst.toNat < N := by omega
    have hg := mget_mset hd hi hj (lesserP (mget d x.src.toNat x.dst.toNat) ⟨x.most, true⟩)
    have hd' : Dim N (mat1 d x) := mset_dim hd _ _ _
    have hle : ∀ a b, LeF (mget (mat1 d x) a b) (mget d a b) := by
      intro a b
      unfold mat1
      rw [hg]
      split
      · rename_i e; rw [e.1, e.2]; exact lesser_left _ _
      · exact LeF.refl _
    have hs' : Snd N bs (mat1 d x) := by
      intro a b ha hb h
      unfold mat1 at h ⊢
      rw [hg] at h ⊢
      split at h
      · rename_i e
        rw [if_pos e]
        rcases lesser_cases (mget d x.src.toNat x.dst.toNat) ⟨x.most, true⟩ with q | q
        · rw [q] at h ⊢
          rw [e.1, e.2]
          exact hs _ _ hi hj h
        · rw [q]
          exact ⟨[x], ⟨by omega, by show x.dst = _; omega⟩, Over.one ho.head, by simp [wsum]⟩
      · rename_i e
        rw [if_neg e]
        exact hs a b ha hb h
    obtain ⟨h1, h2, h3, h4⟩ := mat1_facts hv cs (mat1 d x) ho.tail hd' hs'
    refine ⟨h1, h2, fun a b => (h3 a b).trans (hle a b), fun y hy => ?_⟩
    rcases List.mem_cons.1 hy with rfl | hy
    · refine (h3 _ _).trans ?_
      unfold mat1
      rw [hg, if_pos ⟨rfl, rfl⟩]
      exact lesser_right _ _
    · exact h4 y hy

/-- One pivot, by what stood before it. -/
def newM (old : Nat → Nat → Fr) (c a b : Nat) : Fr := if (old a c).ok = true ∧ (old c b).ok = true then lesserP (old a b) (plusP (old a c) (old c b).s) else old a b

theorem lesser_self {a b : Fr} (h1 : a.ok = true) (h2 : b.s = a.s) : lesserP a b = a := by
  unfold lesserP
  rw [if_neg]
  rintro (h | h)
  · rw [h] at h1; cases h1
  · omega
theorem newM_col {old : Nat → Nat → Fr} {c : Nat} (hc : old c c = ⟨0, true⟩) (a : Nat) : newM old c a c = old a c := by
  unfold newM
  split
  · rename_i h
    refine lesser_self h.1 ?_
    rw [hc]; simp [plusP]
  · rfl
theorem newM_row {old : Nat → Nat → Fr} {c : Nat} (hc : old c c = ⟨0, true⟩) (b : Nat) : newM old c c b = old c b := by
  unfold newM
  split
  · rename_i h
    refine lesser_self h.2 ?_
    rw [hc]; simp [plusP]
  · rfl

theorem row_fold {N c a : Nat} {old : Nat → Nat → Fr} (hcN : c < N) (ha : a < N) (hc : old c c = ⟨0, true⟩) {d0 : List (List Fr)} (hd : Dim N d0) (h0 : ∀ i j, i < N → j < N → mget d0 i j = if i < a then newM old c i j else old i j) :
    ∀ k, k ≤ N → Dim N ((List.range k).foldl (cellM c a) d0) ∧ ∀ i j, i < N → j < N → mget ((List.range k).foldl (cellM c a) d0) i j = if i < a ∨ (i = a ∧ j < k) then newM old c i j else old i j
  | 0, _ => ⟨hd, fun i j hi hj => by rw [List.range_zero, List.foldl_nil, h0 i j hi hj]; by_cases e : i < a <;> simp [e]⟩
  | k + 1, hk => by
    obtain ⟨ih1, ih2⟩ := row_fold hcN ha hc hd h0 k (by omega)
    rw [List.range_succ, List.foldl_append]
    simp only [List.foldl_cons, List.foldl_nil]
    obtain ⟨d, hdd⟩ : ∃ d, (List.range k).foldl (cellM c a) d0 = d := ⟨_, rfl⟩
    rw [hdd] at ih1 ih2 ⊢
    have e1 : mget d a c = old a c := by rw [ih2 a c ha hcN]; split; exact newM_col hc a; rfl
    have e2 : mget d c k = old c k := by rw [ih2 c k hcN (by omega)]; split; exact newM_row hc k; rfl
    have e3 : mget d a k = old a k := by rw [ih2 a k ha (by omega), if_neg (by omega)]
    unfold cellM
    rw [e1, e2, e3]
    by_cases hb : (old a c).ok = true ∧ (old c k).ok = true
    · rw [if_pos hb]
      refine ⟨mset_dim ih1 _ _ _, fun i j hi hj => ?_⟩
      rw [mget_mset ih1 ha (by omega)]
      by_cases e : i = a ∧ j = k
      · rw [if_pos e, if_pos (by omega), e.1, e.2]
        unfold newM
        rw [if_pos hb]
      · rw [if_neg e, ih2 i j hi hj]
        by_cases h2 : i < a ∨ (i = a ∧ j < k)
        · rw [if_pos h2, if_pos (by omega)]
        · rw [if_neg h2, if_neg (by omega)]
    · rw [if_neg hb]
      refine ⟨ih1, fun i j hi hj => ?_⟩
      rw [ih2 i j hi hj]
      by_cases e : i = a ∧ j = k
      · rw [if_neg (by omega), if_pos (by omega), e.1, e.2]
        unfold newM
        rw [if_neg hb]
      · by_cases h2 : i < a ∨ (i = a ∧ j < k)
        · rw [if_pos h2, if_pos (by omega)]
        · rw [if_neg h2, if_neg (by omega)]

theorem piv_fold {N c : Nat} {old : Nat → Nat → Fr} (hcN : c < N) (hc : old c c = ⟨0, true⟩) {d0 : List (List Fr)} (hd : Dim N d0) (h0 : ∀ i j, i < N → j < N → mget d0 i j = old i j) :
    ∀ k, k ≤ N → Dim N ((List.range k).foldl (rowM N c) d0) ∧ ∀ i j, i < N → j < N → mget ((List.range k).foldl (rowM N c) d0) i j = if i < k then newM old c i j else old i j
  | 0, _ => ⟨hd, fun i j hi hj => by rw [List.range_zero, List.foldl_nil, h0 i j hi hj]; simp⟩
  | k + 1, hk => by
    obtain ⟨ih1, ih2⟩ := piv_fold hcN hc hd h0 k (by omega)
    rw [List.range_succ, List.foldl_append]
    simp only [List.foldl_cons, List.foldl_nil]
    obtain ⟨r1, r2⟩ := row_fold hcN (show k < N by omega) hc ih1 ih2 N (Nat.le_refl _)
    refine ⟨r1, fun i j hi hj => ?_⟩
    show mget ((List.range N).foldl (cellM c k) ((List.range k).foldl (rowM N c) d0)) i j = _
    rw [r2 i j hi hj]
    by_cases e : i < k ∨ (i = k ∧ j < N)
    · rw [if_pos e, if_pos (by omega)]
    · rw [if_neg e, if_neg (by omega)]

/-- Triangles over one point. -/
def Tri (N : Nat) (f : Nat → Nat → Fr) (c : Nat) : Prop := ∀ a b, a < N → b < N → (f a c).ok = true → (f c b).ok = true → LeF (f a b) (plusP (f a c) (f c b).s)

/-- What each pivot keeps. -/
structure MInv (N : Nat) (bs : List Bd) (k : Nat) (d : List (List Fr)) : Prop where
  dim : Dim N d
  snd : Snd N bs d
  diag : ∀ a, a < N → mget d a a = ⟨0, true⟩
  edge : ∀ x ∈ bs, LeF (mget d x.src.toNat x.dst.toNat) ⟨x.most, true⟩
  tri : ∀ c, c < k → Tri N (mget d) c

theorem mInv_step {N : Nat} {bs : List Bd} {k : Nat} {d : List (List Fr)} (hn : NoNeg bs) (hk : k < N) (H : MInv N bs k d) : MInv N bs (k + 1) (pivM N d k) := by
  obtain ⟨p1, p2⟩ := piv_fold hk (H.diag k hk) H.dim (fun _ _ _ _ => rfl) N (Nat.le_refl _)
  have hg : ∀ i j, i < N → j < N → mget (pivM N d k) i j = newM (mget d) k i j := by
    intro i j hi hj
    have := p2 i j hi hj
    rw [if_pos hi] at this
    exact this
  have hle : ∀ i j, i < N → j < N → LeF (newM (mget d) k i j) (mget d i j) := by
    intro i j hi hj
    unfold newM
    split
    · exact lesser_left _ _
    · exact LeF.refl _
  have hsnd : Snd N bs (pivM N d k) := by
    intro a b ha hb h
    rw [hg a b ha hb] at h ⊢
    unfold newM at h ⊢
    split at h
    · rename_i e
      rw [if_pos e]
      rcases lesser_cases (mget d a b) (plusP (mget d a k) (mget d k b).s) with q | q
      · rw [q] at h ⊢; exact H.snd a b ha hb h
      · rw [q]
        obtain ⟨p, w1, o1, s1⟩ := H.snd a k ha hk e.1
        obtain ⟨q, w2, o2, s2⟩ := H.snd k b hk hb e.2
        exact ⟨p ++ q, w1.trans w2, o1.append o2, by rw [wsum_append, s1, s2]; rfl⟩
    · rename_i e
      rw [if_neg e]; exact H.snd a b ha hb h
  have hdiag : ∀ a, a < N → mget (pivM N d k) a a = ⟨0, true⟩ := by
    intro a ha
    have h1 := hle a a ha ha
    rw [H.diag a ha] at h1
    obtain ⟨h2, h3⟩ := h1 rfl
    rw [← hg a a ha ha] at h2 h3
    obtain ⟨p, w, o, s⟩ := hsnd a a ha ha h2
    have := hn _ p w o
    have hz : (mget (pivM N d k) a a).s = 0 := by simp only at h3; omega
    have ext : ∀ x : Fr, x.s = 0 → x.ok = true → x = ⟨0, true⟩ := by rintro ⟨s, o⟩ h1 h2; simp only at h1 h2; rw [h1, h2]
    exact ext _ hz h2
  refine ⟨p1, hsnd, hdiag, fun x hx => ?_, fun c hc => ?_⟩
  · by_cases hb : x.src.toNat < N ∧ x.dst.toNat < N
    · rw [hg _ _ hb.1 hb.2]
      exact (hle _ _ hb.1 hb.2).trans (H.edge x hx)
    · have := H.edge x hx rfl
      exfalso
      have hz : (mget d x.src.toNat x.dst.toNat).ok = false := by
        unfold mget
        by_cases e : x.src.toNat < N
        · have hl := H.dim.2 _ e
          rw [List.getD_eq_getElem?_getD (l := d.getD _ _), List.getElem?_eq_none (by omega)]; rfl
        · rw [List.getD_eq_getElem?_getD (l := d), List.getElem?_eq_none (by rw [H.dim.1]; omega)]; rfl
      rw [hz] at this
      cases this.1
  · intro a b ha hb h1 h2
    have hcN : c < N := by omega
    rw [hg a c ha hcN] at h1 ⊢
    rw [hg c b hcN hb] at h2 ⊢
    rw [hg a b ha hb]
    by_cases e : c = k
    · subst e
      rw [newM_col (H.diag c hcN)] at h1 ⊢
      rw [newM_row (H.diag c hcN)] at h2 ⊢
      unfold newM
      rw [if_pos ⟨h1, h2⟩]
      exact lesser_right _ _
    · have T := H.tri c (by omega)
      have hkk := H.diag k hk
      intro _
      -- what stands behind the two new values
      have A : ((mget d a c).ok = true ∧ (newM (mget d) k a c).s = (mget d a c).s) ∨ ((mget d a k).ok = true ∧ (mget d k c).ok = true ∧ (newM (mget d) k a c).s = (mget d a k).s + (mget d k c).s) := by
        unfold newM at h1 ⊢
        split at h1
        · rename_i q
          rw [if_pos q]
          rcases lesser_cases (mget d a c) (plusP (mget d a k) (mget d k c).s) with z | z
          · rw [z] at h1 ⊢; exact .inl ⟨h1, rfl⟩
          · rw [z]; exact .inr ⟨q.1, q.2, rfl⟩
        · rename_i q
          rw [if_neg q]; exact .inl ⟨h1, rfl⟩
      have B : ((mget d c b).ok = true ∧ (newM (mget d) k c b).s = (mget d c b).s) ∨ ((mget d c k).ok = true ∧ (mget d k b).ok = true ∧ (newM (mget d) k c b).s = (mget d c k).s + (mget d k b).s) := by
        unfold newM at h2 ⊢
        split at h2
        · rename_i q
          rw [if_pos q]
          rcases lesser_cases (mget d c b) (plusP (mget d c k) (mget d k b).s) with z | z
          · rw [z] at h2 ⊢; exact .inl ⟨h2, rfl⟩
          · rw [z]; exact .inr ⟨q.1, q.2, rfl⟩
        · rename_i q
          rw [if_neg q]; exact .inl ⟨h2, rfl⟩
      -- the new value is no greater than the old one, nor than the way over k
      have C1 := hle a b ha hb
      have C2 : (mget d a k).ok = true → (mget d k b).ok = true → LeF (newM (mget d) k a b) (plusP (mget d a k) (mget d k b).s) := by
        intro q1 q2
        unfold newM
        rw [if_pos ⟨q1, q2⟩]
        exact lesser_right _ _
      rcases A with ⟨a1, a2⟩ | ⟨a1, a2, a3⟩ <;> rcases B with ⟨b1, b2⟩ | ⟨b1, b2, b3⟩
      · obtain ⟨x1, x2⟩ := T a b ha hb a1 b1 (by simpa [plusP] using a1)
        obtain ⟨y1, y2⟩ := C1 x1
        refine ⟨y1, ?_⟩
        simp only [plusP] at x2 ⊢
        omega
      · obtain ⟨x1, x2⟩ := T a k ha hk a1 b1 (by simpa [plusP] using a1)
        obtain ⟨y1, y2⟩ := C2 x1 b2 (by simpa [plusP] using x1)
        refine ⟨y1, ?_⟩
        simp only [plusP] at x2 y2 ⊢
        omega
      · obtain ⟨x1, x2⟩ := T k b hk hb a2 b1 (by simpa [plusP] using a2)
        obtain ⟨y1, y2⟩ := C2 a1 x1 (by simpa [plusP] using a1)
        refine ⟨y1, ?_⟩
        simp only [plusP] at x2 y2 ⊢
        omega
      · obtain ⟨y1, y2⟩ := C2 a1 b2 (by simpa [plusP] using a1)
        obtain ⟨x1, x2⟩ := T k k hk hk a2 b1 (by simpa [plusP] using a2)
        refine ⟨y1, ?_⟩
        rw [hkk] at x2
        simp only [plusP] at x2 y2 ⊢
        omega

theorem mInv_all {N : Nat} {bs : List Bd} (hv : AllValid N bs) (hn : NoNeg bs) : ∀ k, k ≤ N → MInv N bs k ((List.range k).foldl (pivM N) (bs.foldl mat1 (mat0 N)))
  | 0, _ => by
    obtain ⟨h1, h2, h3, h4⟩ := mat1_facts hv bs (mat0 N) Over.self (mat0_dim N) (snd_mat0 N bs)
    refine ⟨h1, h2, fun a ha => ?_, h4, fun c hc => by omega⟩
    have := h3 a a
    rw [mat0_get ha ha, if_pos rfl] at this
    obtain ⟨q1, q2⟩ := this rfl
    obtain ⟨p, w, o, s⟩ := h2 a a ha ha q1
    have h0 := hn _ p w o
    have hz : (mget (bs.foldl mat1 (mat0 N)) a a).s = 0 := by simp only at q2; omega
    have ext : ∀ x : Fr, x.s = 0 → x.ok = true → x = ⟨0, true⟩ := by rintro ⟨s, o⟩ h1 h2; simp only at h1 h2; rw [h1, h2]
    exact ext _ hz q1
  | k + 1, hk => by
    rw [List.range_succ, List.foldl_append]
    exact mInv_step hn (by omega) (mInv_all hv hn k (by omega))

/-- What a matrix of distances holds. -/
def MatOk (N : Nat) (bs : List Bd) (d : List (List Fr)) : Prop := Dim N d ∧ ∀ a b : Nat, a < N → b < N → ((mget d a b).ok = true ∧ IsDist bs a b (mget d a b).s) ∨ ((mget d a b).ok = false ∧ NoWalk bs a b)

/-- THE LAW: the reference's distances. -/
theorem matrixP_ok {N : Nat} {bs : List Bd} (hv : AllValid N bs) (hn : NoNeg bs) : MatOk N bs (matrixP N bs) := by
  have H := mInv_all hv hn N (Nat.le_refl _)
  show MatOk N bs ((List.range N).foldl (pivM N) (bs.foldl mat1 (mat0 N)))
  obtain ⟨d, hd⟩ : ∃ d, (List.range N).foldl (pivM N) (bs.foldl mat1 (mat0 N)) = d := ⟨_, rfl⟩
  rw [hd] at H ⊢
  have low : ∀ (l : List Bd) (a b : Nat), a < N → b < N → Walk a b l → Over bs l → (mget d a b).ok = true ∧ (mget d a b).s ≤ wsum l := by
    intro l
    induction l with
    | nil =>
      intro a b ha hb hw _
      simp only [Walk] at hw
      have : a = b := by omega
      subst this
      rw [H.diag a ha]; exact ⟨rfl, by simp [wsum]⟩
    | cons x l ih =>
      intro a b ha hb hw ho
      obtain ⟨v1, v2, v3, v4, _⟩ := hv x ho.head
      have e1 : x.src.toNat = a := by have := hw.1; omega
      have hw2 : Walk (x.dst.toNat : Int) b l := by rw [Int.toNat_of_nonneg v3]; exact hw.2
      obtain ⟨i1, i2⟩ := ih x.dst.toNat b (by omega) hb hw2 ho.tail
      obtain ⟨j1, j2⟩ := H.edge x ho.head rfl
      rw [e1] at j1 j2
      obtain ⟨k1, k2⟩ := H.tri x.dst.toNat (by omega) a b ha hb j1 i1 (by simpa [plusP] using j1)
      refine ⟨k1, ?_⟩
      simp only [plusP, wsum] at k2 j2 ⊢
      omega
  refine ⟨H.dim, fun a b ha hb => ?_⟩
  cases hok : (mget d a b).ok with
  | true =>
    left
    exact ⟨rfl, H.snd a b ha hb hok, fun p hw ho => (low p a b ha hb hw ho).2⟩
  | false =>
    right
    refine ⟨rfl, fun p hw ho => ?_⟩
    have := (low p a b ha hb hw ho).1
    rw [hok] at this; cases this

end Go.Proofs.YthcmjhellpjllaaGreat

/- Plain Lean, no program: the rows of walks hold the least sums of walks of so many bounds; the reference's steps. Conditions: valid bounds, at most 128 points. -/
namespace Go.Proofs.YthcmjhellpjllaaGreat

/-- The least sum of a walk of k bounds. -/
def IsK (l : List Bd) (a b : Int) (k : Nat) (d : Int) : Prop := (∃ p, Walk a b p ∧ Over l p ∧ p.length = k ∧ wsum p = d) ∧ ∀ p, Walk a b p → Over l p → p.length = k → d ≤ wsum p
def NoK (l : List Bd) (a b : Int) (k : Nat) : Prop := ∀ p, Walk a b p → Over l p → p.length ≠ k
def KRow (N : Nat) (l : List Bd) (to k : Nat) (r : List Int) : Prop := ∀ v : Nat, v < N → (r.getD v 0 < farI ∧ IsK l v to k (r.getD v 0)) ∨ (r.getD v 0 = farI ∧ NoK l v to k)

theorem rep_far_get {v : Nat} (h : v < 128) : (List.replicate 128 farI).getD v 0 = farI := by
  simp only [List.getD_eq_getElem?_getD, List.getElem?_replicate]
  rw [if_pos h]; rfl

/-- What the gathering of one row keeps. -/
def EInv (N : Nat) (cur : List Int) (pre : List Bd) (nx : List Int) : Prop := nx.length = 128 ∧ ∀ v : Nat, v < N →
  (nx.getD v 0 < farI ∧ (∃ b ∈ pre, b.src = v ∧ getI cur b.dst < farI ∧ nx.getD v 0 = getI cur b.dst + b.most) ∧ ∀ b ∈ pre, b.src = v → getI cur b.dst < farI → nx.getD v 0 ≤ getI cur b.dst + b.most) ∨
  (nx.getD v 0 = farI ∧ ∀ b ∈ pre, b.src = v → ¬ getI cur b.dst < farI)

theorem eInv_step {N c : Nat} {cur nx : List Int} {pre : List Bd} {b : Bd} (hN : N ≤ 128) (hc : c ≤ 128) (hb : b.valid N) (hk : WalkOk c cur) (H : EInv N cur pre nx) : EInv N cur (pre ++ [b]) (stepE cur nx b) := by
  obtain ⟨v1, v2, v3, v4, v5, v6⟩ := hb
  obtain ⟨hl, H⟩ := H
  unfold stepE
  split
  · rename_i hlt
    have hcur := hk.2 b.dst.toNat
    have hbig : getI cur b.dst + b.most < farI := by
      unfold getI at *
      unfold farI at *
      omega
    refine ⟨by rw [List.length_set]; exact hl, fun v hv => ?_⟩
    rw [getD_set]
    by_cases e : v = b.src.toNat
    · subst e
      rw [if_pos ⟨rfl, by omega⟩]
      left
      have hsrc : ((b.src.toNat : Nat) : Int) = b.src := Int.toNat_of_nonneg v1
      have hx : getI nx b.src = nx.getD b.src.toNat 0 := rfl
      rw [hx]
      rcases H b.src.toNat hv with ⟨h1, ⟨x, x1, x2, x3, x4⟩, h3⟩ | ⟨h1, h2⟩
      · by_cases hm : nx.getD b.src.toNat 0 ≤ getI cur b.dst + b.most
        · rw [Int.min_eq_left hm]
          refine ⟨h1, ⟨x, by simp [x1], x2, x3, x4⟩, fun y hy ey ly => ?_⟩
          rcases List.mem_append.1 hy with hy | hy
          · exact h3 y hy ey ly
          · rw [List.mem_singleton.1 hy]; exact hm
        · rw [Int.min_eq_right (by omega)]
          refine ⟨hbig, ⟨b, by simp, hsrc.symm, hlt, rfl⟩, fun y hy ey ly => ?_⟩
          rcases List.mem_append.1 hy with hy | hy
          · have := h3 y hy ey ly; omega
          · rw [List.mem_singleton.1 hy]; exact Int.le_refl _
      · rw [h1, Int.min_eq_right (by omega)]
        refine ⟨hbig, ⟨b, by simp, hsrc.symm, hlt, rfl⟩, fun y hy ey ly => ?_⟩
        rcases List.mem_append.1 hy with hy | hy
        · exact absurd ly (h2 y hy ey)
        · rw [List.mem_singleton.1 hy]; exact Int.le_refl _
    · rw [if_neg (fun x => e x.1)]
      have hne : ∀ y ∈ pre ++ [b], y.src = v → y ∈ pre := by
        intro y hy ey
        rcases List.mem_append.1 hy with hy | hy
        · exact hy
        · rw [List.mem_singleton.1 hy] at ey; omega
      rcases H v hv with ⟨h1, ⟨x, x1, x2, x3, x4⟩, h3⟩ | ⟨h1, h2⟩
      · exact .inl ⟨h1, ⟨x, by simp [x1], x2, x3, x4⟩, fun y hy ey ly => h3 y (hne y hy ey) ey ly⟩
      · exact .inr ⟨h1, fun y hy ey => h2 y (hne y hy ey) ey⟩
  · rename_i hlt
    refine ⟨hl, fun v hv => ?_⟩
    rcases H v hv with ⟨h1, ⟨x, x1, x2, x3, x4⟩, h3⟩ | ⟨h1, h2⟩
    · refine .inl ⟨h1, ⟨x, by simp [x1], x2, x3, x4⟩, fun y hy ey ly => ?_⟩
      rcases List.mem_append.1 hy with hy | hy
      · exact h3 y hy ey ly
      · rw [List.mem_singleton.1 hy] at ly; exact absurd ly hlt
    · refine .inr ⟨h1, fun y hy ey => ?_⟩
      rcases List.mem_append.1 hy with hy | hy
      · exact h2 y hy ey
      · rw [List.mem_singleton.1 hy]; exact hlt

theorem eInv_fold {N c : Nat} {cur : List Int} (hN : N ≤ 128) (hc : c ≤ 128) (hk : WalkOk c cur) : ∀ (cs pre : List Bd) (nx : List Int), AllValid N cs → EInv N cur pre nx → EInv N cur (pre ++ cs) (cs.foldl (stepE cur) nx)
  | [], pre, nx, _, H => by simpa using H
  | b :: cs, pre, nx, hv, H => by
    have := eInv_fold hN hc hk cs (pre ++ [b]) _ (fun x hx => hv x (List.mem_cons_of_mem _ hx)) (eInv_step hN hc (hv b (List.mem_cons_self ..)) hk H)
    simpa [List.append_assoc] using this

theorem kRow_step {N : Nat} {l : List Bd} {to k : Nat} {cur : List Int} (hN : N ≤ 128) (hv : AllValid N l) (hk1 : k ≤ 128) (hok : WalkOk k cur) (H : KRow N l to k cur) : KRow N l to (k + 1) (stepW l cur) := by
  obtain ⟨_, E⟩ := eInv_fold hN hk1 hok l [] (List.replicate 128 farI) hv ⟨by simp, fun v hvN => .inr ⟨rep_far_get (by omega), fun b hb => by cases hb⟩⟩
  rw [List.nil_append] at E
  intro v hvN
  show ((l.foldl (stepE cur) (List.replicate 128 farI)).getD v 0 < farI ∧ _) ∨ _
  have look : ∀ b ∈ l, (getI cur b.dst < farI ∧ IsK l b.dst to k (getI cur b.dst)) ∨ (getI cur b.dst = farI ∧ NoK l b.dst to k) := by
    intro b hb
    obtain ⟨v1, v2, v3, v4, _⟩ := hv b hb
    have := H b.dst.toNat (by omega)
    rw [Int.toNat_of_nonneg v3] at this
    exact this
  rcases E v hvN with ⟨h1, ⟨b, b1, b2, b3, b4⟩, h3⟩ | ⟨h1, h2⟩
  · left
    refine ⟨h1, ?_, fun p hw ho hl => ?_⟩
    · rcases look b b1 with ⟨_, ⟨p, p1, p2, p3, p4⟩, _⟩ | ⟨e, _⟩
      · refine ⟨b :: p, ⟨b2, p1⟩, ?_, by simp [p3], ?_⟩
        · intro x hx
          rcases List.mem_cons.1 hx with rfl | hx
          · exact b1
          · exact p2 x hx
        · show b.most + wsum p = (l.foldl (stepE cur) (List.replicate 128 farI)).getD v 0
          rw [b4, p4]; omega
      · omega
    · cases p with
      | nil => simp at hl
      | cons x p =>
        rcases look x ho.head with ⟨q1, _, q2⟩ | ⟨_, q2⟩
        · have := h3 x ho.head hw.1 q1
          have := q2 p hw.2 ho.tail (by simpa using hl)
          show (l.foldl (stepE cur) (List.replicate 128 farI)).getD v 0 ≤ x.most + wsum p
          omega
        · exact absurd (by simpa using hl) (q2 p hw.2 ho.tail)
  · right
    refine ⟨h1, fun p hw ho hl => ?_⟩
    cases p with
    | nil => simp at hl
    | cons x p =>
      rcases look x ho.head with ⟨q1, _⟩ | ⟨_, q2⟩
      · exact h2 x ho.head hw.1 q1
      · exact q2 p hw.2 ho.tail (by simpa using hl)

/-- THE LAW: the rows of walks. -/
theorem walkRow_k {N : Nat} {l : List Bd} {to : Nat} (hN : N ≤ 128) (hto : to < N) (hv : AllValid N l) : ∀ k, k ≤ 129 → KRow N l to k (walkRow l to k)
  | 0, _ => by
    intro v hvN
    unfold walkRow
    rw [getD_set]
    by_cases e : v = to
    · subst e
      rw [if_pos ⟨rfl, by simp; omega⟩]
      left
      refine ⟨by unfold farI; omega, ⟨[], rfl, Over.nil, rfl, rfl⟩, fun p _ _ hl => ?_⟩
      have : p = [] := List.length_eq_zero_iff.1 hl
      subst this; simp [wsum]
    · rw [if_neg (fun x => e x.1), rep_far_get (by omega)]
      right
      refine ⟨rfl, fun p hw _ hl => ?_⟩
      have : p = [] := List.length_eq_zero_iff.1 hl
      subst this
      simp only [Walk] at hw
      omega
  | k + 1, hk => kRow_step hN hv (by omega) (walkOk_row hv to k) (walkRow_k hN hto hv k (by omega))

/-- The reference's row. -/
def stepF (cur nx : List Fr) (b : Bd) : List Fr :=
  if (cur.getD b.dst.toNat fr0).ok = true then nx.set b.src.toNat (lesserP (nx.getD b.src.toNat fr0) (plusP (cur.getD b.dst.toNat fr0) b.most)) else nx
def stepsRow (N : Nat) (l : List Bd) (to : Nat) : Nat → List Fr
  | 0 => (List.replicate N fr0).set to ⟨0, true⟩
  | k + 1 => l.foldl (stepF (stepsRow N l to k)) (List.replicate N fr0)
def stepsP (N : Nat) (l : List Bd) (to n : Nat) : List (List Fr) := (List.range (n + 1)).map (stepsRow N l to)

/-- The same row, written in two ways. -/
def SameRow (N : Nat) (r : List Int) (f : List Fr) : Prop := f.length = N ∧ ∀ v : Nat, v < N → (r.getD v 0 < farI ∧ f.getD v fr0 = ⟨r.getD v 0, true⟩) ∨ (r.getD v 0 = farI ∧ (f.getD v fr0).ok = false)

theorem getDF_set (d : List Fr) (j i : Nat) (v : Fr) : (d.set j v).getD i fr0 = if i = j ∧ j < d.length then v else d.getD i fr0 := by
  simp only [List.getD_eq_getElem?_getD, List.getElem?_set]
  by_cases e : j = i
  · subst e
    by_cases hl : j < d.length
    · simp [hl]
    · simp [hl]
  · simp [e, Ne.symm e]

theorem sameRow_step {N c : Nat} {cur nx : List Int} {curF nxF : List Fr} {b : Bd} (hN : N ≤ 128) (hc : c ≤ 128) (hb : b.valid N) (hk : WalkOk c cur) (hn : WalkOk (c + 1) nx) (H : SameRow N cur curF) (K : SameRow N nx nxF) : SameRow N (stepE cur nx b) (stepF curF nxF b) := by
  obtain ⟨v1, v2, v3, v4, v5, v6⟩ := hb
  obtain ⟨hl, K⟩ := K
  unfold stepE stepF
  have hd := H.2 b.dst.toNat (by omega)
  have hg : getI cur b.dst = cur.getD b.dst.toNat 0 := rfl
  rw [hg]
  rcases hd with ⟨d1, d2⟩ | ⟨d1, d2⟩
  · rw [if_pos d1, d2]
    rw [if_pos rfl]
    refine ⟨by rw [List.length_set]; exact hl, fun v hv => ?_⟩
    rw [getD_set, getDF_set]
    by_cases e : v = b.src.toNat
    · subst e
      rw [if_pos ⟨rfl, by rw [hn.1]; omega⟩, if_pos ⟨rfl, by omega⟩]
      left
      have hs : getI nx b.src = nx.getD b.src.toNat 0 := rfl
      rw [hs]
      have hcd := hk.2 b.dst.toNat
      have hnd := hn.2 b.src.toNat
      have hsum : cur.getD b.dst.toNat 0 + b.most < farI := by unfold farI at *; omega
      rcases K b.src.toNat hv with ⟨k1, k2⟩ | ⟨k1, k2⟩
      · rw [k2]
        unfold lesserP plusP
        by_cases hm : cur.getD b.dst.toNat 0 + b.most < nx.getD b.src.toNat 0
        · rw [if_pos (.inr ⟨rfl, hm⟩), Int.min_eq_right (by omega)]
          exact ⟨hsum, rfl⟩
        · rw [if_neg (fun h => h.elim (fun h => by cases h) (fun h => hm h.2)), Int.min_eq_left (by omega)]
          exact ⟨k1, rfl⟩
      · unfold lesserP plusP
        rw [if_pos (.inl k2), Int.min_eq_right (by omega)]
        exact ⟨hsum, rfl⟩
    · rw [if_neg (fun x => e x.1), if_neg (fun x => e x.1)]
      exact K v hv
  · rw [if_neg (by omega), if_neg (by rw [d2]; simp)]
    exact ⟨hl, K⟩

theorem sameRow_fold {N c : Nat} {cur : List Int} {curF : List Fr} (hN : N ≤ 128) (hc : c ≤ 128) (hk : WalkOk c cur) (H : SameRow N cur curF) : ∀ (l : List Bd) (nx : List Int) (nxF : List Fr), AllValid N l → WalkOk (c + 1) nx → SameRow N nx nxF →
    SameRow N (l.foldl (stepE cur) nx) (l.foldl (stepF curF) nxF)
  | [], _, _, _, _, K => K
  | b :: l, _nx, _nxF, hv, hn, K => sameRow_fold hN hc hk H l _ _ (fun x hx => hv x (List.mem_cons_of_mem _ hx)) (walkOk_step (hv b (List.mem_cons_self ..)) hk hn) (sameRow_step hN hc (hv b (List.mem_cons_self ..)) hk hn H K)

theorem rep_fr0_get (N v : Nat) : (List.replicate N fr0).getD v fr0 = fr0 := by
  simp only [List.getD_eq_getElem?_getD, List.getElem?_replicate]
  split <;> rfl

/-- THE LAW: the reference's steps are the program's walks. -/
theorem stepsRow_same {N : Nat} {l : List Bd} {to : Nat} (hN : N ≤ 128) (hto : to < N) (hv : AllValid N l) : ∀ k, k ≤ 129 → SameRow N (walkRow l to k) (stepsRow N l to k)
  | 0, _ => by
    unfold walkRow stepsRow
    refine ⟨by simp, fun v hvN => ?_⟩
    rw [getD_set, getDF_set]
    by_cases e : v = to
    · subst e
      rw [if_pos ⟨rfl, by simp; omega⟩, if_pos ⟨rfl, by simpa using hvN⟩]
      left; exact ⟨by unfold farI; omega, rfl⟩
    · rw [if_neg (fun x => e x.1), if_neg (fun x => e x.1), rep_far_get (by omega), rep_fr0_get]
      right; exact ⟨rfl, rfl⟩
  | k + 1, hk => by
    refine sameRow_fold hN (by omega) (walkOk_row hv to k) (stepsRow_same hN hto hv k (by omega)) l _ _ hv (walkOk_far _) ⟨by simp, fun v hvN => ?_⟩
    rw [rep_far_get (by omega), rep_fr0_get]
    right; exact ⟨rfl, rfl⟩

end Go.Proofs.YthcmjhellpjllaaGreat
