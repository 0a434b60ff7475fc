/- Merged text 5 of the base: Rg, So1, So2, Fj, So3, Y3, Ae, Fk, Gp. No conditions beyond those stated. -/
import Derived.Test.YthjmkmjojlfejaaGreatB04
import Derived.Test.YthjmkmjojlfejaaGreatB03
import Derived.Test.YthjmkmjojlfejaaGreatB02
import Derived.Test.YthjmkmjojlfejaaGreatB01
namespace Go.Proofs.YthjmkmjojlfejaaGreat
open Go Go.RowKit Go.Shelf
section
variable {P : Program} {ops : Array Oper} {Q : Exit → Act → World → Prop} {md : Region.Mode} {S : World → Prop} {T : Nat → Bool}
def waitsOn (md : Region.Mode) (ops : Array Oper) (t i : Nat) : Bool := match ops[t]? with | none => true | some o => o.after.any fun e => Region.binds md e && e.on == i
def tailWaits (md : Region.Mode) (ops : Array Oper) (T : Nat → Bool) (i : Nat) : Bool := (List.range ops.size).all fun t => !T t || waitsOn md ops t i
def Cn (S : World → Prop) (T : Nat → Bool) (listed : Array Bool) (w : World) : Prop := (∃ t, T t = true ∧ listed.getD t false = true) ∨ S w
def wpAnyG (P : Program) (md : Region.Mode) (ops : Array Oper) (Q : Exit → Act → World → Prop) (S : World → Prop) (T : Nat → Bool) : Nat → Array Bool → Act → World → Prop
 | 0, listed, a, w => Region.ready md ops listed = [] ∧ Q .normal a w
 | fuel + 1, listed, a, w => (Region.ready md ops listed = [] → Q .normal a w) ∧
   ∀ i ∈ Region.ready md ops listed, wpOp P ops Q i (fun a' w' => Cn S T (listed.setIfInBounds i true) w' ∧ wpAnyG P md ops Q S T fuel (listed.setIfInBounds i true) a' w') a w
theorem wpAny_of_G : ∀ (fuel : Nat) (listed : Array Bool) (a : Act) (w : World), wpAnyG P md ops Q S T fuel listed a w → wpAny P md ops Q fuel listed a w
 | 0, _, _, _, h => h
 | fuel + 1, _, _, _, h => ⟨h.1, fun i hi => wpOp_mono (fun a' w' h' => wpAny_of_G fuel _ a' w' h'.2) (h.2 i hi)⟩
theorem Cn.drop {listed : Array Bool} {w : World} {i : Nat} (hTi : T i = false) (h : Cn S T (listed.setIfInBounds i true) w) : Cn S T listed w := by
 rcases h with ⟨t, h1, h2⟩ | h
 ·refine .inl ⟨t, h1, ?_⟩
  have hne : i ≠ t := by intro e; rw [e, h1] at hTi; cases hTi
  rwa [getD_set_ne false hne] at h2
 ·exact .inr h
theorem getD_set_keep {listed : Array Bool} {i t : Nat} (h : listed.getD t false = true) : (listed.setIfInBounds i true).getD t false = true := by
 by_cases hne : i = t
 ·subst hne
  rcases Nat.lt_or_ge i listed.size with h' | h'
  ·simp [h']
  ·simp [Array.getElem?_eq_none h'] at h
 ·rw [getD_set_ne false hne]; exact h
theorem Cn.add {listed : Array Bool} {w : World} (i : Nat) (h : Cn S T listed w) : Cn S T (listed.setIfInBounds i true) w := by
 rcases h with ⟨t, h1, h2⟩ | h
 ·exact .inl ⟨t, h1, getD_set_keep h2⟩
 ·exact .inr h
theorem not_tail {i : Nat} (hl : tailWaits md ops T i = true) {listed : Array Bool} (hr : i ∈ Region.ready md ops listed) {j : Nat} (hj : j ∈ Region.ready md ops listed) (_hji : j ≠ i) : T j = false := by
 cases ht : T j with
 | false => rfl
 | true =>
   exfalso
   obtain ⟨_, oj, hoj, hall⟩ := mem_ready.1 hj
   have hjs : j < ops.size := (Array.getElem?_eq_some_iff.1 hoj).1
   unfold tailWaits at hl
   rw [List.all_eq_true] at hl
   have h1 := hl j (List.mem_range.2 hjs)
   rw [ht] at h1
   simp only [Bool.not_true, Bool.false_or] at h1
   unfold waitsOn at h1
   rw [hoj] at h1
   obtain ⟨e, he, hb⟩ := Array.any_eq_true'.1 h1
   simp only [Bool.and_eq_true, beq_iff_eq] at hb
   have h2 := hall e he hb.1
   rw [hb.2] at h2
   have h0 := (mem_ready.1 hr).1
   rcases Nat.lt_or_ge i listed.size with h' | h'
   ·simp [h'] at h0 h2; rw [h0] at h2; cases h2
   ·simp [Array.getElem?_eq_none h'] at h2
theorem wpAnyG_first {i : Nat} {oi : Oper} {v : Value} {S1 : World → Prop} (hi : ops[i]? = some oi) (hTi : T i = false) (hsel : ∀ (j : Nat) (o : Oper) cs b, ops[j]? = some o → o.op ≠ .select cs b)
 (hQ : ∀ c a w, Q (.panic c) (a.put oi.dst v) w → Q (.panic c) a w) :
 ∀ (fuel : Nat) (listed : Array Bool) (a : Act) (w : World),
  ((tailWaits md ops T i = true ∧ (∀ w, S w → S1 w) ∧ ∀ t, T t = true → listed.getD t false = false) ∨ ∀ w, S1 w) →
  (∀ j oj, ops[j]? = some oj → j ≠ i → listed.getD j true = false → (∀ e ∈ oj.after, Region.binds md e = true → e.on ≠ i) → oi.apart ops oj = true) →
  i ∈ Region.ready md ops listed → YieldsIf P ops S1 oi v a → S1 w → Cn S T listed w →
  wpAnyG P md ops Q S T fuel (listed.setIfInBounds i true) (a.put oi.dst v) w → wpAnyG P md ops Q S T (fuel + 1) listed a w := by
 intro fuel
 induction fuel with
 | zero =>
   intro listed a w hM _ hr hy hS hC H
   refine ⟨fun h => (by rw [h] at hr; cases hr), fun j hj => ?_⟩
   by_cases hji : j = i
   ·subst hji; exact hy.wpOp hi hS ⟨hC.add _, H⟩
   ·have := ready_mono hj hji
    rw [H.1] at this
    cases this
 | succ fuel ih =>
   intro listed a w hM hfree hr hy hS hC H
   refine ⟨fun h => (by rw [h] at hr; cases hr), fun j hj => ?_⟩
   by_cases hji : j = i
   ·subst hji; exact hy.wpOp hi hS ⟨hC.add _, H⟩
   ·have h1 := H.2 j (ready_mono hj hji)
    obtain ⟨hjun, oj, hoj, hall⟩ := mem_ready.1 hj
    have hnot : ∀ e ∈ oj.after, Region.binds md e = true → e.on ≠ i := fun e he hb heq => by
     have h1 := hall e he hb
     have h0 := (mem_ready.1 hr).1
     rw [heq] at h1
     rcases Nat.lt_or_ge i listed.size with h' | h'
     ·simp [h'] at h0 h1; rw [h0] at h1; cases h1
     ·simp [Array.getElem?_eq_none h'] at h1
    have h2 := wpOp_putIf hoj (hfree j oj hoj hji hjun hnot) (fun cs b => hsel i oi cs b hi) (fun cs b => hsel j oj cs b hoj) hQ hy h1
    have hfree' : ∀ k ok, ops[k]? = some ok → k ≠ i → (listed.setIfInBounds j true).getD k true = false →
     (∀ e ∈ ok.after, Region.binds md e = true → e.on ≠ i) → oi.apart ops ok = true := fun k ok hk hki hun hno => by
     refine hfree k ok hk hki ?_ hno
     by_cases hjk : j = k
     ·subst hjk; exact hjun
     ·rw [getD_set_ne true hjk] at hun; exact hun
    refine wpOp_mono (fun a' w' h3 => ?_) h2
    have hC2 : Cn S T (listed.setIfInBounds j true) w' := by
     have := h3.2.1
     rw [Array.setIfInBounds_comm _ _ (Ne.symm hji)] at this
     exact this.drop hTi
    have hM' : (tailWaits md ops T i = true ∧ (∀ w, S w → S1 w) ∧ ∀ t, T t = true → (listed.setIfInBounds j true).getD t false = false) ∨ ∀ w, S1 w := by
     rcases hM with ⟨m1, m2, m3⟩ | hM
     ·left
      refine ⟨m1, m2, fun t ht => ?_⟩
      have htj : T j = false := not_tail m1 hr hj hji
      have hne : j ≠ t := by intro e; rw [e, ht] at htj; cases htj
      rw [getD_set_ne false hne]; exact m3 t ht
     ·exact .inr hM
    have hS1 : S1 w' := by
     rcases hM' with ⟨_, m2, m3⟩ | hM
     ·rcases hC2 with ⟨t, h4, h5⟩ | h
      ·rw [m3 t h4] at h5; cases h5
      ·exact m2 _ h
     ·exact hM _
    refine ⟨hC2, ih (listed.setIfInBounds j true) a' w' hM' hfree' (ready_mono hr (Ne.symm hji)) h3.1 hS1 hC2 ?_⟩
    rw [Array.setIfInBounds_comm _ _ hji]
    exact h3.2.2
theorem wpAnyG_pure {i d : Nat} {oi : Oper} {v : Value} {fuel : Nat} {listed : Array Bool} {a : Act} {w : World} (hi : ops[i]? = some oi) (hd : oi.dst = some d) (hTi : T i = false)
 (hs : Region.noSelect ops = true) (hf : Region.free md ops listed i = true) (hr : (Region.ready md ops listed).contains i = true)
 (hQ : ∀ c a w, Q (.panic c) (a.put oi.dst v) w → Q (.panic c) a w) (hy : YieldsIf P ops (fun _ => True) oi v a) (hC : Cn S T listed w)
 (h : wpAnyG P md ops Q S T fuel (listed.setIfInBounds i true) { a with tmps := a.tmps.setIfInBounds d v } w) : wpAnyG P md ops Q S T (fuel + 1) listed a w :=
 wpAnyG_first (S1 := fun _ => True) hi hTi (Region.noSelect_spec hs) hQ fuel listed a w (.inr fun _ => trivial) (Region.free_spec hi hf) (by simpa using hr) hy trivial hC (by rw [hd]; exact h)
theorem t_g {P : Program} {ops : Array Oper} {Q : Exit → Act → World → Prop} {md : Region.Mode} {oi : Oper} {fuel : Nat} {listed : Array Bool} {a : Act} {w : World} {S : World → Prop} {T : Nat → Bool} (i d : Nat) (v : Value) (hi : ops[i]? = some oi) (hB : (!T i && t_B md ops listed i d) = true) (hw : Region.wanted oi (yielded ops a.tmps) = true) (hQ : ∀ c a w, Q (.panic c) (a.put oi.dst v) w → Q (.panic c) a w) (hy : ∀ V : World, True → (execOp a.eval oi).run P V = .ok (.value v) V) (hC : Cn S T listed w) (h : wpAnyG P md ops Q S T fuel (listed.setIfInBounds i true) { a with tmps := a.tmps.setIfInBounds d v } w) : wpAnyG P md ops Q S T (fuel + 1) listed a w := by
 simp only [Bool.and_eq_true, Bool.not_eq_true'] at hB
 obtain ⟨h1, h2, h3, h4⟩ := t_B_spec hi hB.2
 exact wpAnyG_pure hi h1 hB.1 h2 h3 h4 hQ (.inl ⟨hw, hy⟩) hC h
theorem wpAnyG_load {i d : Nat} {oi : Oper} {v : Value} {fuel : Nat} {listed : Array Bool} {a : Act} {w : World} (hi : ops[i]? = some oi) (hd : oi.dst = some d) (hTi : T i = false)
 (hs : Region.noSelect ops = true) (hf : Region.free md ops listed i = true) (hr : (Region.ready md ops listed).contains i = true) (hw : tailWaits md ops T i = true) (hn : ((List.range listed.size).all fun t => !T t || !listed.getD t false) = true)
 (hQ : ∀ c a w, Q (.panic c) (a.put oi.dst v) w → Q (.panic c) a w) (hy : YieldsIf P ops S oi v a) (hS : S w)
 (h : wpAnyG P md ops Q S T fuel (listed.setIfInBounds i true) { a with tmps := a.tmps.setIfInBounds d v } w) : wpAnyG P md ops Q S T (fuel + 1) listed a w :=
 wpAnyG_first (S1 := S) hi hTi (Region.noSelect_spec hs) hQ fuel listed a w (.inl ⟨hw, fun _ h => h, fun t ht => by
  rcases Nat.lt_or_ge t listed.size with h' | h'
  ·rw [List.all_eq_true] at hn
   have := hn t (List.mem_range.2 h')
   rw [ht] at this
   simpa using this
  ·simp [Array.getElem?_eq_none h']⟩) (Region.free_spec hi hf) (by simpa using hr) hy hS (.inr hS) (by rw [hd]; exact h)
theorem wpAnyG_step {fuel : Nat} {listed : Array Bool} {a : Act} {w : World} (i : Nat) {o : Oper} (ho : ops[i]? = some o) (hr : Region.ready md ops listed = [i])
 (h : ∀ K' : Act → World → Prop, Shut (∀ a w, Cn S T (listed.setIfInBounds i true) w → wpAnyG P md ops Q S T fuel (listed.setIfInBounds i true) a w → K' a w) → if Region.wanted o (yielded ops a.tmps) = true then Oper.wp P o a w K' Q else K' (a.put o.dst undef) w) :
 wpAnyG P md ops Q S T (fuel + 1) listed a w :=
 ⟨fun h0 => (by rw [hr] at h0; cases h0), fun j hj => (by
  rw [hr, List.mem_singleton] at hj; rw [hj]
  exact wpOp_step ho fun K' hK => h K' fun a w h1 h2 => hK a w ⟨h1, h2⟩)⟩
theorem wpAnyG_done {listed : Array Bool} {a : Act} {w : World} (hr : Region.ready md ops listed = []) (h : Q .normal a w) : ∀ fuel, wpAnyG P md ops Q S T fuel listed a w
 | 0 => ⟨hr, h⟩
 | _ + 1 => ⟨fun _ => h, by rw [hr]; simp⟩
theorem wp_region_G {id : Nat} {a : Act} {w : World} (hm : P.follows .mixedOrders = true)
 (h : wpAnyG P .any ops Q S T ops.size (Array.replicate ops.size false) a w.drew) : (Code.region id ops true).wp P Q a w :=
 wp_region_any hm (wpAny_of_G _ _ _ _ h)
end
end Go.Proofs.YthjmkmjojlfejaaGreat
namespace Go.Proofs.YthjmkmjojlfejaaGreat
def swapF (f : Nat → Int) (a b n : Nat) : Nat → Int := fun x => if a ≤ x ∧ x < a + n then f (x - a + b) else if b ≤ x ∧ x < b + n then f (x - b + a) else f x
def rotF (f : Nat → Int) (a m b : Nat) : Nat → Int := fun x => if x < a then f x else if x < a + (b - m) then f (x - a + m) else if x < b then f (x - (b - m)) else f x
theorem swapF_zero (f : Nat → Int) (a b : Nat) : swapF f a b 0 = f := by
 funext x
 simp only [swapF]
 rw [if_neg (by omega), if_neg (by omega)]
theorem swapF_succ (f : Nat → Int) (a b n : Nat) (h : a + n < b) : swapF f a b (n + 1) = swapF (swapF f a b n) (a + n) (b + n) 1 := by
 funext x
 simp only [swapF]
 repeat' split
 all_goals first | rfl | (exfalso; omega) | (congr 1; omega)
theorem rot_left (f : Nat → Int) (m i j : Nat) (hi : i ≤ m) (h : j < i) : rotF (swapF f (m - i) m j) (m - (i - j)) m (m + j) = rotF f (m - i) m (m + j) := by
 funext x
 simp only [rotF, swapF]
 repeat' split
 all_goals first | rfl | (exfalso; omega) | (congr 1; omega)
theorem rot_right (f : Nat → Int) (m i j : Nat) (hi : i ≤ m) (h : i < j) : rotF (swapF f (m - i) (m + j - i) i) (m - i) m (m + (j - i)) = rotF f (m - i) m (m + j) := by
 funext x
 simp only [rotF, swapF]
 repeat' split
 all_goals first | rfl | (exfalso; omega) | (congr 1; omega)
theorem rot_equal (f : Nat → Int) (m i : Nat) (hi : i ≤ m) : swapF f (m - i) m i = rotF f (m - i) m (m + i) := by
 funext x
 simp only [rotF, swapF]
 repeat' split
 all_goals first | rfl | (exfalso; omega) | (congr 1; omega)
def SortedF (lt : Int → Int → Prop) (f : Nat → Int) (a b : Nat) : Prop := ∀ x y, a ≤ x → x < y → y < b → lt (f x) (f y)
structure MovedF (f g : Nat → Int) (a b : Nat) : Prop where
 same : ∀ x, ¬ (a ≤ x ∧ x < b) → g x = f x
 mem : ∀ x, a ≤ x → x < b → ∃ y, a ≤ y ∧ y < b ∧ g x = f y
theorem MovedF.refl (f : Nat → Int) (a b : Nat) : MovedF f f a b := ⟨fun _ _ => rfl, fun x h1 h2 => ⟨x, h1, h2, rfl⟩⟩
theorem MovedF.trans {f g h : Nat → Int} {a b : Nat} (p : MovedF f g a b) (q : MovedF g h a b) : MovedF f h a b :=
 ⟨fun x hx => (q.same x hx).trans (p.same x hx), fun x h1 h2 => by
  obtain ⟨y, y1, y2, e⟩ := q.mem x h1 h2
  obtain ⟨z, z1, z2, e2⟩ := p.mem y y1 y2
  exact ⟨z, z1, z2, e.trans e2⟩⟩
theorem MovedF.wide {f g : Nat → Int} {a b c d : Nat} (p : MovedF f g a b) (h1 : c ≤ a) (h2 : b ≤ d) : MovedF f g c d :=
 ⟨fun x hx => p.same x (by omega), fun x x1 x2 => by
  by_cases h : a ≤ x ∧ x < b
  ·obtain ⟨y, y1, y2, e⟩ := p.mem x h.1 h.2
   exact ⟨y, by omega, by omega, e⟩
  ·exact ⟨x, x1, x2, p.same x h⟩⟩
theorem MovedF.rot (f : Nat → Int) {a m b : Nat} (h1 : a ≤ m) (h2 : m ≤ b) : MovedF f (rotF f a m b) a b :=
 ⟨fun x hx => by
  simp only [rotF]
  by_cases h : x < a
  ·rw [if_pos h]
  ·rw [if_neg h, if_neg (by omega), if_neg (by omega)],
  fun x x1 x2 => by
   simp only [rotF]
   rw [if_neg (by omega)]
   by_cases h : x < a + (b - m)
   ·rw [if_pos h]; exact ⟨x - a + m, by omega, by omega, rfl⟩
   ·rw [if_neg h, if_pos x2]; exact ⟨x - (b - m), by omega, by omega, rfl⟩⟩
structure MergedF (lt : Int → Int → Prop) (f g : Nat → Int) (a b : Nat) : Prop where
 sorted : SortedF lt g a b
 moved : MovedF f g a b
theorem merge_split {lt : Int → Int → Prop} (htr : ∀ x y z, lt x y → lt y z → lt x z) {f : Nat → Int} {a m b mid start end_ : Nat}
 (ham : a ≤ m) (hmb : m ≤ b) (hA : SortedF lt f a m) (hB : SortedF lt f m b) (hs1 : a ≤ start) (hs2 : start ≤ m) (he1 : m ≤ end_) (he2 : end_ ≤ b) (hmid : start + (end_ - m) = mid)
 (hlo : a < start → end_ < b → lt (f (start - 1)) (f end_)) (hhi : start < m → m < end_ → lt (f (end_ - 1)) (f start)) :
 let g := rotF f start m end_
 SortedF lt g a start ∧ SortedF lt g start mid ∧ SortedF lt g mid end_ ∧ SortedF lt g end_ b ∧ (∀ x y, a ≤ x → x < mid → mid ≤ y → y < b → lt (g x) (g y)) := by
 intro g
 have g1 : ∀ x, x < start → g x = f x := fun x h => by show rotF f start m end_ x = _; simp only [rotF]; rw [if_pos h]
 have g2 : ∀ x, start ≤ x → x < mid → g x = f (x - start + m) := fun x h1 h2 => by show rotF f start m end_ x = _; simp only [rotF]; rw [if_neg (by omega), if_pos (by omega)]
 have g3 : ∀ x, mid ≤ x → x < end_ → g x = f (x - (end_ - m)) := fun x h1 h2 => by show rotF f start m end_ x = _; simp only [rotF]; rw [if_neg (by omega), if_neg (by omega), if_pos h2]
 have g4 : ∀ x, end_ ≤ x → g x = f x := fun x h => by show rotF f start m end_ x = _; simp only [rotF]; rw [if_neg (by omega), if_neg (by omega), if_neg (by omega)]
 have lo : ∀ x y, a ≤ x → x < start → end_ ≤ y → y < b → lt (f x) (f y) := by
  intro x y x1 x2 y1 y2
  have h0 := hlo (by omega) (by omega)
  have h1 : lt (f x) (f end_) := by
   by_cases e : x = start - 1
   ·rw [e]; exact h0
   ·exact htr _ _ _ (hA x (start - 1) x1 (by omega) (by omega)) h0
  by_cases e : y = end_
  ·rw [e]; exact h1
  ·exact htr _ _ _ h1 (hB end_ y (by omega) (by omega) y2)
 have hi : ∀ x y, m ≤ x → x < end_ → start ≤ y → y < m → lt (f x) (f y) := by
  intro x y x1 x2 y1 y2
  have h0 := hhi (by omega) (by omega)
  have h1 : lt (f x) (f start) := by
   by_cases e : x = end_ - 1
   ·rw [e]; exact h0
   ·exact htr _ _ _ (hB x (end_ - 1) x1 (by omega) (by omega)) h0
  by_cases e : y = start
  ·rw [e]; exact h1
  ·exact htr _ _ _ h1 (hA start y (by omega) (by omega) y2)
 refine ⟨?_, ?_, ?_, ?_, ?_⟩
 ·intro x y x1 xy y1
  rw [g1 x (by omega), g1 y y1]
  exact hA x y x1 xy (by omega)
 ·intro x y x1 xy y1
  rw [g2 x x1 (by omega), g2 y (by omega) y1]
  exact hB _ _ (by omega) (by omega) (by omega)
 ·intro x y x1 xy y1
  rw [g3 x x1 (by omega), g3 y (by omega) y1]
  exact hA _ _ (by omega) (by omega) (by omega)
 ·intro x y x1 xy y1
  rw [g4 x x1, g4 y (by omega)]
  exact hB _ _ (by omega) xy y1
 ·intro x y x1 x2 y1 y2
  by_cases hx : x < start
  ·rw [g1 x hx]
   by_cases hy : y < end_
   ·rw [g3 y y1 hy]; exact hA _ _ x1 (by omega) (by omega)
   ·rw [g4 y (by omega)]; exact lo x y x1 hx (by omega) y2
  ·rw [g2 x (by omega) x2]
   by_cases hy : y < end_
   ·rw [g3 y y1 hy]; exact hi _ _ (by omega) (by omega) (by omega) (by omega)
   ·rw [g4 y (by omega)]; exact hB _ _ (by omega) (by omega) y2
theorem sorted_join {lt : Int → Int → Prop} {g : Nat → Int} {a mid b : Nat} (h1 : SortedF lt g a mid) (h2 : SortedF lt g mid b) (h3 : ∀ x y, a ≤ x → x < mid → mid ≤ y → y < b → lt (g x) (g y)) : SortedF lt g a b := by
 intro x y x1 xy y1
 by_cases hy : y < mid
 ·exact h1 x y x1 xy hy
 by_cases hx : x < mid
 ·exact h3 x y x1 hx (by omega) y1
 ·exact h2 x y (by omega) xy y1
theorem merge_halves {lt : Int → Int → Prop} {g p q : Nat → Int} {a mid b : Nat} (h1 : MergedF lt g p a mid) (h2 : MergedF lt p q mid b) (ha : a ≤ mid) (hb : mid ≤ b) (h3 : ∀ x y, a ≤ x → x < mid → mid ≤ y → y < b → lt (g x) (g y)) :
 MergedF lt g q a b := by
 have eq1 : ∀ x, x < mid → q x = p x := fun x hx => h2.moved.same x (by omega)
 refine ⟨sorted_join (fun x y x1 xy y1 => ?_) h2.sorted ?_, (h1.moved.wide (Nat.le_refl _) hb).trans (h2.moved.wide ha (Nat.le_refl _))⟩
 ·rw [eq1 x (by omega), eq1 y y1]; exact h1.sorted x y x1 xy y1
 ·intro x y x1 x2 y1 y2
  rw [eq1 x x2]
  obtain ⟨z, z1, z2, ez⟩ := h1.moved.mem x x1 x2
  obtain ⟨u, u1, u2, eu⟩ := h2.moved.mem y y1 y2
  rw [ez, eu, h1.moved.same u (by omega)]
  exact h3 z u z1 z2 u1 u2
theorem rotF_none (f : Nat → Int) (a b : Nat) : rotF f a b b = f := by
 funext x
 simp only [rotF]
 by_cases h : x < a
 ·rw [if_pos h]
 ·rw [if_neg h, if_neg (by omega)]
  by_cases h2 : x < b
  ·rw [if_pos h2]; congr 1; omega
  ·rw [if_neg h2]
theorem rotF_none' (f : Nat → Int) (a b : Nat) : rotF f a a b = f := by
 funext x
 simp only [rotF]
 by_cases h : x < a
 ·rw [if_pos h]
 ·rw [if_neg h]
  by_cases h2 : x < a + (b - a)
  ·rw [if_pos h2]; congr 1; omega
  ·rw [if_neg h2, if_neg (by omega)]
theorem rot_up (f : Nat → Int) (a k : Nat) (h : a ≤ k) : swapF (rotF f a (a + 1) (k + 1)) k (k + 1) 1 = rotF f a (a + 1) (k + 2) := by
 funext x
 simp only [rotF, swapF]
 repeat' split
 all_goals first | rfl | (exfalso; omega) | (congr 1; omega)
theorem rot_down (f : Nat → Int) (k m : Nat) (h : k < m) : swapF (rotF f (k + 1) m (m + 1)) (k + 1) k 1 = rotF f k m (m + 1) := by
 funext x
 simp only [rotF, swapF]
 repeat' split
 all_goals first | rfl | (exfalso; omega) | (congr 1; omega)
section
variable {lt : Int → Int → Prop} (htr : ∀ x y z, lt x y → lt y z → lt x z)
include htr
theorem insert_first {f : Nat → Int} {a i b : Nat} (hi0 : a + 1 ≤ i) (hi1 : i ≤ b) (hB : SortedF lt f (a + 1) b) (hlo : ∀ x, a + 1 ≤ x → x < i → lt (f x) (f a)) (hhi : i < b → lt (f a) (f i)) : MergedF lt f (rotF f a (a + 1) i) a b := by
 refine ⟨?_, (MovedF.rot f (by omega) hi0).wide (Nat.le_refl _) hi1⟩
 have hh : ∀ y, i ≤ y → y < b → lt (f a) (f y) := fun y y1 y2 => by
  have h0 := hhi (by omega)
  by_cases e : y = i
  ·rw [e]; exact h0
  ·exact htr _ _ _ h0 (hB i y (by omega) (by omega) y2)
 intro x y x1 xy y2
 simp only [rotF]
 rw [if_neg (by omega), if_neg (by omega : ¬ y < a)]
 by_cases h1 : x < a + (i - (a + 1))
 ·rw [if_pos h1]
  by_cases h2 : y < a + (i - (a + 1))
  ·rw [if_pos h2]; exact hB _ _ (by omega) (by omega) (by omega)
  ·rw [if_neg h2]
   by_cases h3 : y < i
   ·rw [if_pos h3, show y - (i - (a + 1)) = a from by omega]; exact hlo _ (by omega) (by omega)
   ·rw [if_neg h3]; exact hB _ _ (by omega) (by omega) y2
 ·rw [if_neg h1, if_neg (by omega : ¬ y < a + (i - (a + 1)))]
  by_cases h3 : x < i
  ·rw [if_pos h3, if_neg (by omega : ¬ y < i), show x - (i - (a + 1)) = a from by omega]; exact hh _ (by omega) y2
  ·rw [if_neg h3, if_neg (by omega : ¬ y < i)]; exact hB _ _ (by omega) xy y2
theorem insert_last {f : Nat → Int} {a i m : Nat} (hi0 : a ≤ i) (hi1 : i ≤ m) (hA : SortedF lt f a m) (hlo : a < i → lt (f (i - 1)) (f m)) (hhi : ∀ x, i ≤ x → x < m → lt (f m) (f x)) : MergedF lt f (rotF f i m (m + 1)) a (m + 1) := by
 refine ⟨?_, (MovedF.rot f hi1 (by omega)).wide hi0 (Nat.le_refl _)⟩
 have hh : ∀ y, a ≤ y → y < i → lt (f y) (f m) := fun y y1 y2 => by
  have h0 := hlo (by omega)
  by_cases e : y = i - 1
  ·rw [e]; exact h0
  ·exact htr _ _ _ (hA y (i - 1) y1 (by omega) (by omega)) h0
 intro x y x1 xy y2
 simp only [rotF]
 by_cases h1 : x < i
 ·rw [if_pos h1]
  by_cases h2 : y < i
  ·rw [if_pos h2]; exact hA _ _ x1 xy (by omega)
  ·rw [if_neg h2]
   by_cases h3 : y < i + (m + 1 - m)
   ·rw [if_pos h3, show y - i + m = m from by omega]; exact hh _ x1 h1
   ·rw [if_neg h3, if_pos y2]; exact hA _ _ x1 (by omega) (by omega)
 ·rw [if_neg h1, if_neg (by omega : ¬ y < i)]
  by_cases h3 : x < i + (m + 1 - m)
  ·rw [if_pos h3, show x - i + m = m from by omega, if_neg (by omega : ¬ y < i + (m + 1 - m)), if_pos y2]
   exact hhi _ (by omega) (by omega)
  ·rw [if_neg h3, if_pos (by omega), if_neg (by omega : ¬ y < i + (m + 1 - m)), if_pos y2]
   exact hA _ _ (by omega) (by omega) (by omega)
end
def keyLt (key : Int → Int) (x y : Int) : Prop := key y < key x ∨ (key y = key x ∧ x < y)
theorem keyLt_trans (key : Int → Int) : ∀ x y z, keyLt key x y → keyLt key y z → keyLt key x z := by
 intro x y z h1 h2
 unfold keyLt at *
 omega
theorem keyLt_ne (key : Int → Int) {x y : Int} (h1 : keyLt key x y) : x ≠ y := by
 rintro rfl
 unfold keyLt at h1
 omega
theorem keyLt_late (key : Int → Int) {x y : Int} (h : y < x) : keyLt key x y ↔ key y < key x := by
 unfold keyLt
 constructor
 ·intro h1; omega
 ·intro h1; exact .inl h1
theorem keyLt_late' (key : Int → Int) {x y : Int} (h : y < x) : keyLt key y x ↔ ¬ key y < key x := by
 unfold keyLt
 constructor
 ·intro h1; omega
 ·intro h1; omega
theorem sorted_values {key : Int → Int} {f : Nat → Int} {n : Nat} (hs : SortedF (keyLt key) f 0 n) : ∀ x y, x < n → y < n → f x = f y → x = y := by
 intro x y hx hy e
 apply Classical.byContradiction
 intro hne
 rcases Nat.lt_or_gt_of_ne hne with h | h
 ·exact keyLt_ne key (hs x y (Nat.zero_le _) h hy) e
 ·exact keyLt_ne key (hs y x (Nat.zero_le _) h hx) e.symm
end Go.Proofs.YthjmkmjojlfejaaGreat
namespace Go.Proofs.YthjmkmjojlfejaaGreat
open Go Go.RowKit Go.Shelf
structure KeepsBut (g : Nat) (W W' : World) : Prop where
 size : W.heap.size ≤ W'.heap.size
 same : ∀ q, q < W.heap.size → q ≠ g → W'.heap[q]? = W.heap[q]?
theorem KeepsBut.refl (g : Nat) (W : World) : KeepsBut g W W := ⟨Nat.le_refl _, fun _ _ _ => rfl⟩
theorem KeepsBut.trans {g : Nat} {A B C : World} (h : KeepsBut g A B) (k : KeepsBut g B C) : KeepsBut g A C := ⟨Nat.le_trans h.size k.size, fun q hq hn => (k.same q (Nat.lt_of_lt_of_le hq h.size) hn).trans (h.same q hq hn)⟩
theorem KeepsBut.below {g : Nat} {W W' : World} (h : Below W.heap.size W W') : KeepsBut g W W' := ⟨h.size, fun q hq _ => h.block q hq⟩
theorem KeepsBut.set {g : Nat} (W : World) (o : Nat) (v : Value) : KeepsBut g W (W.setCell ⟨g, o, none⟩ v) := ⟨by simp, fun q _ hn => heap_setCell_other _ _ _ _ hn⟩
theorem KeepsBut.cell {g : Nat} {W W' : World} (h : KeepsBut g W W') {p : Addr} (hp : p.block < W.heap.size) (hn : p.block ≠ g) : W'.cell? p = W.cell? p := World.cell?_of_block (w := W) (h.same p.block hp hn)
theorem RecsAt.keeps {α : Type} {k g : Nat} {f : α → List Value} {W W' : World} {o : Option Addr} {l : List α} (h : RecsAt k f W o l) (hk : KeepsBut g W W') (hne : ∀ q, o = some q → q.block ≠ g) : RecsAt k f W' o l := by
 rcases h with h | ⟨b, off, e, hl, hc⟩
 ·exact .inl h
 ·exact .inr ⟨b, off, e, Nat.lt_of_lt_of_le hl hk.size, fun i hi j hj => (hk.cell (p := ⟨b, off + i * k + j, none⟩) hl (hne ⟨b, off, none⟩ e)).trans (hc i hi j hj)⟩
theorem stripsP_get (F : Fld) (p : Par) {k : Nat} (hk : k < (stripsP F p).length) : (stripsP F p)[k] = stripP F p (p.wst.toNat + k) := by
 have h1 : (stripsP F p)[k]? = some (stripP F p (p.wst.toNat + k)) := by
  have h2 : k < (p.est - p.wst).toNat := by rw [stripsP, stripsTo_len] at hk; exact hk
  unfold stripsP stripsTo
  rw [List.getElem?_map, List.getElem?_range h2]
  rfl
 rw [List.getElem?_eq_getElem hk] at h1
 exact Option.some.inj h1
set_option maxRecDepth 100000 in
set_option maxHeartbeats 8000000 in
theorem weights_any (w : World) (x : FV) (F : Fld) (i : Nat) (hz : F.check = 0) (hi : i < F.prs.length) (h : FldAt w x F) :
 Calls Tryz.prog 108 #[x.val F, .int .i64 (i : Int)] w fun e w' => ∃ g, e = .returned (.slice (some ⟨g, 0, none⟩) F.points.toNat F.points.toNat) ∧ w'.heap[g]? = some (.cells (rowA (weightsOf F F.prs[i])) 3 (0,0)) ∧ w.heap.size ≤ g ∧ Below w.heap.size w w' := by
 have hin := check0_inside hz (List.getElem_mem hi)
 obtain ⟨⟨ls1, ls2⟩, ⟨ll1, ll2⟩, lp⟩ := check0_len hz
 obtain ⟨pb1, pb2⟩ := points_bd (F := F) (by omega) (by omega)
 obtain ⟨N, hN⟩ : ∃ N : Nat, F.points = N := ⟨F.points.toNat, by unfold Fld.points; omega⟩
 have hN1 : N ≤ 1000001 := by unfold Fld.points at hN; omega
 have hpe : pointsE F = N := by unfold pointsE; rw [if_neg (by omega), hN]
 have hPT := fun W hW => pointsE_any W x F hW
 rw [hpe] at hPT
 have hSTR := fun W hW => strips_any W x F F.prs[i] ls2 ll2 hin hW
 have HPTS := hidE (fun (k : Nat) (hk : k + 1 < F.sts.length) => strip_pts hin hk)
 have HBD := hidE (fun (k : Nat) (hk : F.prs[i].wst.toNat + k < F.sts.length) (j : Nat) => show -400000 ≤ (wtsTo F F.prs[i] k).getD j 0 ∧ (wtsTo F F.prs[i] k).getD j 0 ≤ 400000 by
  have h1 := wtsTo_bd hz hin k hk j
  have h2 := check0_x hz hk
  have h3 := check0_x hz (k := F.prs[i].wst.toNat) (by omega)
  omega)
 have HRUN := hidE (fun (k : Nat) (hk : k + 1 < F.sts.length) => show 0 ≤ (stripP F F.prs[i] k).run ∧ (stripP F F.prs[i] k).run ≤ 100000 by
  have h1 := check0_x hz (k := k) (by omega)
  have h2 := check0_x hz hk
  have h3 := check0_up hz hk
  unfold Str.run stripP; dsimp only; omega)
 have HXX := hidE (fun (k : Nat) (hk : k + 1 < F.sts.length) => show (0 ≤ (stripP F F.prs[i] k).west ∧ (stripP F F.prs[i] k).west ≤ 100000) ∧ (0 ≤ (stripP F F.prs[i] k).east ∧ (stripP F F.prs[i] k).east ≤ 100000) from ⟨check0_x hz (k := k) (by omega), check0_x hz hk⟩)
 have HSUC := hidE (fun k => wtsTo_succ F F.prs[i] k)
 have HLEN := hidE (fun k => show (wtsTo F F.prs[i] k).length = N by rw [wtsTo_len, hN]; rfl)
 have HW0 : Hid (wtsTo F F.prs[i] 0 = List.replicate N 0) := hidE (by show List.replicate F.points.toNat 0 = _; rw [hN]; rfl)
 obtain ⟨K, hK⟩ : ∃ K, (F.prs[i].est - F.prs[i].wst).toNat = K := ⟨_, rfl⟩
 have HEND : Hid (weightsOf F F.prs[i] = wtsTo F F.prs[i] K) := hidE (by rw [weightsOf_eq, hK])
 have HSL : Hid ((stripsP F F.prs[i]).length = K) := hidE (by unfold stripsP; rw [stripsTo_len, hK])
 have HSG : Hid (∀ k (hk : k < (stripsP F F.prs[i]).length), (stripsP F F.prs[i])[k] = stripP F F.prs[i] (F.prs[i].wst.toNat + k)) := hidE (fun k hk => stripsP_get F F.prs[i] hk)
 have hKn : F.prs[i].wst.toNat + K < F.sts.length := by obtain ⟨_, _, _, _, _⟩ := hin; omega
 have hNt : F.points.toNat = N := by rw [hN]; rfl
 rw [hNt]
 obtain ⟨bP, oP, haP, hbP, hcP⟩ := RecsAt.at h.pr hi
 obtain ⟨SS, hSS⟩ : ∃ SS, stripsP F F.prs[i] = SS := ⟨_, rfl⟩
 rw [hSS] at HSL HSG hSTR
 obtain ⟨SP, hSP⟩ : ∃ SP, (fun k => stripP F F.prs[i] k) = SP := ⟨_, rfl⟩
 have HSG2 : Hid (∀ k (hk : k < SS.length), SS[k] = SP (F.prs[i].wst.toNat + k)) := hidE (fun k hk => by rw [HSG.out k hk, ← hSP])
 have HPTS2 : Hid (∀ k : Nat, k + 1 < F.sts.length → (0 ≤ (SP k).so ∧ (SP k).so < N) ∧ (0 ≤ (SP k).no ∧ (SP k).no < N) ∧ (0 ≤ (SP k).fso ∧ (SP k).fso < N) ∧ (0 ≤ (SP k).fno ∧ (SP k).fno < N)) := hidE (fun k hk => by rw [← hSP, ← hN]; exact HPTS.out k hk)
 have HRUN2 : Hid (∀ k : Nat, k + 1 < F.sts.length → 0 ≤ (SP k).run ∧ (SP k).run ≤ 100000) := hidE (fun k hk => by rw [← hSP]; exact HRUN.out k hk)
 have HXX2 : Hid (∀ k : Nat, k + 1 < F.sts.length → (0 ≤ (SP k).west ∧ (SP k).west ≤ 100000) ∧ (0 ≤ (SP k).east ∧ (SP k).east ≤ 100000)) := hidE (fun k hk => by rw [← hSP]; exact HXX.out k hk)
 obtain ⟨WT, hWT⟩ : ∃ WT, wtsTo F F.prs[i] = WT := ⟨_, rfl⟩
 have HSUC2 : Hid (∀ k, WT (k + 1) = wStep (WT k) (SP (F.prs[i].wst.toNat + k))) := hidE (fun k => by rw [← hWT, ← hSP]; exact HSUC.out k)
 rw [hWT] at HBD HLEN HW0 HEND
 obtain ⟨WO, hWO⟩ : ∃ WO, weightsOf F F.prs[i] = WO := ⟨_, rfl⟩
 rw [hWO] at HEND ⊢
 obtain ⟨p, hp⟩ : ∃ p, F.prs[i] = p := ⟨_, rfl⟩
 rw [hp] at hcP hSTR HBD HSG2 HSUC2 hKn
 obtain ⟨m, hm⟩ : ∃ m, p.wst.toNat = m := ⟨_, rfl⟩
 rw [hm] at HBD HSG2 HSUC2 hKn
 clear hm
 have HPT := hidE hPT
 have HSTR := hidE hSTR
 have H := hidE h
 clear HPTS HRUN HXX HSUC HSG hSS hSP hWT hWO hp hpe hPT hSTR h hz hin hK hN hNt pb1 pb2
 have hmk3 := fun W => run_make_row' (P := Tryz.prog) 25 3 (.int .i64 0) 8 Tryz.underlying25 Tryz.info3' rfl .i64 .i64 N (by omega) (by omega) W
 obtain ⟨aS, cS, aL, cL, aP, cP, aV, cV⟩ := x
 obtain ⟨st, lm, pr, vr⟩ := F
 unfold FV.val FV.arr at *
 dsimp only at *
 subst haP
 have c0 := hcP 0 (by omega)
 have c1 := hcP 1 (by omega)
 have c2 := hcP 2 (by omega)
 have c3 := hcP 3 (by omega)
 simp only [Par.cells, List.getElem?_cons_zero, List.getElem?_cons_succ, Nat.add_zero] at c0 c1 c2 c3
 unfold Par.val at HSTR
 obtain ⟨pn, ps, pw, pe⟩ := p
 dsimp only at c0 c1 c2 c3 HSTR
 have B0 := hidE (show Below w.heap.size w (w.alloc (.cells #[.slice aS st.length cS, .slice aL lm.length cL, .slice (some ⟨bP, oP, none⟩) pr.length cP, .slice aV vr.length cV] 46)) from (Below.refl _ _).alloc (Nat.le_refl _) _)
 have l0 : w.heap.size < (w.alloc (.cells #[.slice aS st.length cS, .slice aL lm.length cL, .slice (some ⟨bP, oP, none⟩) pr.length cP, .slice aV vr.length cV] 46)).heap.size := by simp
 have HX0 := hidE (heap_alloc_new w (.cells #[.slice aS st.length cS, .slice aL lm.length cL, .slice (some ⟨bP, oP, none⟩) pr.length cP, .slice aV vr.length cV] 46))
 have C := hidE (show w.cell? ⟨bP, oP + i * 4, none⟩ = some (.string pn) ∧ w.cell? ⟨bP, oP + i * 4 + 1, none⟩ = some (.int .i64 ps) ∧ w.cell? ⟨bP, oP + i * 4 + 2, none⟩ = some (.int .i64 pw) ∧ w.cell? ⟨bP, oP + i * 4 + 3, none⟩ = some (.int .i64 pe) from ⟨c0, c1, c2, c3⟩)
 clear c0 c1 c2 c3 hcP
 go_enter Tryz.func108, Tryz.ntmps108
 go_wp2_with fail
 refine (HPT.out _ (H.out.alloc _)).mono ?_
 rintro e w1 ⟨rfl, hb1⟩
 have B1 := hidE (B0.out.trans (hb1.mono B0.out.size))
 have X1 := hidE (blk_below hb1 l0 HX0.out)
 have l1 := lt_of_block X1.out
 clear hb1 l0
 go_upto_region 2 with fail
 obtain ⟨w2, hw2⟩ : ∃ W, W = w1.alloc (.cells (madeCells #[.int .i64 0] N) 3) := ⟨_, rfl⟩
 rw [← hw2]
 have B2 := hidE (show Below w.heap.size w w2 by rw [hw2]; exact B1.out.alloc B1.out.size _)
 have X2 := hidE (show w2.heap[w.heap.size]? = some (.cells #[.slice aS st.length cS, .slice aL lm.length cL, .slice (some ⟨bP, oP, none⟩) pr.length cP, .slice aV vr.length cV] 46 (0,0)) by rw [hw2]; exact (Below.heap_alloc _ _ _ l1).trans X1.out)
 have G2 := hidE (show w2.heap[w1.heap.size]? = some (.cells (rowA (List.replicate N 0)) 3 (0,0)) by rw [hw2, heap_alloc_new, madeInts])
 obtain ⟨g, hg⟩ : ∃ g, w1.heap.size = g := ⟨_, rfl⟩
 rw [hg] at G2 l1 ⊢
 have lg := lt_of_block G2.out
 have l2 := lt_of_block X2.out
 have HGB : Hid (w.heap.size ≤ g) := hidE (by omega)
 clear hw2 hg hmk3 B1 X1
 have e0 : w2.cell? ⟨w.heap.size, 0, none⟩ = some (.slice aS st.length cS) := c_e X2.out rfl
 have e1 : w2.cell? ⟨w.heap.size, 1, none⟩ = some (.slice aL lm.length cL) := c_e X2.out rfl
 have e2 : w2.cell? ⟨w.heap.size, 2, none⟩ = some (.slice (some ⟨bP, oP, none⟩) pr.length cP) := c_e X2.out rfl
 have e3 : w2.cell? ⟨w.heap.size, 3, none⟩ = some (.slice aV vr.length cV) := c_e X2.out rfl
 have hS0 : w2.drew.cell? ⟨w.heap.size, 0, none⟩ = some (.slice aS st.length cS) ∧ w2.drew.cell? ⟨w.heap.size, 1, none⟩ = some (.slice aL lm.length cL) ∧ w2.drew.cell? ⟨w.heap.size, 2, none⟩ = some (.slice (some ⟨bP, oP, none⟩) pr.length cP) ∧ w2.drew.cell? ⟨w.heap.size, 3, none⟩ = some (.slice aV vr.length cV) ∧ w2.drew.cell? ⟨bP, oP + i * 4, none⟩ = some (.string pn) ∧ w2.drew.cell? ⟨bP, oP + i * 4 + 1, none⟩ = some (.int .i64 ps) ∧ w2.drew.cell? ⟨bP, oP + i * 4 + 2, none⟩ = some (.int .i64 pw) ∧ w2.drew.cell? ⟨bP, oP + i * 4 + 3, none⟩ = some (.int .i64 pe) := ⟨e0, e1, e2, e3, (B2.out.cell (p := ⟨bP, oP + i * 4, none⟩) hbP).trans C.out.1, (B2.out.cell (p := ⟨bP, oP + i * 4 + 1, none⟩) hbP).trans C.out.2.1, (B2.out.cell (p := ⟨bP, oP + i * 4 + 2, none⟩) hbP).trans C.out.2.2.1, (B2.out.cell (p := ⟨bP, oP + i * 4 + 3, none⟩) hbP).trans C.out.2.2.2⟩
 refine wp_region_F (S := fun V => V.cell? ⟨w.heap.size, 0, none⟩ = some (.slice aS st.length cS) ∧ V.cell? ⟨w.heap.size, 1, none⟩ = some (.slice aL lm.length cL) ∧ V.cell? ⟨w.heap.size, 2, none⟩ = some (.slice (some ⟨bP, oP, none⟩) pr.length cP) ∧ V.cell? ⟨w.heap.size, 3, none⟩ = some (.slice aV vr.length cV) ∧ V.cell? ⟨bP, oP + i * 4, none⟩ = some (.string pn) ∧ V.cell? ⟨bP, oP + i * 4 + 1, none⟩ = some (.int .i64 ps) ∧ V.cell? ⟨bP, oP + i * 4 + 2, none⟩ = some (.int .i64 pw) ∧ V.cell? ⟨bP, oP + i * 4 + 3, none⟩ = some (.int .i64 pe)) (last := 100) (by kernel_rfl) ?_
 refine t_n 0 12 (.agg #[.slice aS st.length cS, .slice aL lm.length cL, .slice (some ⟨bP, oP, none⟩) pr.length cP, .slice aV vr.length cV]) rfl (by kernel_rfl) rfl (fun _ _ _ h => h) (fun V hV => ?_) hS0 ?_
 ·obtain ⟨z0, z1, z2, z3, z4, z5, z6, z7⟩ := hV
  simp [go_sem, execOp, z0, z1, z2, z3]
 try simp only [s_a, s_b, s_c]
 refine t_n 1 13 (.pointer (some ⟨w.heap.size, 2, none⟩)) rfl (by kernel_rfl) rfl (fun _ _ _ h => h) (fun V hV => ?_) hS0 ?_
 ·simp [go_sem, execOp]
 try simp only [s_a, s_b, s_c]
 refine t_n 2 14 (.slice (some ⟨bP, oP, none⟩) pr.length cP) rfl (by kernel_rfl) rfl (fun _ _ _ h => h) (fun V hV => ?_) hS0 ?_
 ·obtain ⟨z0, z1, z2, z3, z4, z5, z6, z7⟩ := hV
  simp [go_sem, execOp, z2]
 try simp only [s_a, s_b, s_c]
 refine t_n 3 15 (.int .i64 (i : Int)) rfl (by kernel_rfl) rfl (fun _ _ _ h => h) (fun V hV => ?_) hS0 ?_
 ·simp [go_sem, execOp]
 try simp only [s_a, s_b, s_c]
 refine t_n 4 16 (.pointer (some ⟨bP, oP + i * 4, none⟩)) rfl (by kernel_rfl) rfl (fun _ _ _ h => h) (fun V hV => ?_) hS0 ?_
 ·simp [go_sem, execOp, hi]
 try simp only [s_a, s_b, s_c]
 refine t_n 5 17 (.agg #[.string pn, .int .i64 ps, .int .i64 pw, .int .i64 pe]) rfl (by kernel_rfl) rfl (fun _ _ _ h => h) (fun V hV => ?_) hS0 ?_
 ·obtain ⟨z0, z1, z2, z3, z4, z5, z6, z7⟩ := hV
  simp [go_sem, execOp, z4, z5, z6, z7]
 try simp only [s_a, s_b, s_c]
 refine t_n 8 20 (.int .i64 0) rfl (by kernel_rfl) rfl (fun _ _ _ h => h) (fun V hV => ?_) hS0 ?_
 ·simp [go_sem, execOp]
 try simp only [s_a, s_b, s_c]
 refine wpAnyF_step 6 rfl (by kernel_rfl) (fun K hK => ?_)
 go_simp
 go_at_call 158
 refine (HSTR.out _ (H.out.below B2.out.drew)).mono ?_
 rintro e w3 ⟨v, rfl, hown, hb3⟩
 obtain ⟨o, sc, rfl, hrec, hsc, _, hbase⟩ := recsAt_of_owns (f := Str.cells) (fun _ => rfl) hown
 have hS1 : w3.cell? ⟨w.heap.size, 0, none⟩ = some (.slice aS st.length cS) ∧ w3.cell? ⟨w.heap.size, 1, none⟩ = some (.slice aL lm.length cL) ∧ w3.cell? ⟨w.heap.size, 2, none⟩ = some (.slice (some ⟨bP, oP, none⟩) pr.length cP) ∧ w3.cell? ⟨w.heap.size, 3, none⟩ = some (.slice aV vr.length cV) ∧ w3.cell? ⟨bP, oP + i * 4, none⟩ = some (.string pn) ∧ w3.cell? ⟨bP, oP + i * 4 + 1, none⟩ = some (.int .i64 ps) ∧ w3.cell? ⟨bP, oP + i * 4 + 2, none⟩ = some (.int .i64 pw) ∧ w3.cell? ⟨bP, oP + i * 4 + 3, none⟩ = some (.int .i64 pe) := ⟨(hb3.cell (p := ⟨w.heap.size, 0, none⟩) l2).trans hS0.1, (hb3.cell (p := ⟨w.heap.size, 1, none⟩) l2).trans hS0.2.1, (hb3.cell (p := ⟨w.heap.size, 2, none⟩) l2).trans hS0.2.2.1, (hb3.cell (p := ⟨w.heap.size, 3, none⟩) l2).trans hS0.2.2.2.1, (hb3.cell (p := ⟨bP, oP + i * 4, none⟩) (Nat.lt_of_lt_of_le hbP B2.out.size)).trans hS0.2.2.2.2.1, (hb3.cell (p := ⟨bP, oP + i * 4 + 1, none⟩) (Nat.lt_of_lt_of_le hbP B2.out.size)).trans hS0.2.2.2.2.2.1, (hb3.cell (p := ⟨bP, oP + i * 4 + 2, none⟩) (Nat.lt_of_lt_of_le hbP B2.out.size)).trans hS0.2.2.2.2.2.2.1, (hb3.cell (p := ⟨bP, oP + i * 4 + 3, none⟩) (Nat.lt_of_lt_of_le hbP B2.out.size)).trans hS0.2.2.2.2.2.2.2⟩
 have B3 := hidE (B2.out.drew.trans (hb3.mono B2.out.drew.size))
 have G3 := hidE (blk_below hb3 lg (show w2.drew.heap[g]? = _ from G2.out))
 have REC := hidE hrec
 have OB := hidE (fun q (e : o = some q) => show q.block ≠ g by have := hbase q e; simp at this; omega)
 have lg3 := lt_of_block G3.out
 clear hb3 hown hrec hbase
 go_wp2_with fail
 refine hK.out _ _ (.inr hS1) ?_
 clear hK K
 try simp only [Act.put, s_a, s_b, s_c]
 refine wpAnyF_step 7 rfl (by kernel_rfl) (fun K hK => ?_)
 go_simp
 refine hK.out _ _ (.inr hS1) ?_
 clear hK K
 refine wpAnyF_done (by kernel_rfl) ?_ _
 try simp only [Act.put, s_a, s_b, s_c]
 clear hS0 hS1 e0 e1 e2 e3 HSTR HPT HX0 C H
 have hSSL : SS.length ≤ 12 := by rw [HSL.out]; omega
 go_wp2_with fail
 go_loopw [20] (fun i wr => ∃ k : Nat, k ≤ SS.length ∧ i = .int .i64 k ∧ Hid (wr.heap[g]? = some (.cells (rowA (WT k)) 3 (0,0))) ∧ Hid (KeepsBut g w3 wr) ∧ Below w.heap.size w wr)
  (fun i _ => SS.length - (intOf i).toNat)
 case atStart => exact ⟨0, by omega, rfl, hidE (by rw [HW0.out]; exact G3.out), hidE (KeepsBut.refl _ _), B3.out⟩
 case round =>
  obtain ⟨k, hk, rfl, HG, HK, hb⟩ := hrel
  by_cases hlt : k < SS.length
  ·have hk2 : m + k + 1 < st.length := by have := HSL.out; omega
   obtain ⟨bo, oo, rfl, hbo, hco⟩ := RecsAt.at (REC.out.keeps HK.out OB.out) hlt
   have hbg := OB.out _ rfl
   dsimp only at hbg
   rw [HSG2.out k hlt] at hco
   obtain ⟨⟨p1, p2⟩, ⟨p3, p4⟩, ⟨p5, p6⟩, p7, p8⟩ := HPTS2.out (m + k) hk2
   obtain ⟨r1, r2⟩ := HRUN2.out (m + k) hk2
   obtain ⟨⟨x1, x2⟩, x3, x4⟩ := HXX2.out (m + k) hk2
   have HSU := hidE (HSUC2.out k)
   have HB0 := hidE (fun j => HBD.out k (by omega) j)
   have HLk := hidE (HLEN.out k)
   obtain ⟨S, hSe⟩ : ∃ S, SP (m + k) = S := ⟨_, rfl⟩
   rw [hSe] at hco p1 p2 p3 p4 p5 p6 p7 p8 r1 r2 x1 x2 x3 x4 HSU
   obtain ⟨xw, xe, so, no, fs, fn⟩ := S
   unfold Str.run at r1 r2
   dsimp only at p1 p2 p3 p4 p5 p6 p7 p8 r1 r2 x1 x2 x3 x4
   obtain ⟨so, rfl⟩ := Int.eq_ofNat_of_zero_le p1
   obtain ⟨no, rfl⟩ := Int.eq_ofNat_of_zero_le p3
   obtain ⟨fs, rfl⟩ := Int.eq_ofNat_of_zero_le p5
   obtain ⟨fn, rfl⟩ := Int.eq_ofNat_of_zero_le p7
   have c0 := hco 0 (by omega)
   have c1 := hco 1 (by omega)
   have c2 := hco 2 (by omega)
   have c3 := hco 3 (by omega)
   have c4 := hco 4 (by omega)
   have c5 := hco 5 (by omega)
   simp only [Str.cells, List.getElem?_cons_zero, List.getElem?_cons_succ, Nat.add_zero] at c0 c1 c2 c3 c4 c5
   obtain ⟨r, hr⟩ : ∃ r, xe - xw = r := ⟨_, rfl⟩
   have HRW := hidE (show IntKind.i64.wrap (xe - xw) = r by rw [IntWalk.i64_in _ (by omega)]; exact hr)
   rw [hr] at r1 r2
   have HST : Hid (WT (k + 1) = addAt (addAt (addAt (addAt (WT k) so (-r)) fs (-r)) no r) fn r) := hidE (by rw [HSU.out]; unfold wStep Str.run; dsimp only; rw [hr]; rfl)
   obtain ⟨L0, hL0⟩ : ∃ L, WT k = L := ⟨_, rfl⟩
   rw [hL0] at HST HG HB0 HLk
   have hgsz := lt_of_block HG.out
   have BB := hidE hb
   clear hL0 hSe hco hb hr HSU p1 p3 p5 p7
   go_upto_region 5 with fail
   obtain ⟨W, hW⟩ : ∃ W, W = wr.alloc (.cells #[.int .i64 xw, .int .i64 xe, .int .i64 (so : Int), .int .i64 (no : Int), .int .i64 (fs : Int), .int .i64 (fn : Int)] 179) := ⟨_, rfl⟩
   rw [← hW]
   have Y := hidE (show W.heap[wr.heap.size]? = some (.cells #[.int .i64 xw, .int .i64 xe, .int .i64 (so : Int), .int .i64 (no : Int), .int .i64 (fs : Int), .int .i64 (fn : Int)] 179 (0,0)) by rw [hW]; exact heap_alloc_new _ _)
   have Gw := hidE (show W.heap[g]? = some (.cells (rowA L0) 3 (0,0)) by rw [hW]; exact (Below.heap_alloc _ _ _ hgsz).trans HG.out)
   have Kw := hidE (show KeepsBut g w3 W by rw [hW]; exact HK.out.trans (KeepsBut.below ((Below.refl _ _).alloc (Nat.le_refl _) _)))
   have Bw := hidE (show Below w.heap.size w W by rw [hW]; exact BB.out.alloc BB.out.size _)
   have y0 : W.cell? ⟨wr.heap.size, 0, none⟩ = some (.int .i64 xw) := c_e Y.out rfl
   have y1 : W.cell? ⟨wr.heap.size, 1, none⟩ = some (.int .i64 xe) := c_e Y.out rfl
   have hww := HRW.out
   clear hW c0 c1 c2 c3 c4 c5 HG HK BB
   have hgne : wr.heap.size ≠ g := by omega
   have HGNE := hidE hgne
   clear hgne
   go_upto_region 6 with fail
   clear hww y0 y1
   have HAD0 : Hid (∃ L, addAt L0 so (-r) = L) := hidE ⟨_, rfl⟩
   obtain ⟨L1, hL1⟩ := HAD0.out
   rw [hL1] at HST
   obtain ⟨u, hu⟩ : ∃ u, L0.getD so 0 = u := ⟨_, rfl⟩
   have hub := HB0.out so
   rw [hu] at hub
   have hset : L0.set so (u - r) = L1 := by rw [← hL1]; unfold addAt; rw [hu]; rfl
   have HB1 : Hid (∀ j : Nat, -500000 ≤ L1.getD j 0 ∧ L1.getD j 0 ≤ 500000) := hidE (fun j => by
    have h5 := addAt_bd (c := 400000) (r := 100000) (d := -r) HB0.out (by omega) (by omega) so j
    rw [hL1] at h5; omega)
   have HLk1 : Hid (L1.length = N) := hidE (by rw [← hL1, addAt_len]; exact HLk.out)
   have cg : W.cell? ⟨g, so, none⟩ = some (.int .i64 u) := by rw [cell_of_row _ _ _ _ _ _ Gw.out, rowA_get (by rw [HLk.out]; omega), hu]
   have fg : W.frozen? ⟨g, so, none⟩ = false := frozen_of_row _ _ _ _ _ Gw.out
   have y2 : W.cell? ⟨wr.heap.size, 2, none⟩ = some (.int .i64 (so : Int)) := c_e Y.out rfl
   have hwv := hidE (show IntKind.i64.wrap (u - r) = u - r from IntWalk.i64_in _ (by omega))
   have HSET := hidE hset
   have hfl : (so : Int) < N := by omega
   clear hu hL1 hset
   have hww := hwv.out
   go_upto_region 7 with fail
   clear hww
   obtain ⟨W1, hW1⟩ : ∃ V, V = W.setCell ⟨g, so, none⟩ (.int .i64 (u - r)) := ⟨_, rfl⟩
   rw [← hW1]
   have Y1 := hidE (show W1.heap[wr.heap.size]? = some (.cells #[.int .i64 xw, .int .i64 xe, .int .i64 (so : Int), .int .i64 (no : Int), .int .i64 (fs : Int), .int .i64 (fn : Int)] 179 (0,0)) by rw [hW1]; exact (heap_setCell_other _ _ _ _ HGNE.out).trans Y.out)
   have Gw1 := hidE (show W1.heap[g]? = some (.cells (rowA L1) 3 (0,0)) by rw [hW1]; exact (heap_setCell_same _ _ _ _ _ _ Gw.out).trans (by rw [rowA_set, HSET.out]))
   have Kw1 := hidE (show KeepsBut g w3 W1 by rw [hW1]; exact Kw.out.trans (KeepsBut.set _ _ _))
   have Bw1 := hidE (show Below w.heap.size w W1 by rw [hW1]; exact Bw.out.setCell (by exact HGB.out) _)
   clear hW1 cg fg y2 HSET hwv hub
   have HAD1 : Hid (∃ L, addAt L1 fs (-r) = L) := hidE ⟨_, rfl⟩
   obtain ⟨L2, hL2⟩ := HAD1.out
   rw [hL2] at HST
   obtain ⟨u, hu⟩ : ∃ u, L1.getD fs 0 = u := ⟨_, rfl⟩
   have hub := HB1.out fs
   rw [hu] at hub
   have hset : L1.set fs (u - r) = L2 := by rw [← hL2]; unfold addAt; rw [hu]; rfl
   have HB2 : Hid (∀ j : Nat, -600000 ≤ L2.getD j 0 ∧ L2.getD j 0 ≤ 600000) := hidE (fun j => by
    have h5 := addAt_bd (c := 500000) (r := 100000) (d := -r) HB1.out (by omega) (by omega) fs j
    rw [hL2] at h5; omega)
   have HLk2 : Hid (L2.length = N) := hidE (by rw [← hL2, addAt_len]; exact HLk1.out)
   have cg : W1.cell? ⟨g, fs, none⟩ = some (.int .i64 u) := by rw [cell_of_row _ _ _ _ _ _ Gw1.out, rowA_get (by rw [HLk1.out]; omega), hu]
   have fg : W1.frozen? ⟨g, fs, none⟩ = false := frozen_of_row _ _ _ _ _ Gw1.out
   have y2 : W1.cell? ⟨wr.heap.size, 4, none⟩ = some (.int .i64 (fs : Int)) := c_e Y1.out rfl
   have hwv := hidE (show IntKind.i64.wrap (u - r) = u - r from IntWalk.i64_in _ (by omega))
   have HSET := hidE hset
   have hfl : (fs : Int) < N := by omega
   clear hu hL2 hset
   have hww := hwv.out
   go_upto_region 8 with fail
   clear hww
   obtain ⟨W2, hW2⟩ : ∃ V, V = W1.setCell ⟨g, fs, none⟩ (.int .i64 (u - r)) := ⟨_, rfl⟩
   rw [← hW2]
   have Y2 := hidE (show W2.heap[wr.heap.size]? = some (.cells #[.int .i64 xw, .int .i64 xe, .int .i64 (so : Int), .int .i64 (no : Int), .int .i64 (fs : Int), .int .i64 (fn : Int)] 179 (0,0)) by rw [hW2]; exact (heap_setCell_other _ _ _ _ HGNE.out).trans Y1.out)
   have Gw2 := hidE (show W2.heap[g]? = some (.cells (rowA L2) 3 (0,0)) by rw [hW2]; exact (heap_setCell_same _ _ _ _ _ _ Gw1.out).trans (by rw [rowA_set, HSET.out]))
   have Kw2 := hidE (show KeepsBut g w3 W2 by rw [hW2]; exact Kw1.out.trans (KeepsBut.set _ _ _))
   have Bw2 := hidE (show Below w.heap.size w W2 by rw [hW2]; exact Bw1.out.setCell (by exact HGB.out) _)
   clear hW2 cg fg y2 HSET hwv hub
   have HAD2 : Hid (∃ L, addAt L2 no (r) = L) := hidE ⟨_, rfl⟩
   obtain ⟨L3, hL3⟩ := HAD2.out
   rw [hL3] at HST
   obtain ⟨u, hu⟩ : ∃ u, L2.getD no 0 = u := ⟨_, rfl⟩
   have hub := HB2.out no
   rw [hu] at hub
   have hset : L2.set no (u + r) = L3 := by rw [← hL3]; unfold addAt; rw [hu]
   have HB3 : Hid (∀ j : Nat, -700000 ≤ L3.getD j 0 ∧ L3.getD j 0 ≤ 700000) := hidE (fun j => by
    have h5 := addAt_bd (c := 600000) (r := 100000) (d := r) HB2.out (by omega) (by omega) no j
    rw [hL3] at h5; omega)
   have HLk3 : Hid (L3.length = N) := hidE (by rw [← hL3, addAt_len]; exact HLk2.out)
   have cg : W2.cell? ⟨g, no, none⟩ = some (.int .i64 u) := by rw [cell_of_row _ _ _ _ _ _ Gw2.out, rowA_get (by rw [HLk2.out]; omega), hu]
   have fg : W2.frozen? ⟨g, no, none⟩ = false := frozen_of_row _ _ _ _ _ Gw2.out
   have y2 : W2.cell? ⟨wr.heap.size, 3, none⟩ = some (.int .i64 (no : Int)) := c_e Y2.out rfl
   have hwv := hidE (show IntKind.i64.wrap (u + r) = u + r from IntWalk.i64_in _ (by omega))
   have HSET := hidE hset
   have hfl : (no : Int) < N := by omega
   clear hu hL3 hset
   have hww := hwv.out
   go_upto_region 9 with fail
   clear hww
   obtain ⟨W3, hW3⟩ : ∃ V, V = W2.setCell ⟨g, no, none⟩ (.int .i64 (u + r)) := ⟨_, rfl⟩
   rw [← hW3]
   have Y3 := hidE (show W3.heap[wr.heap.size]? = some (.cells #[.int .i64 xw, .int .i64 xe, .int .i64 (so : Int), .int .i64 (no : Int), .int .i64 (fs : Int), .int .i64 (fn : Int)] 179 (0,0)) by rw [hW3]; exact (heap_setCell_other _ _ _ _ HGNE.out).trans Y2.out)
   have Gw3 := hidE (show W3.heap[g]? = some (.cells (rowA L3) 3 (0,0)) by rw [hW3]; exact (heap_setCell_same _ _ _ _ _ _ Gw2.out).trans (by rw [rowA_set, HSET.out]))
   have Kw3 := hidE (show KeepsBut g w3 W3 by rw [hW3]; exact Kw2.out.trans (KeepsBut.set _ _ _))
   have Bw3 := hidE (show Below w.heap.size w W3 by rw [hW3]; exact Bw2.out.setCell (by exact HGB.out) _)
   clear hW3 cg fg y2 HSET hwv hub
   have HAD3 : Hid (∃ L, addAt L3 fn (r) = L) := hidE ⟨_, rfl⟩
   obtain ⟨L4, hL4⟩ := HAD3.out
   rw [hL4] at HST
   obtain ⟨u, hu⟩ : ∃ u, L3.getD fn 0 = u := ⟨_, rfl⟩
   have hub := HB3.out fn
   rw [hu] at hub
   have hset : L3.set fn (u + r) = L4 := by rw [← hL4]; unfold addAt; rw [hu]
   have HB4 : Hid (∀ j : Nat, -800000 ≤ L4.getD j 0 ∧ L4.getD j 0 ≤ 800000) := hidE (fun j => by
    have h5 := addAt_bd (c := 700000) (r := 100000) (d := r) HB3.out (by omega) (by omega) fn j
    rw [hL4] at h5; omega)
   have HLk4 : Hid (L4.length = N) := hidE (by rw [← hL4, addAt_len]; exact HLk3.out)
   have cg : W3.cell? ⟨g, fn, none⟩ = some (.int .i64 u) := by rw [cell_of_row _ _ _ _ _ _ Gw3.out, rowA_get (by rw [HLk3.out]; omega), hu]
   have fg : W3.frozen? ⟨g, fn, none⟩ = false := frozen_of_row _ _ _ _ _ Gw3.out
   have y2 : W3.cell? ⟨wr.heap.size, 5, none⟩ = some (.int .i64 (fn : Int)) := c_e Y3.out rfl
   have hwv := hidE (show IntKind.i64.wrap (u + r) = u + r from IntWalk.i64_in _ (by omega))
   have HSET := hidE hset
   have hfl : (fn : Int) < N := by omega
   clear hu hL4 hset
   have hww := hwv.out
   go_wp2_with fail
   clear hww
   go_roundw
   case rel => exact ⟨k + 1, by omega, by go_num, hidE (by rw [HST.out]; exact (heap_setCell_same _ _ _ _ _ _ Gw3.out).trans (by rw [rowA_set, HSET.out])), hidE (Kw3.out.trans (KeepsBut.set _ _ _)), Bw3.out.setCell (by exact HGB.out) _⟩
   case measure => simp [intOf]; omega
  ·have hkk : k = SS.length := by omega
   subst hkk
   have HF := hidE (show wr.heap[g]? = some (.cells (rowA WO) 3 (0,0)) by rw [HG.out, HEND.out, HSL.out])
   go_wp2_with fail
   go_ret
   exact ⟨_, rfl, HF.out, HGB.out, hb⟩
def rowF (f : Nat → Int) (n : Nat) : Array Value := rowA ((List.range n).map f)
theorem rowF_get (f : Nat → Int) {n i : Nat} (h : i < n) : (rowF f n)[i]? = some (.int .i64 (f i)) := by
 unfold rowF
 rw [rowA_get (by simpa using h)]
 simp [h]
theorem rowF_set (f : Nat → Int) (n i : Nat) (v : Int) : (rowF f n).setIfInBounds i (.int .i64 v) = rowF (fun x => if x = i then v else f x) n := by
 unfold rowF
 rw [rowA_set]
 congr 1
 apply List.ext_getElem?
 intro j
 rw [List.getElem?_set]
 by_cases e : i = j
 ·subst e
  by_cases h : i < n
  ·simp [h]
  ·simp [h]
 ·by_cases h : j < n
  ·simp [e, Ne.symm e, h]
  ·simp [e, h]
theorem swap_one (f : Nat → Int) (p q : Nat) (hpq : p ≠ q) : (fun x => if x = q then f p else if x = p then f q else f x) = swapF f p q 1 := by
 funext x
 simp only [swapF]
 by_cases h1 : x = q
 ·subst h1
  rw [if_pos rfl, if_neg (by omega), if_pos (by omega), Nat.sub_self, Nat.zero_add]
 ·rw [if_neg h1]
  by_cases h2 : x = p
  ·subst h2
   rw [if_pos rfl, if_pos (by omega), Nat.sub_self, Nat.zero_add]
  ·rw [if_neg h2, if_neg (by omega), if_neg (by omega)]
structure OnlyG (g : Nat) (W W' : World) : Prop where
 size : W'.heap.size = W.heap.size
 same : ∀ q, q ≠ g → W'.heap[q]? = W.heap[q]?
 bl : Below g W W'
theorem OnlyG.refl (g : Nat) (W : World) : OnlyG g W W := ⟨rfl, fun _ _ => rfl, Below.refl _ _⟩
theorem OnlyG.trans {g : Nat} {A B C : World} (h : OnlyG g A B) (k : OnlyG g B C) : OnlyG g A C := ⟨k.size.trans h.size, fun q hq => (k.same q hq).trans (h.same q hq), h.bl.trans k.bl⟩
theorem OnlyG.set {g : Nat} (W : World) (o : Nat) (v : Value) : OnlyG g W (W.setCell ⟨g, o, none⟩ v) := ⟨by simp, fun _ hn => heap_setCell_other _ _ _ _ hn, (Below.refl _ _).setCell (by simp) _⟩
theorem OnlyG.drew {g : Nat} (W : World) : OnlyG g W W.drew := ⟨rfl, fun _ _ => rfl, (Below.refl _ _).drew⟩
theorem OnlyG.drewN {g : Nat} (W : World) (n : Nat) : OnlyG g W (W.drewN n) := ⟨rfl, fun _ _ => rfl, below_drewN' _ _⟩
theorem OnlyG.cell {g : Nat} {W W' : World} (h : OnlyG g W W') {p : Addr} (hn : p.block ≠ g) : W'.cell? p = W.cell? p := World.cell?_of_block (w := W) (h.same p.block hn)
set_option maxRecDepth 100000 in
set_option maxHeartbeats 4000000 in
theorem swapRange_any (w : World) (g n a b m : Nat) (f : Nat → Int) (fv : Value) (hn : n ≤ 1000000) (ha : a + m ≤ b) (hb : b + m ≤ n) (hg : w.heap[g]? = some (.cells (rowF f n) 3 (0,0))) :
 Calls Tryz.prog 243 #[.slice (some ⟨g, 0, none⟩) n n, .int .i64 (a : Int), .int .i64 (b : Int), .int .i64 (m : Int), fv] w fun e w' => e = .returned (.tuple #[]) ∧ w'.heap[g]? = some (.cells (rowF (swapF f a b m) n) 3 (0,0)) ∧ OnlyG g w w' := by
 have HG := hidE hg
 clear hg
 go_enter Tryz.func243, Tryz.ntmps243
 go_wp2_with fail
 go_loopw [10] (fun i wr => ∃ k : Nat, k ≤ m ∧ i = .int .i64 k ∧ Hid (wr.heap[g]? = some (.cells (rowF (swapF f a b k) n) 3 (0,0))) ∧ Hid (OnlyG g w wr)) (fun i _ => m - (intOf i).toNat)
 case atStart => exact ⟨0, Nat.zero_le _, rfl, hidE (by rw [swapF_zero]; exact HG.out), hidE (OnlyG.refl _ _)⟩
 case round =>
  obtain ⟨k, hk, rfl, HR, HO⟩ := hrel
  by_cases hlt : k < m
  ·obtain ⟨F, hF⟩ : ∃ F, swapF f a b k = F := ⟨_, rfl⟩
   have HSUC := hidE (swapF_succ f a b k (by omega))
   rw [hF] at HSUC HR
   clear hF
   obtain ⟨p, hp⟩ : ∃ p, p = a + k := ⟨_, rfl⟩
   obtain ⟨q, hq⟩ : ∃ q, q = b + k := ⟨_, rfl⟩
   have hwp : IntKind.i64.wrap ((a : Int) + (k : Int)) = (p : Int) := by rw [IntWalk.i64_in _ (by omega)]; omega
   have hwq : IntKind.i64.wrap ((b : Int) + (k : Int)) = (q : Int) := by rw [IntWalk.i64_in _ (by omega)]; omega
   have hpn : p < n := by omega
   have hqn : q < n := by omega
   have hpq : p ≠ q := by omega
   rw [← hp, ← hq] at HSUC
   have HPQ := hidE hpq
   have e1 : wr.cell? ⟨g, p, none⟩ = some (.int .i64 (F p)) := by rw [cell_of_row _ _ _ _ _ _ HR.out, rowF_get _ hpn]
   have e2 : wr.cell? ⟨g, q, none⟩ = some (.int .i64 (F q)) := by rw [cell_of_row _ _ _ _ _ _ HR.out, rowF_get _ hqn]
   have f1 : wr.frozen? ⟨g, p, none⟩ = false := frozen_of_row _ _ _ _ _ HR.out
   have hS0 : wr.drew.cell? ⟨g, p, none⟩ = some (.int .i64 (F p)) ∧ wr.drew.cell? ⟨g, q, none⟩ = some (.int .i64 (F q)) := ⟨e1, e2⟩
   clear hp hq hpq
   go_upto_region 3 with fail
   refine wp_region_G (S := fun V => V.cell? ⟨g, p, none⟩ = some (.int .i64 (F p)) ∧ V.cell? ⟨g, q, none⟩ = some (.int .i64 (F q))) (T := fun t => decide (20 ≤ t)) (by kernel_rfl) ?_
   refine t_g 0 16 (.slice (some ⟨g, 0, none⟩) n n) rfl (by kernel_rfl) rfl (fun _ _ _ h => h) (fun V hV => ?_) (.inr hS0) ?_
   ·simp [go_sem, execOp]
   try simp only [s_a, s_b, s_c]
   refine t_g 1 17 (.int .i64 (a : Int)) rfl (by kernel_rfl) rfl (fun _ _ _ h => h) (fun V hV => ?_) (.inr hS0) ?_
   ·simp [go_sem, execOp]
   try simp only [s_a, s_b, s_c]
   refine t_g 2 18 (.int .i64 (k : Int)) rfl (by kernel_rfl) rfl (fun _ _ _ h => h) (fun V hV => ?_) (.inr hS0) ?_
   ·simp [go_sem, execOp]
   try simp only [s_a, s_b, s_c]
   refine t_g 3 19 (.int .i64 (p : Int)) rfl (by kernel_rfl) rfl (fun _ _ _ h => h) (fun V hV => ?_) (.inr hS0) ?_
   ·simp [go_sem, execOp, hwp]
   try simp only [s_a, s_b, s_c]
   refine t_g 4 20 (.slice (some ⟨g, 0, none⟩) n n) rfl (by kernel_rfl) rfl (fun _ _ _ h => h) (fun V hV => ?_) (.inr hS0) ?_
   ·simp [go_sem, execOp]
   try simp only [s_a, s_b, s_c]
   refine t_g 5 21 (.int .i64 (b : Int)) rfl (by kernel_rfl) rfl (fun _ _ _ h => h) (fun V hV => ?_) (.inr hS0) ?_
   ·simp [go_sem, execOp]
   try simp only [s_a, s_b, s_c]
   refine t_g 6 22 (.int .i64 (k : Int)) rfl (by kernel_rfl) rfl (fun _ _ _ h => h) (fun V hV => ?_) (.inr hS0) ?_
   ·simp [go_sem, execOp]
   try simp only [s_a, s_b, s_c]
   refine t_g 7 23 (.int .i64 (q : Int)) rfl (by kernel_rfl) rfl (fun _ _ _ h => h) (fun V hV => ?_) (.inr hS0) ?_
   ·simp [go_sem, execOp, hwq]
   try simp only [s_a, s_b, s_c]
   refine t_g 8 24 (.slice (some ⟨g, 0, none⟩) n n) rfl (by kernel_rfl) rfl (fun _ _ _ h => h) (fun V hV => ?_) (.inr hS0) ?_
   ·simp [go_sem, execOp]
   try simp only [s_a, s_b, s_c]
   refine t_g 9 25 (.int .i64 (b : Int)) rfl (by kernel_rfl) rfl (fun _ _ _ h => h) (fun V hV => ?_) (.inr hS0) ?_
   ·simp [go_sem, execOp]
   try simp only [s_a, s_b, s_c]
   refine t_g 10 26 (.int .i64 (k : Int)) rfl (by kernel_rfl) rfl (fun _ _ _ h => h) (fun V hV => ?_) (.inr hS0) ?_
   ·simp [go_sem, execOp]
   try simp only [s_a, s_b, s_c]
   refine t_g 11 27 (.int .i64 (q : Int)) rfl (by kernel_rfl) rfl (fun _ _ _ h => h) (fun V hV => ?_) (.inr hS0) ?_
   ·simp [go_sem, execOp, hwq]
   try simp only [s_a, s_b, s_c]
   refine t_g 12 28 (.pointer (some ⟨g, q, none⟩)) rfl (by kernel_rfl) rfl (fun _ _ _ h => h) (fun V hV => ?_) (.inr hS0) ?_
   ·simp [go_sem, execOp, hqn]
   try simp only [s_a, s_b, s_c]
   refine wpAnyG_load (i := 13) (d := 29) (v := .int .i64 (F q)) rfl rfl rfl (by kernel_rfl) (by kernel_rfl) (by kernel_rfl) (by kernel_rfl) (by kernel_rfl) (fun _ _ _ h => h) (.inl ⟨rfl, fun V hV => ?_⟩) hS0 ?_
   ·obtain ⟨z0, z1⟩ := hV
    simp [go_sem, execOp, z1]
   try simp only [s_a, s_b, s_c]
   refine t_g 14 30 (.slice (some ⟨g, 0, none⟩) n n) rfl (by kernel_rfl) rfl (fun _ _ _ h => h) (fun V hV => ?_) (.inr hS0) ?_
   ·simp [go_sem, execOp]
   try simp only [s_a, s_b, s_c]
   refine t_g 15 31 (.int .i64 (a : Int)) rfl (by kernel_rfl) rfl (fun _ _ _ h => h) (fun V hV => ?_) (.inr hS0) ?_
   ·simp [go_sem, execOp]
   try simp only [s_a, s_b, s_c]
   refine t_g 16 32 (.int .i64 (k : Int)) rfl (by kernel_rfl) rfl (fun _ _ _ h => h) (fun V hV => ?_) (.inr hS0) ?_
   ·simp [go_sem, execOp]
   try simp only [s_a, s_b, s_c]
   refine t_g 17 33 (.int .i64 (p : Int)) rfl (by kernel_rfl) rfl (fun _ _ _ h => h) (fun V hV => ?_) (.inr hS0) ?_
   ·simp [go_sem, execOp, hwp]
   try simp only [s_a, s_b, s_c]
   refine t_g 18 34 (.pointer (some ⟨g, p, none⟩)) rfl (by kernel_rfl) rfl (fun _ _ _ h => h) (fun V hV => ?_) (.inr hS0) ?_
   ·simp [go_sem, execOp, hpn]
   try simp only [s_a, s_b, s_c]
   refine wpAnyG_load (i := 19) (d := 35) (v := .int .i64 (F p)) rfl rfl rfl (by kernel_rfl) (by kernel_rfl) (by kernel_rfl) (by kernel_rfl) (by kernel_rfl) (fun _ _ _ h => h) (.inl ⟨rfl, fun V hV => ?_⟩) hS0 ?_
   ·obtain ⟨z0, z1⟩ := hV
    simp [go_sem, execOp, z0]
   try simp only [s_a, s_b, s_c]
   refine wpAnyG_step 20 rfl (by kernel_rfl) (fun K hK => ?_)
   go_simp
   refine hK.out _ _ (.inl ⟨20, rfl, by kernel_rfl⟩) ?_
   clear hK K
   try simp only [Act.put, s_a, s_b, s_c]
   refine wpAnyG_step 21 rfl (by kernel_rfl) (fun K hK => ?_)
   go_simp
   refine hK.out _ _ (.inl ⟨21, rfl, by kernel_rfl⟩) ?_
   clear hK K
   try simp only [Act.put, s_a, s_b, s_c]
   have R1 : ((wr.setCell ⟨g, p, none⟩ (.int .i64 (F q))).drew).heap[g]? = some (.cells (rowF (fun x => if x = p then F q else F x) n) 3 (0,0)) := by
    refine (heap_setCell_same _ _ _ _ _ _ HR.out).trans ?_
    rw [rowF_set]
   have e3 : ((wr.setCell ⟨g, p, none⟩ (.int .i64 (F q))).drew).cell? ⟨g, q, none⟩ = some (.int .i64 (F q)) := by
    rw [cell_of_row _ _ _ _ _ _ R1, rowF_get _ hqn]
    have h2 : ¬ q = p := fun e => HPQ.out e.symm
    simp [h2]
   have f3 : ((wr.setCell ⟨g, p, none⟩ (.int .i64 (F q))).drew).frozen? ⟨g, q, none⟩ = false := frozen_of_row _ _ _ _ _ R1
   refine wpAnyG_step 22 rfl (by kernel_rfl) (fun K hK => ?_)
   go_simp
   refine hK.out _ _ (.inl ⟨22, rfl, by kernel_rfl⟩) ?_
   clear hK K
   try simp only [Act.put, s_a, s_b, s_c]
   refine wpAnyG_step 23 rfl (by kernel_rfl) (fun K hK => ?_)
   go_simp
   refine hK.out _ _ (.inl ⟨23, rfl, by kernel_rfl⟩) ?_
   clear hK K
   try simp only [Act.put, s_a, s_b, s_c]
   refine wpAnyG_done (by kernel_rfl) ?_ _
   have HN := hidE (show (((wr.setCell ⟨g, p, none⟩ (.int .i64 (F q))).setCell ⟨g, q, none⟩ (.int .i64 (F p))).drew).heap[g]? = some (.cells (rowF (swapF f a b (k + 1)) n) 3 (0,0)) from (heap_setCell_same _ _ _ _ _ _ (show (wr.setCell ⟨g, p, none⟩ (.int .i64 (F q))).heap[g]? = _ from R1)).trans (by rw [rowF_set, HSUC.out, ← swap_one F p q HPQ.out]))
   have HO2 := hidE (show OnlyG g w (((wr.setCell ⟨g, p, none⟩ (.int .i64 (F q))).setCell ⟨g, q, none⟩ (.int .i64 (F p))).drew) from (((HO.out.trans (OnlyG.set _ _ _)).trans (OnlyG.set _ _ _)).trans (OnlyG.drew _)))
   clear R1 e3 f3 hS0 e1 e2 f1 hwp hwq
   go_wp2_with fail
   go_roundw
   case rel => exact ⟨k + 1, by omega, by go_num, HN, HO2⟩
   case measure => simp [intOf]; omega
  ·obtain rfl : k = m := by omega
   go_wp2_with fail
   go_end0
   exact ⟨rfl, HR.out, HO.out⟩
set_option maxHeartbeats 1000000 in
theorem refvalues_any (w : World) (N : Int) (sv : Value) (a : Option Addr) (cap : Nat) (y : List Int) (hN0 : 1 ≤ N) (hl : y.length ≤ 9223372036854775807) (h : IntsAt w a y) :
 Calls Tryz.prog 148 #[.agg #[.int .i64 N, sv], .slice a y.length cap] w fun e w' => e = .returned (.bool (valuesB N y)) ∧ Below w.heap.size w w' := by
 by_cases h1 : (y.length : Int) = N
 ·have h1b : ((y.length : Int) != N) = false := by simpa using h1
  have h1c : ((y.length : Int) == 0) = false := beq_eq_false_iff_ne.2 (by omega)
  have hlt : 0 < y.length := by omega
  obtain ⟨b, off, rfl, hbl, hc⟩ := h.at hlt
  have hg : y.getD 0 0 = y[0] := getD_get y 0 hlt
  obtain ⟨v, hv⟩ : ∃ v, y[0] = v := ⟨_, rfl⟩
  rw [hv] at hc hg
  rw [Nat.add_zero] at hc
  by_cases h2 : v = 0
  ·have h2b : (v != 0) = false := by simpa using h2
   have hval : valuesB N y = !(y.any fun v => !inR v (-400000000) 400000000) := by unfold valuesB; rw [hg, h1]; simp [h2]
   have HV := hidE hval
   have H := hidE h
   have HH1 := hidE h1
   clear hval hg hv h2 h h1
   go_enter Tryz.func148, Tryz.ntmps148
   go_wp2_with fail
   go_loopw [5] (fun i wr => ∃ k : Nat, k ≤ y.length ∧ i = .int .i64 k ∧ Hid ((y.take k).any (fun v => !inR v (-400000000) 400000000) = false) ∧ Below w.heap.size w wr) (fun i _ => y.length - (intOf i).toNat)
   case atStart => exact ⟨0, by omega, rfl, hidE rfl, by go_grown⟩
   case round =>
    obtain ⟨k, hk, rfl, HA, hb⟩ := hrel
    clear hc
    by_cases hlt2 : k < y.length
    ·obtain ⟨b', off', e', _, hck⟩ := (H.out.below hb (Nat.le_refl _)).at hlt2
     cases e'
     obtain ⟨x, hx⟩ : ∃ x, y[k] = x := ⟨_, rfl⟩
     rw [hx] at hck
     obtain ⟨r, hr⟩ : ∃ r, inR x (-400000000) 400000000 = r := ⟨_, rfl⟩
     have HX := hidE hx
     have HR := hidE hr
     clear hx hr
     cases r with
     | false =>
       have hq := any_of_at (p := fun v => !inR v (-400000000) 400000000) hlt2 (by rw [HX.out, HR.out]; rfl)
       have HQ := hidE hq
       clear hq
       go_wp2_with (go_at_call 180; refine (refwithin_at HR.out _).mono ?_; rintro e w' ⟨rfl, rfl⟩)
       go_ret
       exact ⟨by rw [HV.out, HQ.out]; rfl, hb⟩
     | true =>
       go_wp2_with (go_at_call 180; refine (refwithin_at HR.out _).mono ?_; rintro e w' ⟨rfl, rfl⟩)
       go_roundw
       case rel => exact ⟨k + 1, by omega, by go_num, hidE (take_any_succ hlt2 HA.out (by rw [HX.out, HR.out]; rfl)), hb⟩
       case measure => simp [intOf]; omega
    ·have hq := any_of_take (p := fun v => !inR v (-400000000) 400000000) (by omega) HA.out
     have HQ := hidE hq
     clear hq
     go_wp2_with fail
     go_ret
     exact ⟨by rw [HV.out, HQ.out]; rfl, hb⟩
  ·have h2b : (v != 0) = true := by simpa using h2
   have hval : valuesB N y = false := by unfold valuesB; rw [hg]; simp [h2]
   have HV := hidE hval
   clear hval hg hv h2 h h1
   go_enter Tryz.func148, Tryz.ntmps148
   go_wp2_with fail
   go_ret
   exact ⟨by rw [HV.out]; rfl, by go_grown⟩
 ·have h1b : ((y.length : Int) != N) = true := by simpa using h1
  have hval : valuesB N y = false := by unfold valuesB; simp [h1]
  have HV := hidE hval
  clear hval h1 h
  go_enter Tryz.func148, Tryz.ntmps148
  go_wp2_with fail
  go_ret
  exact ⟨by rw [HV.out]; rfl, by go_grown⟩
theorem check_ne {N : Int} {bs : List Bd} (h : checkP N bs = 0) : ∀ b ∈ bs, b.src ≠ b.dst := by
 intro b hb e
 have hbad : badB N b = true := by unfold badB; simp [e]
 unfold checkP checkedP at h
 split at h
 ·omega
 ·split at h
  ·omega
  ·rw [if_pos (List.any_eq_true.2 ⟨b, hb, hbad⟩)] at h; omega
theorem weighed_bd {N : Int} {x : List Int} (h : weighedB N x = true) : (x.length : Int) = N ∧ ∀ v ∈ x, -1000000 ≤ v ∧ v ≤ 1000000 := by
 unfold weighedB at h
 simp only [Bool.and_eq_true, decide_eq_true_eq, List.all_eq_true] at h
 refine ⟨h.1.1, fun v hv => ?_⟩
 have := h.2 v hv
 unfold inR at this
 simpa using this
theorem flowing_bd {m : Nat} {f : List Int} (h : flowingB m f = true) : f.length = m ∧ ∀ i, 0 ≤ f.getD i 0 ∧ f.getD i 0 ≤ 1000000000 := by
 unfold flowingB at h
 simp only [Bool.and_eq_true, decide_eq_true_eq, List.all_eq_true] at h
 refine ⟨h.1, fun i => ?_⟩
 by_cases hi : i < f.length
 ·have := h.2 (f.getD i 0) (by rw [getD_get f 0 hi]; exact List.getElem_mem hi)
  unfold inR at this
  simpa using this
 ·simp [show f.length ≤ i by omega]
theorem allOk_of {N : Int} {bs : List Bd} (h : checkP N bs = 0) : ∃ R : Nat, N = R ∧ 1 ≤ R ∧ R ≤ 128 ∧ bs.length ≤ 2000 ∧ ∀ b ∈ bs, b.valid R ∧ b.src ≠ b.dst := by
 obtain ⟨R, e, h1, h2, h3, h4⟩ := allValid_of h
 exact ⟨R, e, h1, h2, h3, fun b hb => ⟨h4 b hb, check_ne h b hb⟩⟩
def Fld.par (F : Fld) (i : Int) : Par := F.prs.getD i.toNat par0
theorem fielded_one {F : Fld} {i : Int} (h : fieldedE F [i] = 0) : F.check = 0 ∧ ∃ n : Nat, i = n ∧ ∃ hn : n < F.prs.length, F.par i = F.prs[n] := by
 unfold fieldedE at h
 by_cases hz : F.check = 0
 ·rw [if_neg (by omega)] at h
  refine ⟨hz, ?_⟩
  have : inR i 0 ((F.prs.length : Int) - 1) = true := by
   cases hq : inR i 0 ((F.prs.length : Int) - 1) with
   | true => rfl
   | false => rw [if_neg (by simp [hq])] at h; omega
  unfold inR at this
  simp at this
  obtain ⟨n, rfl⟩ := Int.eq_ofNat_of_zero_le this.1
  exact ⟨n, rfl, by omega, by unfold Fld.par; simp [show n < F.prs.length by omega]⟩
 ·rw [if_pos hz] at h; omega
def weightsE (F : Fld) (i : Int) : List Int × Int := if fieldedE F [i] ≠ 0 then ([], fieldedE F [i]) else (weightsOf F (F.par i), 0)
def area2E (F : Fld) (i : Int) (y : List Int) : Int × Int := if fieldedE F [i] ≠ 0 then (0, fieldedE F [i]) else if valuesB F.points y = false then (0, 1) else (formP (weightsOf F (F.par i)) y, 0)
theorem points_nat {F : Fld} (h : F.check = 0) : 3 ≤ F.points ∧ F.points ≤ 121 ∧ (F.points.toNat : Int) = F.points := by
 obtain ⟨⟨a, b⟩, ⟨c, d⟩, _⟩ := check0_len h
 unfold Fld.points
 have h1 := Int.mul_le_mul (a := (F.lms.length : Int)) (c := 10) (b := (F.sts.length : Int)) (d := 12) (by omega) (by omega) (by omega) (by omega)
 have h2 := Int.mul_le_mul (a := 1) (c := (F.lms.length : Int)) (b := 2) (d := (F.sts.length : Int)) (by omega) (by omega) (by omega) (by omega)
 omega
theorem ints_single (W : World) (i : Int) : IntsAt (W.alloc (.cells #[.int .i64 i] 3)) (some ⟨W.heap.size, 0, none⟩) [i] := .inr ⟨W.heap.size, 0, rfl, by simp, fun j hj => by
 have : j = 0 := by simp at hj; omega
 subst this
 rw [cell_of_row _ _ _ _ _ _ (heap_alloc_new W _)]; rfl⟩
theorem ints_of_row {W : World} {b : Nat} {l : List Int} (h : W.heap[b]? = some (.cells (rowA l) 3 (0,0))) : IntsAt W (some ⟨b, 0, none⟩) l := .inr ⟨b, 0, rfl, lt_of_block h, fun i hi => by
 rw [cell_of_row _ _ _ _ _ _ h, Nat.zero_add, rowA_get hi, getD_get l 0 hi]⟩
set_option maxRecDepth 100000 in
set_option maxHeartbeats 2000000 in
theorem weightsE_any (w : World) (x : FV) (F : Fld) (i : Int) (h : FldAt w x F) : Calls Tryz.prog 49 #[x.val F, .int .i64 i] w fun e w' => PathPost (weightsE F i).1 (weightsE F i).2 w.heap.size e w' ∧ Below w.heap.size w w' := by
 have B0 := hidE (show Below w.heap.size w (w.alloc (.cells (x.arr F) 46)) from (Below.refl _ _).alloc (Nat.le_refl _) _)
 have X0 := hidE (heap_alloc_new w (.cells (x.arr F) 46))
 have l0 : w.heap.size < (w.alloc (.cells (x.arr F) 46)).heap.size := by simp
 have HFI := hidE (fun (W : World) (A : Nat) (hA : A = W.heap.size) (hb : Below w.heap.size w W) => show Calls Tryz.prog 104 #[x.val F, .slice (some ⟨A, 0, none⟩) 1 1] (W.alloc (.cells #[.int .i64 i] 3)) _ by subst hA; exact fielded_any (W.alloc (.cells #[.int .i64 i] 3)) x F (some ⟨W.heap.size, 0, none⟩) 1 [i] (by simp) ((h.below hb).alloc _) (ints_single W i))
 obtain ⟨P1, hP1⟩ : ∃ z, (weightsE F i).1 = z := ⟨_, rfl⟩
 obtain ⟨P2, hP2⟩ : ∃ z, (weightsE F i).2 = z := ⟨_, rfl⟩
 rw [hP1, hP2]
 unfold weightsE at hP1 hP2
 by_cases hz : fieldedE F [i] = 0
 ·obtain ⟨hc, n, rfl, hn, hpar⟩ := fielded_one hz
  rw [if_neg (by omega)] at hP1 hP2
  rw [hz] at HFI
  have HWT := hidE (fun (W : World) (hb : Below w.heap.size w W) => weights_any W x F n hc hn (h.below hb))
  rw [hpar] at hP1
  rw [show weightsOf F F.prs[n] = P1 from hP1] at HWT
  have hln : F.points.toNat = P1.length := by rw [← hP1, weightsOf_len]
  rw [hln] at HWT
  have hsm := points_nat hc
  have HSM := hidE (show P1.length ≤ 1000 by omega)
  obtain rfl : (0 : Int) = P2 := hP2
  clear hz hpar hP1 hln h hsm hc hn
  unfold FV.val FV.arr at *
  go_enter Tryz.func49, Tryz.ntmps49
  go_wp2_with fail
  refine (HFI.out _ _ (by simp) B0.out).mono ?_
  rintro e w1 ⟨rfl, hb1⟩
  have a1 := B0.out.alloc B0.out.size (.cells #[.int .i64 (n : Int)] 3)
  have B1 := hidE (a1.trans (hb1.mono a1.size))
  have X1 := hidE (blk_below hb1 (Nat.lt_of_lt_of_le l0 (by simp)) ((Below.heap_alloc _ _ _ l0).trans X0.out))
  clear a1
  have l1 := lt_of_block X1.out
  have f0_1 : w1.cell? ⟨w.heap.size, 0, none⟩ = some (.slice x.aS F.sts.length x.cS) := c_e X1.out rfl
  have f1_1 : w1.cell? ⟨w.heap.size, 1, none⟩ = some (.slice x.aL F.lms.length x.cL) := c_e X1.out rfl
  have f2_1 : w1.cell? ⟨w.heap.size, 2, none⟩ = some (.slice x.aP F.prs.length x.cP) := c_e X1.out rfl
  have f3_1 : w1.cell? ⟨w.heap.size, 3, none⟩ = some (.slice x.aV F.vrs.length x.cV) := c_e X1.out rfl
  clear hb1
  go_wp2_with fail
  refine (HWT.out _ B1.out).mono ?_
  rintro e w2 ⟨g, rfl, hg, hgb, hb2⟩
  have B2 := hidE (B1.out.trans (hb2.mono B1.out.size))
  clear hb2 f0_1 f1_1 f2_1 f3_1
  go_wp2_with fail
  go_ret2
  exact ⟨⟨_, rfl, owns_of_block (Nat.le_trans B1.out.size hgb) hg (by have := HSM.out; omega)⟩, B2.out⟩
 ·rw [if_pos hz] at hP1 hP2
  obtain rfl : [] = P1 := hP1
  have hzb : (P2 != 0) = true := by rw [← hP2]; simpa using hz
  rw [show fieldedE F [i] = P2 from hP2] at HFI
  clear hz hP2 h
  unfold FV.val FV.arr at *
  go_enter Tryz.func49, Tryz.ntmps49
  go_wp2_with fail
  refine (HFI.out _ _ (by simp) B0.out).mono ?_
  rintro e w1 ⟨rfl, hb1⟩
  have a1 := B0.out.alloc B0.out.size (.cells #[.int .i64 i] 3)
  have B1 := hidE (a1.trans (hb1.mono a1.size))
  have X1 := hidE (blk_below hb1 (Nat.lt_of_lt_of_le l0 (by simp)) ((Below.heap_alloc _ _ _ l0).trans X0.out))
  clear a1
  have l1 := lt_of_block X1.out
  have f0_1 : w1.cell? ⟨w.heap.size, 0, none⟩ = some (.slice x.aS F.sts.length x.cS) := c_e X1.out rfl
  have f1_1 : w1.cell? ⟨w.heap.size, 1, none⟩ = some (.slice x.aL F.lms.length x.cL) := c_e X1.out rfl
  have f2_1 : w1.cell? ⟨w.heap.size, 2, none⟩ = some (.slice x.aP F.prs.length x.cP) := c_e X1.out rfl
  have f3_1 : w1.cell? ⟨w.heap.size, 3, none⟩ = some (.slice x.aV F.vrs.length x.cV) := c_e X1.out rfl
  clear hb1
  go_wp2_with fail
  go_ret2
  exact ⟨⟨_, rfl, World.ownsRow_nil _ _ _ _⟩, B1.out⟩
set_option maxRecDepth 100000 in
set_option maxHeartbeats 2000000 in
theorem area2E_any (w : World) (x : FV) (F : Fld) (i : Int) (a2 : Option Addr) (cap2 : Nat) (y : List Int) (hy : y.length ≤ 9223372036854775807) (h : FldAt w x F) (h2 : IntsAt w a2 y) :
 Calls Tryz.prog 35 #[x.val F, .int .i64 i, .slice a2 y.length cap2] w fun e w' => e = .returned (.tuple #[.int .i64 (area2E F i y).1, .int .i64 (area2E F i y).2]) ∧ Below w.heap.size w w' := by
 have B0 := hidE (show Below w.heap.size w (w.alloc (.cells (x.arr F) 46)) from (Below.refl _ _).alloc (Nat.le_refl _) _)
 have X0 := hidE (heap_alloc_new w (.cells (x.arr F) 46))
 have l0 : w.heap.size < (w.alloc (.cells (x.arr F) 46)).heap.size := by simp
 have HFI := hidE (fun (W : World) (A : Nat) (hA : A = W.heap.size) (hb : Below w.heap.size w W) => show Calls Tryz.prog 104 #[x.val F, .slice (some ⟨A, 0, none⟩) 1 1] (W.alloc (.cells #[.int .i64 i] 3)) _ by subst hA; exact fielded_any (W.alloc (.cells #[.int .i64 i] 3)) x F (some ⟨W.heap.size, 0, none⟩) 1 [i] (by simp) ((h.below hb).alloc _) (ints_single W i))
 have HPT := hidE (fun (W : World) (hb : Below w.heap.size w W) => pointsE_any W x F (h.below hb))
 have H2 := hidE h2
 obtain ⟨P1, hP1⟩ : ∃ z, (area2E F i y).1 = z := ⟨_, rfl⟩
 obtain ⟨P2, hP2⟩ : ∃ z, (area2E F i y).2 = z := ⟨_, rfl⟩
 rw [hP1, hP2]
 unfold area2E at hP1 hP2
 by_cases hz : fieldedE F [i] = 0
 ·obtain ⟨hc, n, rfl, hn, hpar⟩ := fielded_one hz
  rw [if_neg (by omega)] at hP1 hP2
  rw [hz] at HFI
  have hpe : pointsE F = F.points := by unfold pointsE; rw [if_neg (by omega)]
  rw [hpe] at HPT
  have hpn := points_nat hc
  have HVA := hidE (fun (W : World) (hb : Below w.heap.size w W) => valued_any W F.points a2 cap2 y (by omega) hy (H2.out.below hb (Nat.le_refl _)))
  have HWT := hidE (fun (W : World) (hb : Below w.heap.size w W) => weights_any W x F n hc hn (h.below hb))
  have hwb := weightsOf_bd hc (check0_inside hc (List.getElem_mem hn))
  rw [hpar] at hP1 hP2
  obtain ⟨L, hL⟩ : ∃ L, weightsOf F F.prs[n] = L := ⟨_, rfl⟩
  rw [hL] at HWT hP1 hwb
  have hln : F.points.toNat = L.length := by rw [← hL, weightsOf_len]
  rw [hln] at HWT
  obtain ⟨N, hN⟩ : ∃ N, F.points = N := ⟨_, rfl⟩
  rw [hN] at HPT HVA hpn hP1 hP2
  cases hq : valuesB N y with
  | false =>
    rw [if_pos hq] at hP1 hP2
    obtain rfl : (0 : Int) = P1 := hP1
    obtain rfl : (1 : Int) = P2 := hP2
    rw [hq] at HVA
    clear hz hpar hL hln h hc hn hpe hN hq hwb hpn
    unfold FV.val FV.arr at *
    go_enter Tryz.func35, Tryz.ntmps35
    go_wp2_with fail
    refine (HFI.out _ _ (by simp) B0.out).mono ?_
    rintro e w1 ⟨rfl, hb1⟩
    have a1 := B0.out.alloc B0.out.size (.cells #[.int .i64 (n : Int)] 3)
    have B1 := hidE (a1.trans (hb1.mono a1.size))
    have X1 := hidE (blk_below hb1 (Nat.lt_of_lt_of_le l0 (by simp)) ((Below.heap_alloc _ _ _ l0).trans X0.out))
    clear a1
    have l1 := lt_of_block X1.out
    have f0_1 : w1.cell? ⟨w.heap.size, 0, none⟩ = some (.slice x.aS F.sts.length x.cS) := c_e X1.out rfl
    have f1_1 : w1.cell? ⟨w.heap.size, 1, none⟩ = some (.slice x.aL F.lms.length x.cL) := c_e X1.out rfl
    have f2_1 : w1.cell? ⟨w.heap.size, 2, none⟩ = some (.slice x.aP F.prs.length x.cP) := c_e X1.out rfl
    have f3_1 : w1.cell? ⟨w.heap.size, 3, none⟩ = some (.slice x.aV F.vrs.length x.cV) := c_e X1.out rfl
    clear hb1
    go_wp2_with fail
    refine (HPT.out _ B1.out).mono ?_
    rintro e w2 ⟨rfl, hb2⟩
    have B2 := hidE (B1.out.trans (hb2.mono B1.out.size))
    have X2 := hidE (blk_below hb2 l1 X1.out)
    have l2 := lt_of_block X2.out
    have f0_2 : w2.cell? ⟨w.heap.size, 0, none⟩ = some (.slice x.aS F.sts.length x.cS) := c_e X2.out rfl
    have f1_2 : w2.cell? ⟨w.heap.size, 1, none⟩ = some (.slice x.aL F.lms.length x.cL) := c_e X2.out rfl
    have f2_2 : w2.cell? ⟨w.heap.size, 2, none⟩ = some (.slice x.aP F.prs.length x.cP) := c_e X2.out rfl
    have f3_2 : w2.cell? ⟨w.heap.size, 3, none⟩ = some (.slice x.aV F.vrs.length x.cV) := c_e X2.out rfl
    clear hb2 f0_1 f1_1 f2_1 f3_1
    go_wp2_with fail
    refine (HVA.out _ B2.out).mono ?_
    rintro e w3 ⟨rfl, hb3⟩
    have B3 := hidE (B2.out.trans (hb3.mono B2.out.size))
    have X3 := hidE (blk_below hb3 l2 X2.out)
    have l3 := lt_of_block X3.out
    have f0_3 : w3.cell? ⟨w.heap.size, 0, none⟩ = some (.slice x.aS F.sts.length x.cS) := c_e X3.out rfl
    have f1_3 : w3.cell? ⟨w.heap.size, 1, none⟩ = some (.slice x.aL F.lms.length x.cL) := c_e X3.out rfl
    have f2_3 : w3.cell? ⟨w.heap.size, 2, none⟩ = some (.slice x.aP F.prs.length x.cP) := c_e X3.out rfl
    have f3_3 : w3.cell? ⟨w.heap.size, 3, none⟩ = some (.slice x.aV F.vrs.length x.cV) := c_e X3.out rfl
    clear hb3 f0_2 f1_2 f2_2 f3_2
    go_wp2_with fail
    go_ret2
    exact ⟨rfl, B3.out⟩
  | true =>
    rw [if_neg (by simp [hq])] at hP1 hP2
    obtain rfl : (0 : Int) = P2 := hP2
    have hvb := valuesB_iff.1 (show valuesB (N.toNat : Int) y = true by rw [show (N.toNat : Int) = N by omega]; exact hq)
    have hln2 : L.length = N.toNat := by rw [← hln, hN]
    have HFO := hidE (fun (W : World) (g : Nat) (hb : Below w.heap.size w W) (hg : W.heap[g]? = some (.cells (rowA L) 3 (0,0))) => form_any W (some ⟨g, 0, none⟩) L.length L a2 cap2 y (by omega) (by omega) (ints_of_row hg) (H2.out.below hb (Nat.le_refl _)) (fun v hv => by
     obtain ⟨j, hj, rfl⟩ := List.getElem_of_mem hv
     have := hwb j
     rw [getD_get L 0 hj] at this
     omega) hvb.2.2)
    rw [show formP L y = P1 from hP1] at HFO
    rw [hq] at HVA
    clear hz hpar hL hln hln2 h hc hn hpe hN hq hwb hpn hvb hP1
    unfold FV.val FV.arr at *
    go_enter Tryz.func35, Tryz.ntmps35
    go_wp2_with fail
    refine (HFI.out _ _ (by simp) B0.out).mono ?_
    rintro e w1 ⟨rfl, hb1⟩
    have a1 := B0.out.alloc B0.out.size (.cells #[.int .i64 (n : Int)] 3)
    have B1 := hidE (a1.trans (hb1.mono a1.size))
    have X1 := hidE (blk_below hb1 (Nat.lt_of_lt_of_le l0 (by simp)) ((Below.heap_alloc _ _ _ l0).trans X0.out))
    clear a1
    have l1 := lt_of_block X1.out
    have f0_1 : w1.cell? ⟨w.heap.size, 0, none⟩ = some (.slice x.aS F.sts.length x.cS) := c_e X1.out rfl
    have f1_1 : w1.cell? ⟨w.heap.size, 1, none⟩ = some (.slice x.aL F.lms.length x.cL) := c_e X1.out rfl
    have f2_1 : w1.cell? ⟨w.heap.size, 2, none⟩ = some (.slice x.aP F.prs.length x.cP) := c_e X1.out rfl
    have f3_1 : w1.cell? ⟨w.heap.size, 3, none⟩ = some (.slice x.aV F.vrs.length x.cV) := c_e X1.out rfl
    clear hb1
    go_wp2_with fail
    refine (HPT.out _ B1.out).mono ?_
    rintro e w2 ⟨rfl, hb2⟩
    have B2 := hidE (B1.out.trans (hb2.mono B1.out.size))
    have X2 := hidE (blk_below hb2 l1 X1.out)
    have l2 := lt_of_block X2.out
    have f0_2 : w2.cell? ⟨w.heap.size, 0, none⟩ = some (.slice x.aS F.sts.length x.cS) := c_e X2.out rfl
    have f1_2 : w2.cell? ⟨w.heap.size, 1, none⟩ = some (.slice x.aL F.lms.length x.cL) := c_e X2.out rfl
    have f2_2 : w2.cell? ⟨w.heap.size, 2, none⟩ = some (.slice x.aP F.prs.length x.cP) := c_e X2.out rfl
    have f3_2 : w2.cell? ⟨w.heap.size, 3, none⟩ = some (.slice x.aV F.vrs.length x.cV) := c_e X2.out rfl
    clear hb2 f0_1 f1_1 f2_1 f3_1
    go_wp2_with fail
    refine (HVA.out _ B2.out).mono ?_
    rintro e w3 ⟨rfl, hb3⟩
    have B3 := hidE (B2.out.trans (hb3.mono B2.out.size))
    have X3 := hidE (blk_below hb3 l2 X2.out)
    have l3 := lt_of_block X3.out
    have f0_3 : w3.cell? ⟨w.heap.size, 0, none⟩ = some (.slice x.aS F.sts.length x.cS) := c_e X3.out rfl
    have f1_3 : w3.cell? ⟨w.heap.size, 1, none⟩ = some (.slice x.aL F.lms.length x.cL) := c_e X3.out rfl
    have f2_3 : w3.cell? ⟨w.heap.size, 2, none⟩ = some (.slice x.aP F.prs.length x.cP) := c_e X3.out rfl
    have f3_3 : w3.cell? ⟨w.heap.size, 3, none⟩ = some (.slice x.aV F.vrs.length x.cV) := c_e X3.out rfl
    clear hb3 f0_2 f1_2 f2_2 f3_2
    go_wp2_with fail
    refine (HWT.out _ B3.out).mono ?_
    rintro e w4 ⟨g, rfl, hg, hgb, hb4⟩
    have B4 := hidE (B3.out.trans (hb4.mono B3.out.size))
    clear hb4 f0_3 f1_3 f2_3 f3_3
    have HG := hidE hg
    clear hg hgb
    go_wp2_with fail
    refine (HFO.out _ g B4.out HG.out).mono ?_
    rintro e w5 ⟨rfl, rfl⟩
    go_wp2_with fail
    go_ret2
    exact ⟨rfl, B4.out⟩
 ·rw [if_pos hz] at hP1 hP2
  obtain rfl : (0 : Int) = P1 := hP1
  have hzb : (P2 != 0) = true := by rw [← hP2]; simpa using hz
  rw [show fieldedE F [i] = P2 from hP2] at HFI
  clear hz hP2 h
  unfold FV.val FV.arr at *
  go_enter Tryz.func35, Tryz.ntmps35
  go_wp2_with fail
  refine (HFI.out _ _ (by simp) B0.out).mono ?_
  rintro e w1 ⟨rfl, hb1⟩
  have a1 := B0.out.alloc B0.out.size (.cells #[.int .i64 i] 3)
  have B1 := hidE (a1.trans (hb1.mono a1.size))
  have X1 := hidE (blk_below hb1 (Nat.lt_of_lt_of_le l0 (by simp)) ((Below.heap_alloc _ _ _ l0).trans X0.out))
  clear a1
  have l1 := lt_of_block X1.out
  have f0_1 : w1.cell? ⟨w.heap.size, 0, none⟩ = some (.slice x.aS F.sts.length x.cS) := c_e X1.out rfl
  have f1_1 : w1.cell? ⟨w.heap.size, 1, none⟩ = some (.slice x.aL F.lms.length x.cL) := c_e X1.out rfl
  have f2_1 : w1.cell? ⟨w.heap.size, 2, none⟩ = some (.slice x.aP F.prs.length x.cP) := c_e X1.out rfl
  have f3_1 : w1.cell? ⟨w.heap.size, 3, none⟩ = some (.slice x.aV F.vrs.length x.cV) := c_e X1.out rfl
  clear hb1
  go_wp2_with fail
  go_ret2
  exact ⟨rfl, B1.out⟩
end Go.Proofs.YthjmkmjojlfejaaGreat
namespace Go.Proofs.YthjmkmjojlfejaaGreat
structure Gs where
 a : Int
 b : Int
 w : Int
 e : Int
def Gs.run (t : Gs) : Int := t.b - t.a
def Gs.area (t : Gs) : Int := t.run * (t.w + t.e)
def Gs.ok (t : Gs) : Prop := (0 ≤ t.a ∧ t.a < t.b ∧ t.b ≤ 100000) ∧ (0 ≤ t.w ∧ t.w ≤ 1000000) ∧ 0 ≤ t.e ∧ t.e ≤ 1000000
def gs0 : Gs := ⟨0, 0, 0, 0⟩
def partAt (sum : Int) (t : Gs) (x : Int) : Int × Int := (sum * t.run + 2 * t.w * (x - t.a) * t.run + (t.e - t.w) * (x - t.a) * (x - t.a), t.run)
def partGo (x : Int) : Int → List Gs → Int × Int
 | sum, [] => (sum, 1)
 | sum, t :: r => if t.b < x then partGo x (sum + t.area) r else partAt sum t x
def partP (G : List Gs) (x : Int) : Int × Int := partGo x 0 G
def fromP (G : List Gs) : Int := (G.getD 0 gs0).a
def toP (G : List Gs) : Int := (G.getD (G.length - 1) gs0).b
def wholeP (G : List Gs) : Int := (partP G (toP G)).1.tdiv (partP G (toP G)).2
def cutGo (G : List Gs) (m : Int) : Nat → Int → Int → Int
 | 0, lo, _ => lo
 | f + 1, lo, hi => if lo < hi then
  (if (partP G (lo + (hi - lo + 1).tdiv 2)).1 ≤ m * (partP G (lo + (hi - lo + 1).tdiv 2)).2 then cutGo G m f (lo + (hi - lo + 1).tdiv 2) hi else cutGo G m f lo (lo + (hi - lo + 1).tdiv 2 - 1))
   else lo
def cutP (G : List Gs) (m : Int) : Int := cutGo G m (toP G - fromP G).toNat (fromP G) (toP G)
theorem gs_area_bd {t : Gs} (h : t.ok) : 0 ≤ t.area ∧ t.area ≤ 200000000000 := by
 obtain ⟨⟨h1, h2, h3⟩, ⟨h4, h5⟩, h6, h7⟩ := h
 have m := mul_bd (a := t.run) (b := t.w + t.e) (A := 100000) (B := 2000000) (by unfold Gs.run; omega) (by unfold Gs.run; omega) (by omega) (by omega)
 refine ⟨Int.mul_nonneg (by unfold Gs.run; omega) (by omega), ?_⟩
 have := m.2
 unfold Gs.area
 omega
def areaTo (G : List Gs) (k : Nat) : Int := isum ((G.take k).map Gs.area)
theorem areaTo_succ {G : List Gs} {k : Nat} (hk : k < G.length) : areaTo G (k + 1) = areaTo G k + G[k].area := by
 unfold areaTo
 rw [List.take_succ_eq_append_getElem hk, List.map_append, isum_append]
 simp [isum]
theorem areaTo_bd {G : List Gs} (h : ∀ t ∈ G, t.ok) : ∀ k, k ≤ G.length → 0 ≤ areaTo G k ∧ areaTo G k ≤ k * 200000000000
 | 0, _ => by simp [areaTo, isum]
 | k + 1, hk => by
   have ih := areaTo_bd h k (by omega)
   have := gs_area_bd (h _ (List.getElem_mem (show k < G.length by omega)))
   rw [areaTo_succ (by omega)]
   omega
theorem part_step {G : List Gs} {x : Int} {k : Nat} (hk : k < G.length) (hx : G[k].b < x) : partGo x (areaTo G k) (G.drop k) = partGo x (areaTo G (k + 1)) (G.drop (k + 1)) := by
 rw [List.drop_eq_getElem_cons hk, areaTo_succ hk]
 simp only [partGo, if_pos hx]
theorem part_stop {G : List Gs} {x : Int} {k : Nat} (hk : k < G.length) (hx : ¬ G[k].b < x) : partGo x (areaTo G k) (G.drop k) = partAt (areaTo G k) G[k] x := by
 rw [List.drop_eq_getElem_cons hk]
 simp only [partGo, if_neg hx]
theorem part_end (G : List Gs) (x : Int) : partGo x (areaTo G G.length) (G.drop G.length) = (areaTo G G.length, 1) := by
 rw [List.drop_length]; rfl
theorem part_zero (G : List Gs) (x : Int) : partGo x (areaTo G 0) (G.drop 0) = partP G x := by unfold areaTo partP; simp [isum]
structure GrOk (G : List Gs) : Prop where
 ne : 0 < G.length
 short : G.length ≤ 12
 each : ∀ t ∈ G, t.ok
 chain : ∀ i (h : i + 1 < G.length), G[i + 1].a = G[i].b
theorem GrOk.lo {G : List Gs} (h : GrOk G) : ∀ k (hk : k < G.length), fromP G ≤ G[k].a
 | 0, hk => by unfold fromP; rw [List.getD_eq_getElem?_getD, List.getElem?_eq_getElem hk]; exact Int.le_refl _
 | k + 1, hk => by
   have := h.lo k (by omega)
   have := h.chain k hk
   have := (h.each _ (List.getElem_mem (show k < G.length by omega))).1
   omega
theorem GrOk.fromAt {G : List Gs} (h : GrOk G) : fromP G = (G[0]'h.ne).a := by unfold fromP; rw [List.getD_eq_getElem?_getD, List.getElem?_eq_getElem h.ne]; rfl
theorem GrOk.toAt {G : List Gs} (h : GrOk G) : toP G = (G[G.length - 1]'(by have := h.ne; omega)).b := by unfold toP; rw [List.getD_eq_getElem?_getD, List.getElem?_eq_getElem (by have := h.ne; omega)]; rfl
theorem GrOk.ends {G : List Gs} (h : GrOk G) : 0 ≤ fromP G ∧ fromP G < toP G ∧ toP G ≤ 100000 := by
 have hn := h.ne
 have h1 := (h.each _ (List.getElem_mem h.ne)).1
 have h2 := (h.each _ (List.getElem_mem (show G.length - 1 < G.length by omega))).1
 have h3 := h.lo (G.length - 1) (by omega)
 rw [← h.fromAt] at h1
 rw [← h.toAt] at h2
 omega
theorem GrOk.strip {G : List Gs} (h : GrOk G) {x : Int} (h0 : fromP G ≤ x) (h1 : x ≤ toP G) : ∃ k, ∃ hk : k < G.length, G[k].a ≤ x ∧ x ≤ G[k].b ∧ (∀ i (hi : i < k), G[i].b < x) ∧ partP G x = partAt (areaTo G k) G[k] x := by
 have key : ∀ j, j ≤ G.length → (∀ i (hi : i < j) (hi2 : i < G.length), G[i].b < x) → partP G x = partGo x (areaTo G j) (G.drop j) → ∃ k, ∃ hk : k < G.length, G[k].a ≤ x ∧ x ≤ G[k].b ∧ (∀ i (hi : i < k), G[i].b < x) ∧ partP G x = partAt (areaTo G k) G[k] x := by
  intro j hj
  induction hd : G.length - j generalizing j with
  | zero =>
    intro hb _
    have := hb (G.length - 1) (by have := h.ne; omega) (by have := h.ne; omega)
    rw [← h.toAt] at this
    omega
  | succ d ih =>
    intro hb hp
    have hjl : j < G.length := by omega
    by_cases hx : G[j].b < x
    ·refine ih (j + 1) hjl (by omega) (fun i hi hi2 => ?_) (by rw [hp, part_step hjl hx])
     by_cases e : i = j
     ·subst e; exact hx
     ·exact hb i (by omega) hi2
    ·refine ⟨j, hjl, ?_, by omega, fun i hi => hb i hi (by omega), by rw [hp, part_stop hjl hx]⟩
     cases j with
     | zero => rw [h.fromAt] at h0; exact h0
     | succ i =>
       have := h.chain i hjl
       have := hb i (by omega) (by omega)
       omega
 exact key 0 (Nat.zero_le _) (fun i hi => by omega) (by rw [part_zero])
theorem partAt_bd {t : Gs} (h : t.ok) {s x : Int} (hs0 : 0 ≤ s) (hs1 : s ≤ 2400000000000) (h0 : t.a ≤ x) (h1 : x ≤ t.b) : 0 ≤ (partAt s t x).1 ∧ (partAt s t x).1 ≤ 400000000000000000 ∧ 1 ≤ (partAt s t x).2 ∧ (partAt s t x).2 ≤ 100000 := by
 obtain ⟨⟨a1, a2, a3⟩, ⟨w1, w2⟩, e1, e2⟩ := h
 unfold partAt Gs.run
 simp only
 obtain ⟨d, hd⟩ : ∃ d, d = x - t.a := ⟨_, rfl⟩
 obtain ⟨r, hr⟩ : ∃ r, r = t.b - t.a := ⟨_, rfl⟩
 rw [← hd, ← hr]
 have d0 : 0 ≤ d := by omega
 have d1 : d ≤ r := by omega
 have r1 : r ≤ 100000 := by omega
 have m1 := mul_bd (a := s) (b := r) (A := 2400000000000) (B := 100000) (by omega) (by omega) (by omega) (by omega)
 have m1' : 0 ≤ s * r := Int.mul_nonneg hs0 (by omega)
 have m2 : 0 ≤ t.w * d := Int.mul_nonneg w1 d0
 have m3 := mul_bd (a := t.w) (b := d) (A := 1000000) (B := 100000) (by omega) (by omega) (by omega) (by omega)
 have m3' : t.w * d * d ≤ t.w * d * r := Int.mul_le_mul_of_nonneg_left d1 m2
 have m4 := mul_bd (a := t.w * d) (b := r) (A := 100000000000) (B := 100000) (by omega) (by omega) (by omega) (by omega)
 have m5 : 0 ≤ t.e * d * d := Int.mul_nonneg (Int.mul_nonneg e1 d0) d0
 have m6 := mul_bd (a := t.e) (b := d) (A := 1000000) (B := 100000) (by omega) (by omega) (by omega) (by omega)
 have m7 := mul_bd (a := t.e * d) (b := d) (A := 100000000000) (B := 100000) (by omega) (by omega) (by omega) (by omega)
 have m8 : 0 ≤ t.w * d * d := Int.mul_nonneg m2 d0
 have x1 : 2 * t.w * d * r = 2 * (t.w * d * r) := by rw [Int.mul_assoc 2, Int.mul_assoc 2]
 have x2 : (t.e - t.w) * d * d = t.e * d * d - t.w * d * d := by rw [Int.sub_mul, Int.sub_mul]
 rw [x1, x2]
 omega
theorem GrOk.part_bd {G : List Gs} (h : GrOk G) {x : Int} (h0 : fromP G ≤ x) (h1 : x ≤ toP G) : 0 ≤ (partP G x).1 ∧ (partP G x).1 ≤ 400000000000000000 ∧ 1 ≤ (partP G x).2 ∧ (partP G x).2 ≤ 100000 := by
 obtain ⟨k, hk, g1, g2, _, g4⟩ := h.strip h0 h1
 have hb := areaTo_bd h.each k (by omega)
 have hs := h.short
 rw [g4]
 exact partAt_bd (h.each _ (List.getElem_mem hk)) hb.1 (by omega) g1 g2
theorem partAt_end (s : Int) (t : Gs) : (partAt s t t.b).1 = (s + t.area) * t.run := by
 unfold partAt Gs.area
 rw [show t.b - t.a = t.run from rfl]
 obtain ⟨r, hr⟩ : ∃ r, r = t.run := ⟨_, rfl⟩
 simp only [← hr]
 have x1 : 2 * t.w * r * r = t.w * r * r + t.w * r * r := by rw [show 2 * t.w = t.w + t.w by omega, Int.add_mul, Int.add_mul]
 have x2 : (t.e - t.w) * r * r = t.e * r * r - t.w * r * r := by rw [Int.sub_mul, Int.sub_mul]
 have x3 : (s + r * (t.w + t.e)) * r = s * r + (t.w * r * r + t.e * r * r) := by
  rw [Int.add_mul, Int.mul_comm r, Int.add_mul, Int.add_mul]
 rw [x1, x2, x3]
 omega
theorem GrOk.whole {G : List Gs} (h : GrOk G) : wholeP G = areaTo G G.length := by
 have he := h.ends
 obtain ⟨k, hk, g1, g2, g3, g4⟩ := h.strip (x := toP G) (by omega) (Int.le_refl _)
 have hkl : k = G.length - 1 := by
  apply Classical.byContradiction
  intro hne
  have hlt : k < G.length - 1 := by omega
  have hn := h.ne
  have := h.chain k (by omega)
  have h2 := (h.each _ (List.getElem_mem (show k + 1 < G.length by omega))).1
  have h3 : ∀ j, (hj : j < G.length) → k + 1 ≤ j → G[k + 1].b ≤ G[j].b := by
   intro j
   induction j with
   | zero => intro _ h; omega
   | succ j ih =>
     intro hj hle
     by_cases e : k = j
     ·subst e; exact Int.le_refl _
     ·have := ih (by omega) (by omega)
      have := h.chain j hj
      have := (h.each _ (List.getElem_mem hj)).1
      omega
  have h4 := h3 (G.length - 1) (by omega) (by omega)
  have h5 := h.toAt
  omega
 have hte : toP G = G[k].b := by rw [h.toAt]; simp only [hkl]
 have hr := (h.each _ (List.getElem_mem hk)).1
 unfold wholeP
 rw [g4, hte, partAt_end, show (partAt (areaTo G k) G[k] G[k].b).2 = G[k].run from rfl, Int.mul_tdiv_cancel _ (by unfold Gs.run; omega), ← areaTo_succ hk]
 congr 1
 omega
end Go.Proofs.YthjmkmjojlfejaaGreat
