/- What the law AreaDivides needs beyond the base: Sm, Gp, Gq, Gp2, Gp3, Lq0, Sf, Dv, Oq, Al2, Lv. No conditions beyond those stated. -/
import Derived.Test.YthjmkmjojlfejaaGreatB01
import Derived.Test.YthjmkmjojlfejaaGreatB04
import Derived.Test.YthjmkmjojlfejaaGreatB03
import Derived.Test.YthjmkmjojlfejaaGreatB02
import Derived.Shelf.Small.Bits
import Derived.Shelf.Small.Wraps
import Derived.Shelf.Strconv.Itoa0
import Derived.Shelf.Sort.Plain
import Derived.Shelf.Slices.Turned
import Derived.Ground.Names2Prog
import Derived.Shelf.Slices.CompactI
import Derived.Shelf.Slices.SearchI
import Derived.Shelf.Slices.Cells
import Derived.Shelf.Slices.In.SortNone
import Derived.Test.YthjmkmjojlfejaaGreatProg
import Derived.WalkKit
import Derived.Handy
import Derived.RangeFuncRecord
import Derived.Shelf.Abstract
import Derived.Deep.QuietTactic
import Derived.BigQuiet
import Derived.Laws.CopyOwn
import Derived.WalkSmall
import Derived.RangeFuncNested
import Derived.RangeFuncBound
import Derived.RangeFuncCalls
import Derived.RangeFuncLeaves
import Derived.Shelf.RegionOpen
import Derived.OwnWalkIn
import Derived.TacticsInMore
import Derived.LoopNIn
import Derived.LoopIn
import Derived.Maps.AppendAt
import Derived.Deep.Onto
import Derived.OrdersHeld
import Derived.Deep.LoopGhost
import Derived.Deep.WholeRow
import Derived.Deep.OwnRows
import Derived.StillTailTactics
import Derived.Great.Walk
import Derived.Great.BuildSlice
import Derived.WalkMore
import Derived.Deep.MidRow
import Derived.Deep.RegionHeld3
import Derived.Deep.DeepCutAuto
import Derived.Lib.OwnBridge
import Derived.Lib.SliceRun
import Derived.WalkSpells
import Derived.Deep.RegionWith
import Derived.Lib.AppendZerosOnto
import Derived.Deep.CutBlock
import Derived.IntWalk
import Derived.Test.YthjmkmjojlfejaaGreatB05
import Derived.Test.YthjmkmjojlfejaaGreatB07
import Derived.Test.YthjmkmjojlfejaaGreatB06
import Derived.Test.YthjmkmjojlfejaaGreatB08
import Derived.Test.YthjmkmjojlfejaaGreatB10
import Derived.Test.YthjmkmjojlfejaaGreatB09
import Derived.Test.YthjmkmjojlfejaaGreatB13

namespace Go.Proofs.YthjmkmjojlfejaaGreat
theorem sumN_add (f g : Nat → Int) : ∀ n, sumN (fun i => f i + g i) n = sumN f n + sumN g n
  | 0 => rfl
  | n + 1 => by simp only [sumN, sumN_add f g n]; omega
end Go.Proofs.YthjmkmjojlfejaaGreat

namespace Go.Proofs.YthjmkmjojlfejaaGreat
theorem cut_go_in {G : List Gs} {m : Int} : ∀ (f : Nat) (lo hi : Int), lo ≤ hi → lo ≤ cutGo G m f lo hi ∧ cutGo G m f lo hi ≤ hi
  | 0, lo, hi, h => ⟨Int.le_refl _, h⟩
  | f + 1, lo, hi, h => by
    unfold cutGo
    split
    · rename_i hlt
      have hm : lo < lo + (hi - lo + 1).tdiv 2 ∧ lo + (hi - lo + 1).tdiv 2 ≤ hi := by
        rw [Int.tdiv_eq_ediv_of_nonneg (by omega)]; omega
      split
      · have := cut_go_in (G := G) (m := m) f _ hi hm.2; omega
      · have := cut_go_in (G := G) (m := m) f lo (lo + (hi - lo + 1).tdiv 2 - 1) (by omega); omega
    · exact ⟨Int.le_refl _, h⟩
end Go.Proofs.YthjmkmjojlfejaaGreat

namespace Go.Proofs.YthjmkmjojlfejaaGreat
def cutsTo (G : List Gs) (l : List Int) (k : Nat) : List Int := (List.range k).map fun j => cutP G (isum (l.take (j + 1)))
theorem cutsTo_succ (G : List Gs) (l : List Int) (k : Nat) : cutsTo G l (k + 1) = cutsTo G l k ++ [cutP G (isum (l.take (k + 1)))] := by
  unfold cutsTo; rw [List.range_succ, List.map_append]; rfl
theorem cutsTo_len (G : List Gs) (l : List Int) (k : Nat) : (cutsTo G l k).length = k := by simp [cutsTo]
def divideE (F : Fld) (y : List Int) (i : Int) (parts : List Int) : List Int × Int :=
  if uprightE F y i ≠ 0 then ([], uprightE F y i)
  else if (sharesE (wholeP (grP F y (F.par i))) parts).2 ≠ 0 then ([], (sharesE (wholeP (grP F y (F.par i))) parts).2)
  else (cutsTo (grP F y (F.par i)) (sharesE (wholeP (grP F y (F.par i))) parts).1 (parts.length - 1), 0)
end Go.Proofs.YthjmkmjojlfejaaGreat

namespace Go.Proofs.YthjmkmjojlfejaaGreat
/-- One fraction is at most another one. -/
def fle (p q : Int × Int) : Prop := p.1 * q.2 ≤ q.1 * p.2
theorem fle_trans {p q r : Int × Int} (hp : 0 < p.2) (hq : 0 < q.2) (hr : 0 < r.2) (h1 : fle p q) (h2 : fle q r) : fle p r := by
  unfold fle at *
  have m1 := Int.mul_le_mul_of_nonneg_right h1 (Int.le_of_lt hr)
  have m2 := Int.mul_le_mul_of_nonneg_right h2 (Int.le_of_lt hp)
  apply Int.le_of_mul_le_mul_left (a := q.2) _ hq
  grind
theorem partAt_mono {t : Gs} (h : t.ok) (s : Int) {x : Int} (h0 : t.a ≤ x) (h1 : x + 1 ≤ t.b) : (partAt s t x).1 ≤ (partAt s t (x + 1)).1 := by
  obtain ⟨⟨a1, a2, a3⟩, ⟨w1, w2⟩, e1, e2⟩ := h
  unfold partAt Gs.run
  simp only
  obtain ⟨d, hd⟩ : ∃ d, d = x - t.a := ⟨_, rfl⟩
  obtain ⟨r, hr⟩ : ∃ r, r = t.b - t.a := ⟨_, rfl⟩
  rw [← hd, ← hr, show x + 1 - t.a = d + 1 by omega]
  have m1 : 0 ≤ t.w * (2 * r - 2 * d - 1) := Int.mul_nonneg w1 (by omega)
  have m2 : 0 ≤ t.e * (2 * d + 1) := Int.mul_nonneg e1 (by omega)
  grind
theorem partAt_ge {t : Gs} (h : t.ok) {s x : Int} (h0 : t.a ≤ x) (h1 : x ≤ t.b) : s * t.run ≤ (partAt s t x).1 := by
  obtain ⟨⟨a1, a2, a3⟩, ⟨w1, w2⟩, e1, e2⟩ := h
  unfold partAt Gs.run
  simp only
  obtain ⟨d, hd⟩ : ∃ d, d = x - t.a := ⟨_, rfl⟩
  obtain ⟨r, hr⟩ : ∃ r, r = t.b - t.a := ⟨_, rfl⟩
  rw [← hd, ← hr]
  have d0 : 0 ≤ d := by omega
  have m1 : 0 ≤ t.w * d * (2 * r - d) := Int.mul_nonneg (Int.mul_nonneg w1 d0) (by omega)
  have m2 : 0 ≤ t.e * d * d := Int.mul_nonneg (Int.mul_nonneg e1 d0) d0
  grind
theorem GrOk.den {G : List Gs} (h : GrOk G) {x : Int} (h0 : fromP G ≤ x) (h1 : x ≤ toP G) : 0 < (partP G x).2 := by have := h.part_bd h0 h1; omega
theorem GrOk.mono1 {G : List Gs} (h : GrOk G) {x : Int} (h0 : fromP G ≤ x) (h1 : x + 1 ≤ toP G) : fle (partP G x) (partP G (x + 1)) := by
  obtain ⟨k, hk, g1, g2, g3, g4⟩ := h.strip h0 (show x ≤ toP G by omega)
  obtain ⟨j, hj, q1, q2, q3, q4⟩ := h.strip (show fromP G ≤ x + 1 by omega) h1
  rw [g4, q4]
  have tk := h.each _ (List.getElem_mem hk)
  have tj := h.each _ (List.getElem_mem hj)
  by_cases hx : x + 1 ≤ G[k].b
  · have hjk : j = k := by
      rcases Nat.lt_trichotomy j k with c | c | c
      · have := g3 j c; omega
      · exact c
      · have := q3 k c; omega
    subst hjk
    exact Int.mul_le_mul_of_nonneg_right (partAt_mono tk _ g1 hx) (by have := tk.1; unfold partAt Gs.run; simp only; omega)
  · have hxe : x = G[k].b := by omega
    have hkl : k + 1 < G.length := by
      apply Classical.byContradiction
      intro hn
      have e : k = G.length - 1 := by omega
      have := h.toAt
      simp only [← e] at this
      omega
    have hc := h.chain k hkl
    have t1 := (h.each _ (List.getElem_mem hkl)).1
    have hjk : j = k + 1 := by
      rcases Nat.lt_trichotomy j (k + 1) with c | c | c
      · rcases Nat.lt_or_eq_of_le (show j ≤ k by omega) with e | e
        · have := g3 j e; omega
        · subst e; omega
      · exact c
      · have := q3 (k + 1) c; omega
    subst hjk
    have m := partAt_ge tj (s := areaTo G (k + 1)) q1 q2
    have e := partAt_end (areaTo G k) G[k]
    rw [← areaTo_succ hk] at e
    unfold fle
    rw [hxe, e]
    show areaTo G (k + 1) * G[k].run * G[k + 1].run ≤ (partAt (areaTo G (k + 1)) G[k + 1] (G[k].b + 1)).1 * G[k].run
    rw [hxe] at m
    have := Int.mul_le_mul_of_nonneg_right m (show 0 ≤ G[k].run by have := tk.1; unfold Gs.run; omega)
    grind
theorem GrOk.mono {G : List Gs} (h : GrOk G) {x : Int} (h0 : fromP G ≤ x) : ∀ d : Nat, x + d ≤ toP G → fle (partP G x) (partP G (x + d))
  | 0, _ => by rw [show x + ((0 : Nat) : Int) = x by omega]; exact Int.le_refl _
  | d + 1, h1 => by
    have ih := h.mono h0 d (by omega)
    have := h.mono1 (x := x + d) (by omega) (by omega)
    rw [show x + ((d + 1 : Nat) : Int) = x + d + 1 by omega]
    exact fle_trans (h.den h0 (by omega)) (h.den (by omega) (by omega)) (h.den (by omega) (by omega)) ih this
theorem GrOk.le {G : List Gs} (h : GrOk G) {x y : Int} (h0 : fromP G ≤ x) (hxy : x ≤ y) (h1 : y ≤ toP G) : fle (partP G x) (partP G y) := by
  have := h.mono h0 (y - x).toNat (by omega)
  rwa [show x + ((y - x).toNat : Int) = y by omega] at this
/-- At most so much lies west of an X. -/
def leM (G : List Gs) (m x : Int) : Prop := (partP G x).1 ≤ m * (partP G x).2
theorem GrOk.leM_mono {G : List Gs} (h : GrOk G) {x y m n : Int} (h0 : fromP G ≤ x) (hxy : x ≤ y) (h1 : y ≤ toP G) (hmn : m ≤ n) (hy : leM G m y) : leM G n x := by
  unfold leM at *
  have hl : fle (partP G x) (partP G y) := h.le h0 hxy h1
  have d1 := h.den h0 (show x ≤ toP G by omega)
  have d2 := h.den (show fromP G ≤ y by omega) h1
  have m1 := Int.mul_le_mul_of_nonneg_right hy (Int.le_of_lt d1)
  have m2 := Int.mul_le_mul_of_nonneg_right hmn (Int.le_of_lt (Int.mul_pos d1 d2))
  unfold fle at hl
  apply Int.le_of_mul_le_mul_left (a := (partP G y).2) _ d2
  grind
theorem GrOk.part_from {G : List Gs} (h : GrOk G) : (partP G (fromP G)).1 = 0 := by
  have he := h.ends
  obtain ⟨k, hk, g1, g2, g3, g4⟩ := h.strip (x := fromP G) (Int.le_refl _) (by omega)
  have hk0 : k = 0 := by
    rcases Nat.eq_zero_or_pos k with c | c
    · exact c
    · have := g3 0 c
      have a := (h.each _ (List.getElem_mem h.ne)).1
      have := h.fromAt
      omega
  subst hk0
  rw [g4, show fromP G = G[0].a from h.fromAt]
  unfold partAt areaTo
  simp [isum]
/-- A cut: at most so much lies west of it, and of the next X more. -/
theorem cut_go_spec {G : List Gs} {m : Int} : ∀ (f : Nat) (lo hi : Int), lo ≤ hi → (hi - lo).toNat ≤ f → leM G m lo → (hi = toP G ∨ ¬ leM G m (hi + 1)) →
    leM G m (cutGo G m f lo hi) ∧ (cutGo G m f lo hi = toP G ∨ ¬ leM G m (cutGo G m f lo hi + 1))
  | 0, lo, hi, h, hf, h1, h2 => by
    obtain rfl : lo = hi := by omega
    exact ⟨h1, h2⟩
  | f + 1, lo, hi, h, hf, h1, h2 => by
    unfold cutGo
    split
    · rename_i hlt
      have hm : lo < lo + (hi - lo + 1).tdiv 2 ∧ lo + (hi - lo + 1).tdiv 2 ≤ hi := by
        rw [Int.tdiv_eq_ediv_of_nonneg (by omega)]; omega
      split
      · rename_i hc
        exact cut_go_spec f _ hi hm.2 (by omega) hc h2
      · rename_i hc
        refine cut_go_spec f lo _ (by omega) (by omega) h1 (.inr ?_)
        rw [Int.sub_add_cancel]; exact hc
    · rename_i hlt
      obtain rfl : lo = hi := by omega
      exact ⟨h1, h2⟩
theorem GrOk.cut {G : List Gs} (h : GrOk G) {m : Int} (hm : 0 ≤ m) : (fromP G ≤ cutP G m ∧ cutP G m ≤ toP G) ∧ leM G m (cutP G m) ∧ (cutP G m = toP G ∨ ¬ leM G m (cutP G m + 1)) := by
  have he := h.ends
  refine ⟨cut_go_in _ _ _ (by omega), ?_⟩
  refine cut_go_spec _ _ _ (by omega) (Nat.le_refl _) ?_ (.inl rfl)
  unfold leM
  rw [h.part_from]
  exact Int.mul_nonneg hm (by have := h.den (x := fromP G) (Int.le_refl _) (by omega); omega)
theorem GrOk.cut_mono {G : List Gs} (h : GrOk G) {m n : Int} (hm : 0 ≤ m) (hmn : m ≤ n) : cutP G m ≤ cutP G n := by
  obtain ⟨⟨a1, a2⟩, a3, _⟩ := h.cut hm
  obtain ⟨⟨b1, b2⟩, _, b4⟩ := h.cut (show 0 ≤ n by omega)
  apply Classical.byContradiction
  intro hn
  rcases b4 with e | e
  · omega
  · exact e (h.leM_mono (by omega) (show cutP G n + 1 ≤ cutP G m by omega) a2 hmn a3)
theorem lowest_pos {n : Int × Int} (h0 : 0 ≤ n.1) (h1 : 0 < n.2) : ∃ g : Int, 0 < g ∧ n.1 = (lowest n).1 * g ∧ n.2 = (lowest n).2 * g ∧ 0 ≤ (lowest n).1 ∧ 1 ≤ (lowest n).2 ∧ (lowest n).2 ≤ n.2 ∧ (lowest n).1 ≤ n.1 := by
  obtain ⟨p, q⟩ := n
  simp only at h0 h1
  obtain ⟨a, rfl⟩ := Int.eq_ofNat_of_zero_le h0
  obtain ⟨b, rfl⟩ := Int.eq_ofNat_of_zero_le (Int.le_of_lt h1)
  have hb : 0 < b := by omega
  have hg : 0 < Nat.gcd a b := Nat.gcd_pos_of_pos_right _ hb
  refine ⟨(Nat.gcd a b : Nat), by omega, ?_⟩
  unfold lowest
  simp only [Int.toNat_natCast]
  rw [← Int.ofNat_tdiv, ← Int.ofNat_tdiv]
  have e1 : a / Nat.gcd a b * Nat.gcd a b = a := Nat.div_mul_cancel (Nat.gcd_dvd_left a b)
  have e2 : b / Nat.gcd a b * Nat.gcd a b = b := Nat.div_mul_cancel (Nat.gcd_dvd_right a b)
  have e3 : 0 < b / Nat.gcd a b := Nat.div_pos (Nat.le_of_dvd hb (Nat.gcd_dvd_right a b)) hg
  have e4 := Nat.div_le_self b (Nat.gcd a b)
  have e5 := Nat.div_le_self a (Nat.gcd a b)
  obtain ⟨q, hq⟩ : ∃ q, a / Nat.gcd a b = q := ⟨_, rfl⟩
  obtain ⟨r, hr⟩ : ∃ q, b / Nat.gcd a b = q := ⟨_, rfl⟩
  obtain ⟨g, hgg⟩ : ∃ q, Nat.gcd a b = q := ⟨_, rfl⟩
  rw [hq, hgg] at e1
  rw [hr, hgg] at e2
  rw [hr] at e3 e4
  rw [hq] at e5
  rw [hq, hr, hgg]
  have e6 : (a : Int) = (q : Int) * (g : Int) := by rw [← Int.natCast_mul, e1]
  have e7 : (b : Int) = (r : Int) * (g : Int) := by rw [← Int.natCast_mul, e2]
  exact ⟨e6, e7, by omega, by omega, by omega, by omega⟩
/-- As the law compares: a fraction in lowest terms is at most a number. -/
theorem lowest_le {n : Int × Int} (h0 : 0 ≤ n.1) (h1 : 0 < n.2) (m : Int) : (lowest n).1 ≤ m * (lowest n).2 ↔ n.1 ≤ m * n.2 := by
  obtain ⟨g, hg, e1, e2, _⟩ := lowest_pos h0 h1
  constructor
  · intro h
    have := Int.mul_le_mul_of_nonneg_right h (Int.le_of_lt hg)
    rw [e1, e2]
    grind
  · intro h
    rw [e1, e2] at h
    refine Int.le_of_mul_le_mul_right (a := g) ?_ hg
    grind
end Go.Proofs.YthjmkmjojlfejaaGreat

namespace Go.Proofs.YthjmkmjojlfejaaGreat
theorem sumN_ind (g : Nat → Int) (p : Nat) : ∀ n, sumN (fun i => if p = i then g i else 0) n = if p < n then g p else 0
  | 0 => by simp [sumN]
  | n + 1 => by
    simp only [sumN]
    rw [sumN_ind g p n]
    by_cases e : p = n
    · subst e; simp
    · rw [if_neg e]
      by_cases h : p < n
      · rw [if_pos h, if_pos (by omega)]; omega
      · rw [if_neg h, if_neg (by omega)]; rfl
theorem form_addAt {l : List Int} (y : List Int) {p : Nat} (d : Int) (hp : p < l.length) : formP (addAt l p d) y = formP l y + d * y.getD p 0 := by
  unfold formP
  rw [addAt_len]
  have e : ∀ i, i < l.length → (addAt l p d).getD i 0 * y.getD i 0 = l.getD i 0 * y.getD i 0 + (if p = i then d * y.getD i 0 else 0) := by
    intro i hi
    rw [addAt_get]
    by_cases h : p = i
    · rw [if_pos ⟨h, hp⟩, if_pos h, Int.add_mul]
    · rw [if_neg (fun q => h q.1), if_neg h]; simp
  rw [sumN_congr e, sumN_add, sumN_ind (fun i => d * y.getD i 0) p, if_pos hp]
theorem form_wStep {l y : List Int} {s : Str} (h1 : s.so.toNat < l.length) (h2 : s.no.toNat < l.length) (h3 : s.fso.toNat < l.length) (h4 : s.fno.toNat < l.length) :
    formP (wStep l s) y = formP l y + (gsOf y s).area := by
  unfold wStep
  rw [form_addAt _ _ (by simp only [addAt_len]; exact h4), form_addAt _ _ (by simp only [addAt_len]; exact h2), form_addAt _ _ (by simp only [addAt_len]; exact h3), form_addAt _ _ h1]
  show _ = _ + (s.east - s.west) * ((y.getD s.no.toNat 0 - y.getD s.so.toNat 0) + (y.getD s.fno.toNat 0 - y.getD s.fso.toNat 0))
  show _ + -(s.east - s.west) * _ + -(s.east - s.west) * _ + (s.east - s.west) * _ + (s.east - s.west) * _ = _
  grind
theorem form_zeros (n : Nat) (y : List Int) : formP (List.replicate n 0) y = 0 := by
  unfold formP
  refine sumN_zero fun i hi => ?_
  have : (List.replicate n (0 : Int)).getD i 0 = 0 := by
    simp only [List.getD_eq_getElem?_getD, List.getElem?_replicate]
    split <;> rfl
  rw [this]; simp
theorem form_strips {y : List Int} {N : Nat} : ∀ (ss : List Str) (l : List Int), l.length = N → (∀ s ∈ ss, s.so.toNat < N ∧ s.no.toNat < N ∧ s.fso.toNat < N ∧ s.fno.toNat < N) → formP (ss.foldl wStep l) y = formP l y + isum ((ss.map (gsOf y)).map Gs.area)
  | [], l, _, _ => by simp [isum]
  | s :: ss, l, hl, h => by
    obtain ⟨h1, h2, h3, h4⟩ := h s (List.mem_cons_self ..)
    rw [List.foldl_cons, form_strips ss _ (by rw [wStep_len]; exact hl) (fun t ht => h t (List.mem_cons_of_mem _ ht)), form_wStep (by omega) (by omega) (by omega) (by omega)]
    simp only [List.map_cons, isum]
    omega
theorem strip_lt {F : Fld} {p : Par} (hp : p.inside F) : ∀ s ∈ stripsP F p, s.so.toNat < F.points.toNat ∧ s.no.toNat < F.points.toNat ∧ s.fso.toNat < F.points.toNat ∧ s.fno.toNat < F.points.toNat := by
  intro s hs
  obtain ⟨k, hk, rfl⟩ := List.getElem_of_mem hs
  rw [stripsP_get F p hk]
  have hk2 : k < (p.est - p.wst).toNat := by rw [stripsP, stripsTo_len] at hk; exact hk
  obtain ⟨_, _, q3, q4, q5⟩ := id hp
  obtain ⟨a, b, c, d⟩ := strip_pts hp (s := p.wst.toNat + k) (by omega)
  omega
/-- The doubled area of a parcel: the form of its weights, and the sum of its strips. -/
theorem form_area (F : Fld) (y : List Int) {p : Par} (hp : p.inside F) : formP (weightsOf F p) y = areaTo (grP F y p) (grP F y p).length := by
  unfold weightsOf
  rw [form_strips _ _ (List.length_replicate ..) (strip_lt hp), form_zeros]
  unfold areaTo grP
  rw [List.take_length]
  omega
theorem whole_area {F : Fld} {y : List Int} {i : Int} (h : uprightE F y i = 0) : area2E F i y = (wholeP (grP F y (F.par i)), 0) := by
  obtain ⟨h1, h2, h3, h4, h5⟩ := upright_ok h
  unfold area2E
  rw [if_neg (by omega), if_neg (by rw [h2]; simp), h3.whole, form_area F y h4]
theorem whole_bd {G : List Gs} (h : GrOk G) : 0 ≤ wholeP G ∧ wholeP G ≤ 2400000000000 := by
  have := areaTo_bd h.each G.length (Nat.le_refl _)
  have hs := h.short
  rw [h.whole]
  omega
theorem west_in {F : Fld} {y : List Int} {i x : Int} (h : uprightE F y i = 0) (h0 : fromP (grP F y (F.par i)) ≤ x) (h1 : x ≤ toP (grP F y (F.par i))) : westE F y i x = (lowest (partP (grP F y (F.par i)) x), 0) := by
  unfold westE
  rw [if_neg (by omega), if_neg (by unfold inR; simp; omega)]
theorem low_bd {G : List Gs} (h : GrOk G) {x : Int} (h0 : fromP G ≤ x) (h1 : x ≤ toP G) : (0 ≤ (lowest (partP G x)).1 ∧ (lowest (partP G x)).1 ≤ 400000000000000000) ∧ 1 ≤ (lowest (partP G x)).2 ∧ (lowest (partP G x)).2 ≤ 100000 := by
  obtain ⟨p1, p2, p3, p4⟩ := h.part_bd h0 h1
  obtain ⟨g, hg, e1, e2, e3, e4, e5, e6⟩ := lowest_pos p1 (show 0 < (partP G x).2 by omega)
  omega
/-- A cut, in the fractions that West returns. -/
theorem cut_west {G : List Gs} (h : GrOk G) {m : Int} (hm : 0 ≤ m) : (lowest (partP G (cutP G m))).1 ≤ m * (lowest (partP G (cutP G m))).2 ∧ (cutP G m = toP G ∨ m * (lowest (partP G (cutP G m + 1))).2 < (lowest (partP G (cutP G m + 1))).1) := by
  obtain ⟨⟨h1, h2⟩, h3, h4⟩ := h.cut hm
  have he := h.ends
  have b := h.part_bd h1 h2
  refine ⟨(lowest_le b.1 (by omega) m).2 h3, ?_⟩
  rcases h4 with e | e
  · exact .inl e
  · by_cases e2 : cutP G m = toP G
    · exact .inl e2
    · have b2 := h.part_bd (x := cutP G m + 1) (by omega) (by omega)
      refine .inr (Int.not_le.1 fun hl => e ((lowest_le b2.1 (by omega) m).1 hl))
end Go.Proofs.YthjmkmjojlfejaaGreat

namespace Go.Proofs.YthjmkmjojlfejaaGreat
open Go Go.RowKit Go.Shelf
set_option maxRecDepth 100000 in
set_option maxHeartbeats 4000000 in
theorem most_any (w : World) (a b n : Int) (hb : 1 ≤ b) (hb2 : b ≤ 100000) (hn : -2400000000000 ≤ n ∧ n ≤ 2400000000000) :
    Calls Tryz.prog 38 #[.agg #[.int .i64 a, .int .i64 b], .int .i64 n] w fun e w' => e = .returned (.bool (decide (a ≤ n * b))) ∧ Below w.heap.size w w' := by
  obtain ⟨W, hW⟩ : ∃ W, W = w.alloc (.cells #[.int .i64 a, .int .i64 b] 49) := ⟨_, rfl⟩
  have B0 := hidE (show Below w.heap.size w W by rw [hW]; exact (Below.refl _ _).alloc (Nat.le_refl _) _)
  have x0 : W.heap[w.heap.size]? = some (.cells #[.int .i64 a, .int .i64 b] 49 (0,0)) := by rw [hW]; exact heap_alloc_new _ _
  have f0 : W.cell? ⟨w.heap.size, 0, none⟩ = some (.int .i64 a) := by rw [cell_of_row _ _ _ _ _ _ x0]; rfl
  have f1 : W.cell? ⟨w.heap.size, 1, none⟩ = some (.int .i64 b) := by rw [cell_of_row _ _ _ _ _ _ x0]; rfl
  have m := mul_bd (a := n) (b := b) (A := 2400000000000) (B := 100000) hn.1 hn.2 (by omega) (by omega)
  obtain ⟨p, hp⟩ : ∃ p, n * b = p := ⟨_, rfl⟩
  rw [hp] at m ⊢
  have wp : IntKind.i64.wrap p = p := IntWalk.i64_in _ (by omega)
  have d0 : decide (b > 0) = true := by simp; omega
  have d0' : decide (0 < b) = true := by simp; omega
  clear x0 m hn hb hb2
  go_enter Tryz.func38, Tryz.ntmps38
  go_upto_region 1 with fail
  rw [← hW]
  clear hW
  go_wp2_with fail
  go_ret
  exact ⟨rfl, B0.out⟩
end Go.Proofs.YthjmkmjojlfejaaGreat

namespace Go.Proofs.YthjmkmjojlfejaaGreat
open Go Go.RowKit Go.Shelf
theorem own_later {w w' : World} {base : Nat} {e : TypeId} {k : Nat} {v : Value} {n : Nat} {cs : List Value} (h : w.ownsRow base e k v n cs) (hb : Below w.heap.size w w') : w'.ownsRow base e k v n cs := by
  rcases h with ⟨h1, h2 | ⟨gb, cp, cur, e1, e2, hh, e3⟩⟩
  · exact ⟨h1, .inl h2⟩
  · exact ⟨h1, .inr ⟨gb, cp, cur, e1, e2, blk_below hb (lt_of_block hh) hh, e3⟩⟩
end Go.Proofs.YthjmkmjojlfejaaGreat

namespace Go.Proofs.YthjmkmjojlfejaaGreat
open Go Go.RowKit Go.Shelf
theorem owns_cap {W : World} {base : Nat} {v : Value} {l : List Int} (h : W.ownsRow base 3 1 v l.length (intsV l)) : ∃ o c, v = .slice o l.length c ∧ IntsAt W o l ∧ l.length ≤ c := by
  obtain ⟨o, c, e, hi, _⟩ := intsAt_of_owns h
  refine ⟨o, c, e, hi, ?_⟩
  rcases h.2 with ⟨e2, h0⟩ | ⟨gb, cp, cur, e2, _, hh, hn, _⟩
  · rw [e2] at e
    simp only [Value.slice.injEq] at e
    omega
  · rw [e2] at e
    simp only [Value.slice.injEq] at e
    omega
set_option maxRecDepth 100000 in
set_option maxHeartbeats 8000000 in
theorem divideE_any (w : World) (x : FV) (F : Fld) (i : Int) (a2 : Option Addr) (cap2 : Nat) (y : List Int) (a3 : Option Addr) (cap3 : Nat) (parts : List Int) (hy : y.length ≤ 9223372036854775807) (hl : parts.length ≤ 9223372036854775807) (h : FldAt w x F) (h2 : IntsAt w a2 y) (h3 : IntsAt w a3 parts) :
    Calls Tryz.prog 47 #[x.val F, .slice a2 y.length cap2, .int .i64 i, .slice a3 parts.length cap3] w fun e w' => ListErr (divideE F y i parts).1 (divideE F y i parts).2 w.heap.size e w' ∧ Below w.heap.size w w' := by
  obtain ⟨W0, hW0⟩ : ∃ W0, W0 = w.alloc (.cells (x.arr F) 46) := ⟨_, rfl⟩
  have B0 := hidE (show Below w.heap.size w W0 by rw [hW0]; exact (Below.refl _ _).alloc (Nat.le_refl _) _)
  have x0 : W0.heap[w.heap.size]? = some (.cells (x.arr F) 46 (0,0)) := by rw [hW0]; exact heap_alloc_new _ _
  have f0 : W0.cell? ⟨w.heap.size, 0, none⟩ = some (.slice x.aS F.sts.length x.cS) := by rw [cell_of_row _ _ _ _ _ _ x0]; rfl
  have f1 : W0.cell? ⟨w.heap.size, 1, none⟩ = some (.slice x.aL F.lms.length x.cL) := by rw [cell_of_row _ _ _ _ _ _ x0]; rfl
  have f2 : W0.cell? ⟨w.heap.size, 2, none⟩ = some (.slice x.aP F.prs.length x.cP) := by rw [cell_of_row _ _ _ _ _ _ x0]; rfl
  have f3 : W0.cell? ⟨w.heap.size, 3, none⟩ = some (.slice x.aV F.vrs.length x.cV) := by rw [cell_of_row _ _ _ _ _ _ x0]; rfl
  have HUP := hidE (upright_any W0 x F i a2 cap2 y hy (h.below B0.out) (h2.below B0.out (Nat.le_refl _)))
  have H3 := hidE (h3.below B0.out (Nat.le_refl _))
  obtain ⟨Q, hQ⟩ : ∃ z, divideE F y i parts = z := ⟨_, rfl⟩
  rw [hQ]
  have HW0 := hidE hW0
  clear x0 h h2 h3
  unfold FV.val at HUP ⊢
  unfold FV.arr at HUP hW0 ⊢
  by_cases hz : uprightE F y i = 0
  · obtain ⟨u1, u2, hgr, u4, u5⟩ := upright_ok hz
    obtain ⟨G, hG⟩ : ∃ G, grP F y (F.par i) = G := ⟨_, rfl⟩
    rw [hG] at hgr
    have HGG := hidE hG
    have HZZ := hidE hz
    unfold divideE at hQ
    rw [if_neg (by omega), hG] at hQ
    have hwb := whole_bd hgr
    obtain ⟨WH, hWH⟩ : ∃ z, wholeP G = z := ⟨_, rfl⟩
    rw [hWH] at hQ hwb
    have HGR := hidE hgr
    have HQ := hidE hQ
    have HWH := hidE hWH
    clear hz u1 u2 u4 u5 hG hgr hQ hWH
    go_enter Tryz.func47, Tryz.ntmps47
    go_upto_region 1 with fail
    first | rw [← hW0] | skip
    clear hW0
    go_wp2_with fail
    refine HUP.out.mono ?_
    rintro e w1 ⟨hp, hb1⟩
    obtain ⟨gb, rfl, hgb, hga⟩ := hp.ok HZZ.out
    rw [HGG.out] at hga
    have B1 := hidE (B0.out.trans (hb1.mono B0.out.size))
    have HGA := hidE hga
    have H31 := hidE (H3.out.below hb1 (Nat.le_refl _))
    have HWO := hidE (by have := whole_any w1 gb _ G hga HGR.out; rw [HWH.out] at this; exact this)
    clear hb1 HUP hga hp f0 f1 f2 f3 H3
    go_wp2_with fail
    refine HWO.out.mono ?_
    rintro e w2 ⟨rfl, hb2⟩
    have B2 := hidE (B1.out.trans (hb2.mono B1.out.size))
    have HGA2 := hidE (HGA.out.below hb2)
    have HSH := hidE (sharesE_any w2 WH a3 cap3 parts hl (H31.out.below hb2 (Nat.le_refl _)))
    clear hb2 HWO HGA
    go_wp2_with fail
    refine HSH.out.mono ?_
    rintro e w3 ⟨⟨v3, rfl, ho3⟩, hb3⟩
    have B3 := hidE (B2.out.trans (hb3.mono B2.out.size))
    have HGA3 := hidE (HGA2.out.below hb3)
    clear hb3 HSH HGA2 H31
    by_cases hze : checkSharesP WH parts = 0
    · obtain ⟨q1, q2, q3, q4⟩ := checkShares_ok hze
      have hE : sharesE WH parts = (sharesP WH parts, 0) := by unfold sharesE; rw [if_pos hze]
      have hQ2 := HQ.out
      rw [hE] at ho3 hQ2
      rw [hE]
      rw [if_neg (by simp)] at hQ2
      have hlen := sharesP_len WH parts
      have hsum := sharesP_sum q4
      have hnn := shares_nonneg q4
      obtain ⟨L, hL⟩ : ∃ L, sharesP WH parts = L := ⟨_, rfl⟩
      rw [hL] at ho3 hQ2 hlen hsum hnn ⊢
      have HTK := hidE (fun k => isum_take_le hnn k)
      have HNN := hidE (fun k => isum_nonneg (l := L.take k) (fun x hx => hnn x (List.mem_of_mem_take hx)))
      rw [hsum] at HTK
      obtain ⟨o, c, rfl, hia, hcap⟩ := owns_cap ho3
      have HIA := hidE hia
      rw [← hlen] at hQ2
      obtain ⟨n, hn⟩ : ∃ n, L.length = n := ⟨_, rfl⟩
      have hn50 : n ≤ 50 := by omega
      have HN := hidE hn
      rw [hn] at hQ2 hcap ⊢
      have HQ2 := hidE hQ2
      obtain ⟨K, hK⟩ : ∃ K, n - 1 = K := ⟨_, rfl⟩
      rw [hK] at HQ2
      have hKn : K ≤ n := by omega
      have hKc : K ≤ c := by omega
      have hw1 : IntKind.i64.wrap ((n : Int) - 1) = (n : Int) - 1 := IntWalk.i64_in _ (by omega)
      have hmx : max (0 : Int) ((n : Int) - 1) = (K : Int) := by omega
      have HCU := hidE (fun (W : World) (m : Int) (hb : Below w3.heap.size w3 W) (h0 : 0 ≤ m) (h1 : m ≤ WH) => cut_any W gb _ G m (HGA3.out.below hb) HGR.out h0 (by omega))
      have HKK := hidE hK
      clear hE q1 q2 q3 q4 hze ho3 hlen hsum hnn hL hia hn hQ2 hK HQ
      go_wp2_with fail
      go_loopw [13, 14, 44] (fun v t i wr => ∃ k : Nat, k ≤ K ∧ i = .int .i64 k ∧ t = .int .i64 (isum (L.take k)) ∧ Hid (wr.ownsRow w3.heap.size 3 1 v (cutsTo G L k).length (intsV (cutsTo G L k))) ∧ Hid (Below w3.heap.size w3 wr)) (fun _ _ i _ => K - (intOf i).toNat)
      case atStart => exact ⟨0, Nat.zero_le _, rfl, by simp [isum], hidE (World.ownsRow_nil _ _ _ _), hidE (Below.refl _ _)⟩
      case round =>
        obtain ⟨k, hk, rfl, rfl, HO, HBB⟩ := hrel
        obtain ⟨wx, rfl⟩ : ∃ x : World, x = wr := ⟨wr, rfl⟩
        by_cases hlt : k < K
        · have hkL : k < L.length := by rw [HN.out]; omega
          obtain ⟨b, off, rfl, hbl, hc⟩ := HIA.out.at hkL
          rw [← HBB.out.cell hbl] at hc
          have hst := isum_take L hkL
          have t0 := HNN.out k
          have t1 := HNN.out (k + 1)
          have t2 := HTK.out k
          have t3 := HTK.out (k + 1)
          obtain ⟨q, hq⟩ : ∃ q, L[k]'hkL = q := ⟨_, rfl⟩
          obtain ⟨s0, hs0⟩ : ∃ s, isum (L.take k) = s := ⟨_, rfl⟩
          obtain ⟨s1, hs1⟩ : ∃ s, isum (L.take (k + 1)) = s := ⟨_, rfl⟩
          rw [hq] at hc hst
          rw [hs0] at hst t0 t2 ⊢
          rw [hs1] at hst t1 t3
          have HSS := hidE (cutsTo_succ G L k)
          rw [hs1] at HSS
          have HS1 := hidE hs1
          subst hst
          have hws : IntKind.i64.wrap (s0 + q) = s0 + q := IntWalk.i64_in _ (by omega)
          have HC1 := hidE (HCU.out wx (s0 + q) HBB.out t1 t3)
          have HLT := hidE hlt
          clear hq hs0 hs1 t0 t2
          go_wp2_with fail
          refine HC1.out.mono ?_
          rintro e w5 ⟨rfl, hb5⟩
          have HO5 := hidE (own_later HO.out hb5)
          have HB5 := hidE (HBB.out.trans (hb5.mono HBB.out.size))
          clear hb5 HC1
          obtain ⟨v5, wa, hrun1, own5, hb1, _⟩ := append_int HO5.out (cutP G (s0 + q)) (by rw [cutsTo_len]; omega) HB5.out.size
          have HRUN1 := hidE hrun1
          have HO6 := hidE own5
          have HB6 := hidE (HB5.out.trans hb1)
          clear hrun1 own5 hb1 HO5
          go_wp2_with (at_builtin; (refine wpList_op_append rfl (s := .tmp 51) (x := .tmp 55) (t := 25) rfl rfl rfl HRUN1.out ?_))
          go_roundw
          case rel => exact ⟨k + 1, HLT.out, by go_num, by rw [HS1.out], hidE (by rw [HSS.out]; exact HO6.out), HB6⟩
          case measure => have := HLT.out; simp [intOf]; omega
        · obtain rfl : k = K := by omega
          go_wp2_with fail
          go_ret2
          rw [← HQ2.out]
          exact ⟨⟨_, rfl, HO.out.mono B3.out.size⟩, B3.out.trans (HBB.out.mono B3.out.size)⟩
    · have hE : sharesE WH parts = ([], checkSharesP WH parts) := by unfold sharesE; rw [if_neg hze]
      have hQ2 := HQ.out
      rw [hE] at hQ2 ⊢
      rw [if_pos hze] at hQ2
      obtain ⟨E, hEE⟩ : ∃ E, checkSharesP WH parts = E := ⟨_, rfl⟩
      rw [hEE] at hQ2 hze ⊢
      subst hQ2
      have hz3 : (E != 0) = true := by simpa using hze
      clear hE hze hEE HQ ho3
      go_wp2_with fail
      go_ret2
      exact ⟨⟨.slice none 0 0, rfl, World.ownsRow_nil _ _ _ _⟩, B3.out⟩
  · unfold divideE at hQ
    rw [if_pos hz] at hQ
    obtain ⟨E, hE⟩ : ∃ E, uprightE F y i = E := ⟨_, rfl⟩
    rw [hE] at hQ hz
    subst hQ
    have hz3 : (E != 0) = true := by simpa using hz
    have HE := hidE hE
    have HZ := hidE hz
    clear hE hz
    go_enter Tryz.func47, Tryz.ntmps47
    go_upto_region 1 with fail
    first | rw [← hW0] | skip
    clear hW0
    go_wp2_with fail
    refine HUP.out.mono ?_
    rintro e w1 ⟨hp, hb1⟩
    obtain rfl := hp.err HE.out HZ.out
    have B1 := hidE (B0.out.trans (hb1.mono B0.out.size))
    clear hb1 HUP hp f0 f1 f2 f3
    go_wp2_with fail
    go_ret2
    exact ⟨⟨.slice none 0 0, rfl, World.ownsRow_nil _ _ _ _⟩, B1.out⟩
end Go.Proofs.YthjmkmjojlfejaaGreat

namespace Go.Proofs.YthjmkmjojlfejaaGreat
theorem isum_take_step {S : List Int} (h : ∀ x ∈ S, 0 ≤ x) {k : Nat} : isum (S.take k) ≤ isum (S.take (k + 1)) ∧ isum (S.take k) ≤ isum S := by
  constructor
  · by_cases hk : k < S.length
    · rw [isum_take S hk]
      have := h _ (List.getElem_mem hk)
      omega
    · rw [List.take_of_length_le (by omega), List.take_of_length_le (by omega)]; exact Int.le_refl _
  · have e : isum S = isum (S.take k) + isum (S.drop k) := by rw [← isum_append, List.take_append_drop]
    have := isum_nonneg (l := S.drop k) fun x hx => h x (List.mem_of_mem_drop hx)
    omega
end Go.Proofs.YthjmkmjojlfejaaGreat

namespace Go.Proofs.YthjmkmjojlfejaaGreat
open Go Go.RowKit Go.Shelf
/-- A field of few stakes, marks, parcels and variations. -/
def plainP (F : Fld) : Bool := decide (F.sts.length ≤ 14) && decide (F.lms.length ≤ 12) && decide (F.prs.length ≤ 42) && decide (F.vrs.length ≤ 42)
set_option maxHeartbeats 4000000 in
theorem plain_any (w : World) (x : FV) (F : Fld) (h1 : F.sts.length ≤ 9223372036854775807) (h2 : F.lms.length ≤ 9223372036854775807) (h3 : F.prs.length ≤ 9223372036854775807) (h4 : F.vrs.length ≤ 9223372036854775807) :
    Calls Tryz.prog 33 #[x.val F] w fun e w' => e = .returned (.bool (plainP F)) ∧ Below w.heap.size w w' := by
  have B0 := hidE (show Below w.heap.size w (w.alloc (.cells (x.arr F) 46)) from (Below.refl _ _).alloc (Nat.le_refl _) _)
  obtain ⟨P, hP⟩ : ∃ P, plainP F = P := ⟨_, rfl⟩
  rw [hP]
  unfold plainP at hP
  unfold FV.val FV.arr at *
  obtain ⟨n1, e1⟩ : ∃ n, F.sts.length = n := ⟨_, rfl⟩
  obtain ⟨n2, e2⟩ : ∃ n, F.lms.length = n := ⟨_, rfl⟩
  obtain ⟨n3, e3⟩ : ∃ n, F.prs.length = n := ⟨_, rfl⟩
  obtain ⟨n4, e4⟩ : ∃ n, F.vrs.length = n := ⟨_, rfl⟩
  rw [e1] at h1 hP B0 ⊢
  rw [e2] at h2 hP B0 ⊢
  rw [e3] at h3 hP B0 ⊢
  rw [e4] at h4 hP B0 ⊢
  clear e1 e2 e3 e4
  by_cases c1 : n1 ≤ 14
  rotate_left
  · have d1 : decide ((n1 : Int) ≤ 14) = false := by simp; omega
    have g1 : decide (n1 ≤ 14) = false := by simp; omega
    have HP := hidE (show false = P by rw [← hP, g1]; simp)
    clear hP
    go_enter Tryz.func33, Tryz.ntmps33
    go_wp2_with fail
    go_ret
    exact ⟨by rw [← HP.out]; rfl, B0.out⟩
  have d1 : decide ((n1 : Int) ≤ 14) = true := by simp; omega
  have g1 : decide (n1 ≤ 14) = true := by simp; omega
  by_cases c2 : n2 ≤ 12
  rotate_left
  · have d2 : decide ((n2 : Int) ≤ 12) = false := by simp; omega
    have g2 : decide (n2 ≤ 12) = false := by simp; omega
    have HP := hidE (show false = P by rw [← hP, g2]; simp)
    clear hP
    go_enter Tryz.func33, Tryz.ntmps33
    go_wp2_with fail
    go_ret
    exact ⟨by rw [← HP.out]; rfl, B0.out⟩
  have d2 : decide ((n2 : Int) ≤ 12) = true := by simp; omega
  have g2 : decide (n2 ≤ 12) = true := by simp; omega
  by_cases c3 : n3 ≤ 42
  rotate_left
  · have d3 : decide ((n3 : Int) ≤ 42) = false := by simp; omega
    have g3 : decide (n3 ≤ 42) = false := by simp; omega
    have HP := hidE (show false = P by rw [← hP, g3]; simp)
    clear hP
    go_enter Tryz.func33, Tryz.ntmps33
    go_wp2_with fail
    go_ret
    exact ⟨by rw [← HP.out]; rfl, B0.out⟩
  have d3 : decide ((n3 : Int) ≤ 42) = true := by simp; omega
  have g3 : decide (n3 ≤ 42) = true := by simp; omega
  by_cases c4 : n4 ≤ 42
  rotate_left
  · have d4 : decide ((n4 : Int) ≤ 42) = false := by simp; omega
    have g4 : decide (n4 ≤ 42) = false := by simp; omega
    have HP := hidE (show false = P by rw [← hP, g4]; simp)
    clear hP
    go_enter Tryz.func33, Tryz.ntmps33
    go_wp2_with fail
    go_ret
    exact ⟨by rw [← HP.out]; rfl, B0.out⟩
  have d4 : decide ((n4 : Int) ≤ 42) = true := by simp; omega
  have g4 : decide (n4 ≤ 42) = true := by simp; omega
  have HP := hidE (show true = P by rw [← hP, g1, g2, g3, g4]; simp)
  clear hP
  go_enter Tryz.func33, Tryz.ntmps33
  go_wp2_with fail
  go_ret
  exact ⟨by rw [← HP.out]; rfl, B0.out⟩
end Go.Proofs.YthjmkmjojlfejaaGreat

namespace Go.Proofs.YthjmkmjojlfejaaGreat
open Go Go.RowKit Go.Shelf
/-- What Divide returns, for the law. -/
structure DivLaw (F : Fld) (y : List Int) (i : Int) (parts D S : List Int) (WH fr tt : Int) (LP : Int → Int × Int) : Prop where
  area : area2E F i y = (WH, 0)
  sh : sharesE WH parts = (S, 0)
  sl : S.length = parts.length
  small : parts.length ≤ 50
  dl : D.length = parts.length - 1
  wh : 0 ≤ WH ∧ WH ≤ 2400000000000
  sb : ∀ k, 0 ≤ isum (S.take k) ∧ isum (S.take k) ≤ WH
  west : ∀ k, k < D.length → westE F y i (D.getD k 0) = (LP (D.getD k 0), 0)
  low : ∀ k, k < D.length → 1 ≤ (LP (D.getD k 0)).2 ∧ (LP (D.getD k 0)).2 ≤ 100000
  most : ∀ k, k < D.length → (LP (D.getD k 0)).1 ≤ isum (S.take (k + 1)) * (LP (D.getD k 0)).2
  up : ∀ k, k + 1 < D.length → D.getD k 0 ≤ D.getD (k + 1) 0
theorem div_ok {F : Fld} {y : List Int} {i : Int} {parts : List Int} (h : (divideE F y i parts).2 = 0) : ∃ S WH fr tt LP, DivLaw F y i parts (divideE F y i parts).1 S WH fr tt LP := by
  unfold divideE at h ⊢
  split at h
  · rename_i h1; exact absurd h h1
  · rename_i h1
    rw [if_neg h1]
    split at h
    · rename_i h2; exact absurd h h2
    · rename_i h2
      rw [if_neg h2]
      have hu := Classical.not_not.1 h1
      obtain ⟨_, _, hgr, _, _⟩ := upright_ok hu
      have harea := whole_area hu
      have hwin := fun v => west_in (x := v) hu
      have hwb := whole_bd hgr
      obtain ⟨G, hG⟩ : ∃ G, grP F y (F.par i) = G := ⟨_, rfl⟩
      rw [hG] at h2 hgr harea hwin hwb ⊢
      obtain ⟨WH, hWH⟩ : ∃ z, wholeP G = z := ⟨_, rfl⟩
      rw [hWH] at h2 harea hwb ⊢
      have hz : checkSharesP WH parts = 0 := by
        by_cases e : checkSharesP WH parts = 0
        · exact e
        · unfold sharesE at h2; rw [if_neg e] at h2; exact absurd e h2
      obtain ⟨q1, q2, q3, q4⟩ := checkShares_ok hz
      have hE : sharesE WH parts = (sharesP WH parts, 0) := by unfold sharesE; rw [if_pos hz]
      rw [hE]
      have hsum := sharesP_sum q4
      have hnn := shares_nonneg q4
      have hlen := sharesP_len WH parts
      obtain ⟨S, hS⟩ : ∃ L, sharesP WH parts = L := ⟨_, rfl⟩
      rw [hS] at hE hsum hnn hlen ⊢
      have hsb : ∀ k, 0 ≤ isum (S.take k) ∧ isum (S.take k) ≤ WH := fun k => ⟨isum_nonneg (fun x hx => hnn x (List.mem_of_mem_take hx)), by have := isum_take_le hnn k; omega⟩
      have hg : ∀ k, k < (cutsTo G S (parts.length - 1)).length → (cutsTo G S (parts.length - 1)).getD k 0 = cutP G (isum (S.take (k + 1))) := by
        intro k hk
        rw [cutsTo_len] at hk
        simp [cutsTo, List.getD_eq_getElem?_getD, hk]
      refine ⟨S, WH, fromP G, toP G, fun v => lowest (partP G v), harea, hE, hlen, q1, cutsTo_len _ _ _, hwb, hsb, fun k hk => ?_, fun k hk => ?_, fun k hk => ?_, fun k hk => ?_⟩
      · rw [hg k hk]
        obtain ⟨⟨a, b⟩, _⟩ := hgr.cut (hsb (k + 1)).1
        exact hwin _ a b
      · rw [hg k hk]
        obtain ⟨⟨a, b⟩, _⟩ := hgr.cut (hsb (k + 1)).1
        exact (low_bd hgr a b).2
      · rw [hg k hk]
        exact (cut_west hgr (hsb (k + 1)).1).1
      · have hk2 : k + 1 < (cutsTo G S (parts.length - 1)).length := hk
        rw [hg k (by omega), hg (k + 1) hk2]
        refine hgr.cut_mono (hsb (k + 1)).1 ?_
        exact (isum_take_step hnn (k := k + 1)).1
theorem div_err {F : Fld} {y : List Int} {i : Int} {parts : List Int} (h : (divideE F y i parts).2 ≠ 0) : (divideE F y i parts).1 = [] := by
  unfold divideE at h ⊢
  split
  · rfl
  · rename_i h1
    rw [if_neg h1] at h
    split
    · rfl
    · rename_i h2
      rw [if_neg h2] at h; exact absurd rfl h
set_option maxRecDepth 100000 in
set_option maxHeartbeats 64000000 in
theorem areaDivides_of (hal : AliveOk) (w : World) (x : FV) (F : Fld) (a : Option Addr) (cap : Nat) (y : List Int) (i : Int) (a3 : Option Addr) (cap3 : Nat) (parts : List Int) (hF : FldAt w x F) (hy : y.length ≤ 9223372036854775807) (h2 : IntsAt w a y) (hl : parts.length ≤ 9223372036854775807) (h3 : IntsAt w a3 parts) :
    Calls Tryz.prog 11 #[x.val F, .slice a y.length cap, .int .i64 i, .slice a3 parts.length cap3] w fun e w' => e = .returned (.bool true) ∧ Below w.heap.size w w' := by
  have HAL := hidE hal
  obtain ⟨W0, hW0⟩ : ∃ W0, W0 = w.alloc (.cells (x.arr F) 46) := ⟨_, rfl⟩
  have BB0 : Hid (Below w.heap.size w W0) := hidE (by rw [hW0]; exact (Below.refl _ _).alloc (Nat.le_refl _) _)
  have FF0 : Hid (FldAt W0 x F) := hidE (by rw [hW0]; exact hF.alloc _)
  have YY0 : Hid (IntsAt W0 a y) := hidE (by rw [hW0]; exact h2.alloc _)
  have PP0 : Hid (IntsAt W0 a3 parts) := hidE (by rw [hW0]; exact h3.alloc _)
  have XF0 : Hid (W0.heap[w.heap.size]? = some (.cells (x.arr F) 46 (0,0))) := hidE (by rw [hW0]; exact heap_alloc_new _ _)
  have HDV := hidE (fun (W : World) (hf : FldAt W x F) (hi : IntsAt W a y) (hp : IntsAt W a3 parts) => divideE_any W x F i a cap y a3 cap3 parts hy hl hf hi hp)
  have HWS := hidE (fun (W : World) (v : Int) (hf : FldAt W x F) (hi : IntsAt W a y) => westE_any W x F i v a cap y hy hf hi)
  have HAR := hidE (fun (W : World) (hf : FldAt W x F) (hi : IntsAt W a y) => area2E_any W x F i a cap y hy hf hi)
  have HSH := hidE (fun (W : World) (T : Int) (hp : IntsAt W a3 parts) => sharesE_any W T a3 cap3 parts hl hp)
  have HPL := hidE (fun (W : World) => plain_any W x F (by have := hF.ls; omega) (by have := hF.ll; omega) (by have := hF.lp; omega) (by have := hF.lv; omega))
  unfold FV.val FV.arr at *
  clear hal hF h2 h3
  by_cases hp : plainP F = false
  · rw [hp] at HPL
    go_enter Tryz.func11, Tryz.ntmps11
    go_upto_region 1 with fail
    rw [← hW0]
    clear hW0
    have f0 : W0.cell? ⟨w.heap.size, 0, none⟩ = some (.slice x.aS F.sts.length x.cS) := by rw [cell_of_row _ _ _ _ _ _ XF0.out]; rfl
    have f1 : W0.cell? ⟨w.heap.size, 1, none⟩ = some (.slice x.aL F.lms.length x.cL) := by rw [cell_of_row _ _ _ _ _ _ XF0.out]; rfl
    have f2 : W0.cell? ⟨w.heap.size, 2, none⟩ = some (.slice x.aP F.prs.length x.cP) := by rw [cell_of_row _ _ _ _ _ _ XF0.out]; rfl
    have f3 : W0.cell? ⟨w.heap.size, 3, none⟩ = some (.slice x.aV F.vrs.length x.cV) := by rw [cell_of_row _ _ _ _ _ _ XF0.out]; rfl
    have HC := hidE (HPL.out W0)
    go_wp2_with fail
    refine HC.out.mono ?_
    rintro e W1 ⟨rfl, hbx⟩
    clear HC f0 f1 f2 f3
    have hb : Below W0.heap.size W0 W1 := hbx
    have BB1 : Hid (Below w.heap.size w W1) := hidE (BB0.out.trans (hb.mono BB0.out.size))
    have FF1 : Hid (FldAt W1 x F) := hidE (FF0.out.below hb)
    have YY1 : Hid (IntsAt W1 a y) := hidE (YY0.out.below hb (Nat.le_refl _))
    have PP1 : Hid (IntsAt W1 a3 parts) := hidE (PP0.out.below hb (Nat.le_refl _))
    have XF1 : Hid (W1.heap[w.heap.size]? = some (.cells #[.slice x.aS F.sts.length x.cS, .slice x.aL F.lms.length x.cL, .slice x.aP F.prs.length x.cP, .slice x.aV F.vrs.length x.cV] 46 (0,0))) := hidE (blk_below hb (lt_of_block XF0.out) XF0.out)
    clear hb BB0 FF0 YY0 PP0 XF0
    clear hbx
    go_wp2_with fail
    refine (HAL.out _).mono ?_
    rintro e w9 ⟨rfl, hb9⟩
    have B9 := hidE (BB1.out.trans (hb9.mono BB1.out.size))
    clear hb9
    go_wp2_with fail
    go_ret
    exact ⟨by simp, B9.out⟩
  have hp2 : plainP F = true := by simpa using hp
  rw [hp2] at HPL
  clear hp hp2
  by_cases hv1 : 200 < y.length
  · have hd : decide ((y.length : Int) > 200) = true := by simp; omega
    have hd' : decide (200 < y.length) = true := by simp; omega
    go_enter Tryz.func11, Tryz.ntmps11
    go_upto_region 1 with fail
    rw [← hW0]
    clear hW0
    have f0 : W0.cell? ⟨w.heap.size, 0, none⟩ = some (.slice x.aS F.sts.length x.cS) := by rw [cell_of_row _ _ _ _ _ _ XF0.out]; rfl
    have f1 : W0.cell? ⟨w.heap.size, 1, none⟩ = some (.slice x.aL F.lms.length x.cL) := by rw [cell_of_row _ _ _ _ _ _ XF0.out]; rfl
    have f2 : W0.cell? ⟨w.heap.size, 2, none⟩ = some (.slice x.aP F.prs.length x.cP) := by rw [cell_of_row _ _ _ _ _ _ XF0.out]; rfl
    have f3 : W0.cell? ⟨w.heap.size, 3, none⟩ = some (.slice x.aV F.vrs.length x.cV) := by rw [cell_of_row _ _ _ _ _ _ XF0.out]; rfl
    have HC := hidE (HPL.out W0)
    go_wp2_with fail
    refine HC.out.mono ?_
    rintro e W1 ⟨rfl, hbx⟩
    clear HC f0 f1 f2 f3
    have hb : Below W0.heap.size W0 W1 := hbx
    have BB1 : Hid (Below w.heap.size w W1) := hidE (BB0.out.trans (hb.mono BB0.out.size))
    have FF1 : Hid (FldAt W1 x F) := hidE (FF0.out.below hb)
    have YY1 : Hid (IntsAt W1 a y) := hidE (YY0.out.below hb (Nat.le_refl _))
    have PP1 : Hid (IntsAt W1 a3 parts) := hidE (PP0.out.below hb (Nat.le_refl _))
    have XF1 : Hid (W1.heap[w.heap.size]? = some (.cells #[.slice x.aS F.sts.length x.cS, .slice x.aL F.lms.length x.cL, .slice x.aP F.prs.length x.cP, .slice x.aV F.vrs.length x.cV] 46 (0,0))) := hidE (blk_below hb (lt_of_block XF0.out) XF0.out)
    clear hb BB0 FF0 YY0 PP0 XF0
    clear hbx
    go_wp2_with fail
    refine (HAL.out _).mono ?_
    rintro e w9 ⟨rfl, hb9⟩
    have B9 := hidE (BB1.out.trans (hb9.mono BB1.out.size))
    clear hb9
    go_wp2_with fail
    go_ret
    exact ⟨by simp, B9.out⟩
  have hd1 : decide ((y.length : Int) > 200) = false := by simp; omega
  have hd1' : decide (200 < y.length) = false := by simp; omega
  by_cases hv2 : 60 < parts.length
  · have hd : decide ((parts.length : Int) > 60) = true := by simp; omega
    have hd' : decide (60 < parts.length) = true := by simp; omega
    go_enter Tryz.func11, Tryz.ntmps11
    go_upto_region 1 with fail
    rw [← hW0]
    clear hW0
    have f0 : W0.cell? ⟨w.heap.size, 0, none⟩ = some (.slice x.aS F.sts.length x.cS) := by rw [cell_of_row _ _ _ _ _ _ XF0.out]; rfl
    have f1 : W0.cell? ⟨w.heap.size, 1, none⟩ = some (.slice x.aL F.lms.length x.cL) := by rw [cell_of_row _ _ _ _ _ _ XF0.out]; rfl
    have f2 : W0.cell? ⟨w.heap.size, 2, none⟩ = some (.slice x.aP F.prs.length x.cP) := by rw [cell_of_row _ _ _ _ _ _ XF0.out]; rfl
    have f3 : W0.cell? ⟨w.heap.size, 3, none⟩ = some (.slice x.aV F.vrs.length x.cV) := by rw [cell_of_row _ _ _ _ _ _ XF0.out]; rfl
    have HC := hidE (HPL.out W0)
    go_wp2_with fail
    refine HC.out.mono ?_
    rintro e W1 ⟨rfl, hbx⟩
    clear HC f0 f1 f2 f3
    have hb : Below W0.heap.size W0 W1 := hbx
    have BB1 : Hid (Below w.heap.size w W1) := hidE (BB0.out.trans (hb.mono BB0.out.size))
    have FF1 : Hid (FldAt W1 x F) := hidE (FF0.out.below hb)
    have YY1 : Hid (IntsAt W1 a y) := hidE (YY0.out.below hb (Nat.le_refl _))
    have PP1 : Hid (IntsAt W1 a3 parts) := hidE (PP0.out.below hb (Nat.le_refl _))
    have XF1 : Hid (W1.heap[w.heap.size]? = some (.cells #[.slice x.aS F.sts.length x.cS, .slice x.aL F.lms.length x.cL, .slice x.aP F.prs.length x.cP, .slice x.aV F.vrs.length x.cV] 46 (0,0))) := hidE (blk_below hb (lt_of_block XF0.out) XF0.out)
    clear hb BB0 FF0 YY0 PP0 XF0
    clear hbx
    go_wp2_with fail
    refine (HAL.out _).mono ?_
    rintro e w9 ⟨rfl, hb9⟩
    have B9 := hidE (BB1.out.trans (hb9.mono BB1.out.size))
    clear hb9
    go_wp2_with fail
    go_ret
    exact ⟨by simp, B9.out⟩
  have hd2 : decide ((parts.length : Int) > 60) = false := by simp; omega
  have hd2' : decide (60 < parts.length) = false := by simp; omega
  clear hv1 hv2
  by_cases hz : (divideE F y i parts).2 = 0
  rotate_left
  · have HNL := hidE (div_err hz)
    obtain ⟨E, hE⟩ : ∃ E, (divideE F y i parts).2 = E := ⟨_, rfl⟩
    rw [hE] at hz
    have hz2 : (E != 0) = true := by simpa using hz
    have HEE := hidE hE
    clear hE hz
    go_enter Tryz.func11, Tryz.ntmps11
    go_upto_region 1 with fail
    rw [← hW0]
    clear hW0
    have f0 : W0.cell? ⟨w.heap.size, 0, none⟩ = some (.slice x.aS F.sts.length x.cS) := by rw [cell_of_row _ _ _ _ _ _ XF0.out]; rfl
    have f1 : W0.cell? ⟨w.heap.size, 1, none⟩ = some (.slice x.aL F.lms.length x.cL) := by rw [cell_of_row _ _ _ _ _ _ XF0.out]; rfl
    have f2 : W0.cell? ⟨w.heap.size, 2, none⟩ = some (.slice x.aP F.prs.length x.cP) := by rw [cell_of_row _ _ _ _ _ _ XF0.out]; rfl
    have f3 : W0.cell? ⟨w.heap.size, 3, none⟩ = some (.slice x.aV F.vrs.length x.cV) := by rw [cell_of_row _ _ _ _ _ _ XF0.out]; rfl
    have HC := hidE (HPL.out W0)
    go_wp2_with fail
    refine HC.out.mono ?_
    rintro e W1 ⟨rfl, hbx⟩
    clear HC f0 f1 f2 f3
    have hb : Below W0.heap.size W0 W1 := hbx
    have BB1 : Hid (Below w.heap.size w W1) := hidE (BB0.out.trans (hb.mono BB0.out.size))
    have FF1 : Hid (FldAt W1 x F) := hidE (FF0.out.below hb)
    have YY1 : Hid (IntsAt W1 a y) := hidE (YY0.out.below hb (Nat.le_refl _))
    have PP1 : Hid (IntsAt W1 a3 parts) := hidE (PP0.out.below hb (Nat.le_refl _))
    have XF1 : Hid (W1.heap[w.heap.size]? = some (.cells #[.slice x.aS F.sts.length x.cS, .slice x.aL F.lms.length x.cL, .slice x.aP F.prs.length x.cP, .slice x.aV F.vrs.length x.cV] 46 (0,0))) := hidE (blk_below hb (lt_of_block XF0.out) XF0.out)
    clear hb BB0 FF0 YY0 PP0 XF0
    clear hbx
    have f0 : W1.cell? ⟨w.heap.size, 0, none⟩ = some (.slice x.aS F.sts.length x.cS) := by rw [cell_of_row _ _ _ _ _ _ XF1.out]; rfl
    have f1 : W1.cell? ⟨w.heap.size, 1, none⟩ = some (.slice x.aL F.lms.length x.cL) := by rw [cell_of_row _ _ _ _ _ _ XF1.out]; rfl
    have f2 : W1.cell? ⟨w.heap.size, 2, none⟩ = some (.slice x.aP F.prs.length x.cP) := by rw [cell_of_row _ _ _ _ _ _ XF1.out]; rfl
    have f3 : W1.cell? ⟨w.heap.size, 3, none⟩ = some (.slice x.aV F.vrs.length x.cV) := by rw [cell_of_row _ _ _ _ _ _ XF1.out]; rfl
    have hc := HDV.out W1 FF1.out YY1.out PP1.out
    rw [HEE.out, HNL.out] at hc
    have HC := hidE (hc)
    go_wp2_with fail
    refine HC.out.mono ?_
    rintro e W2 ⟨⟨v1, rfl, ho1⟩, hbx⟩
    clear HC f0 f1 f2 f3 hc
    have hb : Below W1.heap.size W1 W2 := hbx
    have BB2 : Hid (Below w.heap.size w W2) := hidE (BB1.out.trans (hb.mono BB1.out.size))
    have FF2 : Hid (FldAt W2 x F) := hidE (FF1.out.below hb)
    have YY2 : Hid (IntsAt W2 a y) := hidE (YY1.out.below hb (Nat.le_refl _))
    have PP2 : Hid (IntsAt W2 a3 parts) := hidE (PP1.out.below hb (Nat.le_refl _))
    have XF2 : Hid (W2.heap[w.heap.size]? = some (.cells #[.slice x.aS F.sts.length x.cS, .slice x.aL F.lms.length x.cL, .slice x.aP F.prs.length x.cP, .slice x.aV F.vrs.length x.cV] 46 (0,0))) := hidE (blk_below hb (lt_of_block XF1.out) XF1.out)
    clear hb BB1 FF1 YY1 PP1 XF1
    clear hbx
    obtain ⟨o1, c1, rfl, _, _⟩ := owns_cap ho1
    clear ho1
    go_wp2_with fail
    refine (HAL.out _).mono ?_
    rintro e w9 ⟨rfl, hb9⟩
    have B9 := hidE (BB2.out.trans (hb9.mono BB2.out.size))
    clear hb9
    go_wp2_with fail
    go_ret
    exact ⟨by simp, B9.out⟩
  obtain ⟨S, WH, fr, tt, LP, D⟩ := div_ok hz
  obtain ⟨DL, hDL⟩ : ∃ z, (divideE F y i parts).1 = z := ⟨_, rfl⟩
  have HDE : Hid (divideE F y i parts = (DL, 0)) := hidE (by rw [← hDL, ← hz])
  rw [hDL] at D
  have HD := hidE D
  obtain ⟨n, hn⟩ : ∃ n, parts.length = n := ⟨_, rfl⟩
  have HN := hidE hn
  have HSL := hidE (D.sl.trans hn)
  have HDL : Hid (DL.length = n - 1) := hidE (by rw [D.dl, hn])
  have hn50 : n ≤ 50 := by have := D.small; omega
  rw [hn] at hd2 hd2' HDV HSH ⊢
  clear hz hDL D hn
  go_enter Tryz.func11, Tryz.ntmps11
  go_upto_region 1 with fail
  rw [← hW0]
  clear hW0
  have f0 : W0.cell? ⟨w.heap.size, 0, none⟩ = some (.slice x.aS F.sts.length x.cS) := by rw [cell_of_row _ _ _ _ _ _ XF0.out]; rfl
  have f1 : W0.cell? ⟨w.heap.size, 1, none⟩ = some (.slice x.aL F.lms.length x.cL) := by rw [cell_of_row _ _ _ _ _ _ XF0.out]; rfl
  have f2 : W0.cell? ⟨w.heap.size, 2, none⟩ = some (.slice x.aP F.prs.length x.cP) := by rw [cell_of_row _ _ _ _ _ _ XF0.out]; rfl
  have f3 : W0.cell? ⟨w.heap.size, 3, none⟩ = some (.slice x.aV F.vrs.length x.cV) := by rw [cell_of_row _ _ _ _ _ _ XF0.out]; rfl
  have HC := hidE (HPL.out W0)
  go_wp2_with fail
  refine HC.out.mono ?_
  rintro e W1 ⟨rfl, hbx⟩
  clear HC f0 f1 f2 f3
  have hb : Below W0.heap.size W0 W1 := hbx
  have BB1 : Hid (Below w.heap.size w W1) := hidE (BB0.out.trans (hb.mono BB0.out.size))
  have FF1 : Hid (FldAt W1 x F) := hidE (FF0.out.below hb)
  have YY1 : Hid (IntsAt W1 a y) := hidE (YY0.out.below hb (Nat.le_refl _))
  have PP1 : Hid (IntsAt W1 a3 parts) := hidE (PP0.out.below hb (Nat.le_refl _))
  have XF1 : Hid (W1.heap[w.heap.size]? = some (.cells #[.slice x.aS F.sts.length x.cS, .slice x.aL F.lms.length x.cL, .slice x.aP F.prs.length x.cP, .slice x.aV F.vrs.length x.cV] 46 (0,0))) := hidE (blk_below hb (lt_of_block XF0.out) XF0.out)
  clear hb BB0 FF0 YY0 PP0 XF0
  clear hbx
  have f0 : W1.cell? ⟨w.heap.size, 0, none⟩ = some (.slice x.aS F.sts.length x.cS) := by rw [cell_of_row _ _ _ _ _ _ XF1.out]; rfl
  have f1 : W1.cell? ⟨w.heap.size, 1, none⟩ = some (.slice x.aL F.lms.length x.cL) := by rw [cell_of_row _ _ _ _ _ _ XF1.out]; rfl
  have f2 : W1.cell? ⟨w.heap.size, 2, none⟩ = some (.slice x.aP F.prs.length x.cP) := by rw [cell_of_row _ _ _ _ _ _ XF1.out]; rfl
  have f3 : W1.cell? ⟨w.heap.size, 3, none⟩ = some (.slice x.aV F.vrs.length x.cV) := by rw [cell_of_row _ _ _ _ _ _ XF1.out]; rfl
  have hc := HDV.out W1 FF1.out YY1.out PP1.out
  rw [HDE.out] at hc
  have HC := hidE (hc)
  go_wp2_with fail
  refine HC.out.mono ?_
  rintro e W2 ⟨⟨v1, rfl, ho1⟩, hbx⟩
  clear HC f0 f1 f2 f3 hc
  have hb : Below W1.heap.size W1 W2 := hbx
  have BB2 : Hid (Below w.heap.size w W2) := hidE (BB1.out.trans (hb.mono BB1.out.size))
  have FF2 : Hid (FldAt W2 x F) := hidE (FF1.out.below hb)
  have YY2 : Hid (IntsAt W2 a y) := hidE (YY1.out.below hb (Nat.le_refl _))
  have PP2 : Hid (IntsAt W2 a3 parts) := hidE (PP1.out.below hb (Nat.le_refl _))
  have XF2 : Hid (W2.heap[w.heap.size]? = some (.cells #[.slice x.aS F.sts.length x.cS, .slice x.aL F.lms.length x.cL, .slice x.aP F.prs.length x.cP, .slice x.aV F.vrs.length x.cV] 46 (0,0))) := hidE (blk_below hb (lt_of_block XF1.out) XF1.out)
  clear hb BB1 FF1 YY1 PP1 XF1
  clear hbx
  obtain ⟨oD, cD, rfl, hiD, _⟩ := owns_cap ho1
  rw [HDL.out]
  have DD2 : Hid (IntsAt W2 oD DL) := hidE hiD
  clear ho1 hiD
  have f0 : W2.cell? ⟨w.heap.size, 0, none⟩ = some (.slice x.aS F.sts.length x.cS) := by rw [cell_of_row _ _ _ _ _ _ XF2.out]; rfl
  have f1 : W2.cell? ⟨w.heap.size, 1, none⟩ = some (.slice x.aL F.lms.length x.cL) := by rw [cell_of_row _ _ _ _ _ _ XF2.out]; rfl
  have f2 : W2.cell? ⟨w.heap.size, 2, none⟩ = some (.slice x.aP F.prs.length x.cP) := by rw [cell_of_row _ _ _ _ _ _ XF2.out]; rfl
  have f3 : W2.cell? ⟨w.heap.size, 3, none⟩ = some (.slice x.aV F.vrs.length x.cV) := by rw [cell_of_row _ _ _ _ _ _ XF2.out]; rfl
  have hc := HAR.out W2 FF2.out YY2.out
  rw [HD.out.area] at hc
  have HC := hidE (hc)
  go_wp2_with fail
  refine HC.out.mono ?_
  rintro e W3 ⟨rfl, hbx⟩
  clear HC f0 f1 f2 f3 hc
  have hb : Below W2.heap.size W2 W3 := hbx
  have BB3 : Hid (Below w.heap.size w W3) := hidE (BB2.out.trans (hb.mono BB2.out.size))
  have FF3 : Hid (FldAt W3 x F) := hidE (FF2.out.below hb)
  have YY3 : Hid (IntsAt W3 a y) := hidE (YY2.out.below hb (Nat.le_refl _))
  have PP3 : Hid (IntsAt W3 a3 parts) := hidE (PP2.out.below hb (Nat.le_refl _))
  have XF3 : Hid (W3.heap[w.heap.size]? = some (.cells #[.slice x.aS F.sts.length x.cS, .slice x.aL F.lms.length x.cL, .slice x.aP F.prs.length x.cP, .slice x.aV F.vrs.length x.cV] 46 (0,0))) := hidE (blk_below hb (lt_of_block XF2.out) XF2.out)
  have DD3 : Hid (IntsAt W3 oD DL) := hidE (DD2.out.below hb (Nat.le_refl _))
  clear hb BB2 FF2 YY2 PP2 XF2 DD2
  clear hbx
  have hc := HSH.out W3 WH PP3.out
  rw [HD.out.sh] at hc
  have HC := hidE (hc)
  go_wp2_with fail
  refine HC.out.mono ?_
  rintro e W4 ⟨⟨v1, rfl, ho1⟩, hbx⟩
  clear HC hc
  have hb : Below W3.heap.size W3 W4 := hbx
  have BB4 : Hid (Below w.heap.size w W4) := hidE (BB3.out.trans (hb.mono BB3.out.size))
  have FF4 : Hid (FldAt W4 x F) := hidE (FF3.out.below hb)
  have YY4 : Hid (IntsAt W4 a y) := hidE (YY3.out.below hb (Nat.le_refl _))
  have PP4 : Hid (IntsAt W4 a3 parts) := hidE (PP3.out.below hb (Nat.le_refl _))
  have XF4 : Hid (W4.heap[w.heap.size]? = some (.cells #[.slice x.aS F.sts.length x.cS, .slice x.aL F.lms.length x.cL, .slice x.aP F.prs.length x.cP, .slice x.aV F.vrs.length x.cV] 46 (0,0))) := hidE (blk_below hb (lt_of_block XF3.out) XF3.out)
  have DD4 : Hid (IntsAt W4 oD DL) := hidE (DD3.out.below hb (Nat.le_refl _))
  clear hb BB3 FF3 YY3 PP3 XF3 DD3
  clear hbx
  obtain ⟨oS, cS, rfl, hiS, _⟩ := owns_cap ho1
  rw [HSL.out]
  have SH4 : Hid (IntsAt W4 oS S) := hidE hiS
  clear ho1 hiS
  obtain ⟨K, hK⟩ : ∃ K, n - 1 = K := ⟨_, rfl⟩
  rw [hK] at HDL ⊢
  have hw1 : IntKind.i64.wrap ((n : Int) - 1) = (n : Int) - 1 := IntWalk.i64_in _ (by omega)
  have hmx : max ((n : Int) - 1) (0 : Int) = (K : Int) := by omega
  have hk50 : K ≤ 50 := by omega
  have m0 : ((K : Int) != (K : Int)) = false := by simp
  have m1 : ((n : Int) != (n : Int)) = false := by simp
  have HWH := hidE HD.out.wh
  clear hK HDV HAR HSH HPL
  go_wp2_with fail
  go_loopw [15, 87] (fun t v wr => ∃ k : Nat, k ≤ K ∧ t = .int .i64 (isum (S.take k)) ∧ v = .int .i64 k ∧ Hid (Below W4.heap.size W4 wr)) (fun _ v _ => K - (intOf v).toNat)
  case atStart => exact ⟨0, Nat.zero_le _, by simp [isum], rfl, hidE (Below.refl _ _)⟩
  case round =>
    obtain ⟨k, hk, rfl, rfl, HB⟩ := hrel
    obtain ⟨W5, rfl⟩ : ∃ W : World, W = wr := ⟨wr, rfl⟩
    have hb : Below W4.heap.size W4 W5 := HB.out
    have BB5 : Hid (Below w.heap.size w W5) := hidE (BB4.out.trans (hb.mono BB4.out.size))
    have FF5 : Hid (FldAt W5 x F) := hidE (FF4.out.below hb)
    have YY5 : Hid (IntsAt W5 a y) := hidE (YY4.out.below hb (Nat.le_refl _))
    have PP5 : Hid (IntsAt W5 a3 parts) := hidE (PP4.out.below hb (Nat.le_refl _))
    have XF5 : Hid (W5.heap[w.heap.size]? = some (.cells #[.slice x.aS F.sts.length x.cS, .slice x.aL F.lms.length x.cL, .slice x.aP F.prs.length x.cP, .slice x.aV F.vrs.length x.cV] 46 (0,0))) := hidE (blk_below hb (lt_of_block XF4.out) XF4.out)
    have DD5 : Hid (IntsAt W5 oD DL) := hidE (DD4.out.below hb (Nat.le_refl _))
    have SH5 : Hid (IntsAt W5 oS S) := hidE (SH4.out.below hb (Nat.le_refl _))
    clear hb BB4 FF4 YY4 PP4 XF4 DD4 SH4
    have BW5 : Hid (Below W4.heap.size W4 W5) := HB
    clear HB
    by_cases hlt : k < K
    · have hkD : k < DL.length := by rw [HDL.out]; exact hlt
      have hkS : k < S.length := by rw [HSL.out]; omega
      obtain ⟨bD, qD, eD, hbD, hcD⟩ := DD5.out.at hkD
      obtain ⟨bS, qS, eS, hbS, hcS⟩ := SH5.out.at hkS
      rw [← getD_get DL 0 hkD] at hcD
      have hst := isum_take S hkS
      have t0 := HD.out.sb k
      have t1 := HD.out.sb (k + 1)
      have hwst := HD.out.west k hkD
      have hlow := HD.out.low k hkD
      have hmost := HD.out.most k hkD
      have hprev : ∀ j, k = j + 1 → DL.getD j 0 ≤ DL.getD k 0 := fun j e => by subst e; exact HD.out.up j hkD
      obtain ⟨xx, hxx⟩ : ∃ z, DL.getD k 0 = z := ⟨_, rfl⟩
      obtain ⟨sq, hsq⟩ : ∃ q, S[k]'hkS = q := ⟨_, rfl⟩
      obtain ⟨s0, hs0⟩ : ∃ s, isum (S.take k) = s := ⟨_, rfl⟩
      obtain ⟨s1, hs1⟩ : ∃ s, isum (S.take (k + 1)) = s := ⟨_, rfl⟩
      rw [hxx] at hcD hwst hlow hmost hprev
      rw [hsq] at hcS hst
      rw [hs0] at hst t0 ⊢
      rw [hs1] at hst t1 hmost
      have HS1 := hidE hs1
      subst hst
      have hws : IntKind.i64.wrap (s0 + sq) = s0 + sq := IntWalk.i64_in _ (by have := HWH.out; omega)
      have hwh2 := HWH.out
      obtain ⟨A1, hA1⟩ : ∃ z, (LP xx).1 = z := ⟨_, rfl⟩
      obtain ⟨A2, hA2⟩ : ∃ z, (LP xx).2 = z := ⟨_, rfl⟩
      rw [hA2] at hlow
      rw [hA1, hA2] at hmost
      have hwst2 : westE F y i xx = ((A1, A2), 0) := by rw [hwst, ← hA1, ← hA2]
      have HLT := hidE hlt
      have HPV := hidE hprev
      subst eD eS
      clear hxx hsq hs0 hs1 hwst hA1 hA2 hprev hkS
      have f0 : W5.cell? ⟨w.heap.size, 0, none⟩ = some (.slice x.aS F.sts.length x.cS) := by rw [cell_of_row _ _ _ _ _ _ XF5.out]; rfl
      have f1 : W5.cell? ⟨w.heap.size, 1, none⟩ = some (.slice x.aL F.lms.length x.cL) := by rw [cell_of_row _ _ _ _ _ _ XF5.out]; rfl
      have f2 : W5.cell? ⟨w.heap.size, 2, none⟩ = some (.slice x.aP F.prs.length x.cP) := by rw [cell_of_row _ _ _ _ _ _ XF5.out]; rfl
      have f3 : W5.cell? ⟨w.heap.size, 3, none⟩ = some (.slice x.aV F.vrs.length x.cV) := by rw [cell_of_row _ _ _ _ _ _ XF5.out]; rfl
      have hc := HWS.out W5 xx FF5.out YY5.out
      rw [hwst2] at hc
      clear hwst2
      have HC := hidE (hc)
      go_wp2_with fail
      refine HC.out.mono ?_
      rintro e W6 ⟨rfl, hbx⟩
      clear HC f0 f1 f2 f3 hc hcD hcS
      have hb : Below W5.heap.size W5 W6 := hbx
      have BB6 : Hid (Below w.heap.size w W6) := hidE (BB5.out.trans (hb.mono BB5.out.size))
      have FF6 : Hid (FldAt W6 x F) := hidE (FF5.out.below hb)
      have YY6 : Hid (IntsAt W6 a y) := hidE (YY5.out.below hb (Nat.le_refl _))
      have PP6 : Hid (IntsAt W6 a3 parts) := hidE (PP5.out.below hb (Nat.le_refl _))
      have XF6 : Hid (W6.heap[w.heap.size]? = some (.cells #[.slice x.aS F.sts.length x.cS, .slice x.aL F.lms.length x.cL, .slice x.aP F.prs.length x.cP, .slice x.aV F.vrs.length x.cV] 46 (0,0))) := hidE (blk_below hb (lt_of_block XF5.out) XF5.out)
      have DD6 : Hid (IntsAt W6 (some ⟨bD, qD, none⟩) DL) := hidE (DD5.out.below hb (Nat.le_refl _))
      have SH6 : Hid (IntsAt W6 (some ⟨bS, qS, none⟩) S) := hidE (SH5.out.below hb (Nat.le_refl _))
      have BW6 : Hid (Below W4.heap.size W4 W6) := hidE (BW5.out.trans (hb.mono BW5.out.size))
      clear hb BB5 FF5 YY5 PP5 XF5 DD5 SH5 BW5
      clear hbx
      go_upto_region 16 with fail
      obtain ⟨W7, hW⟩ : ∃ W, W = W6.alloc (.cells #[.int .i64 A1, .int .i64 A2] 49) := ⟨_, rfl⟩
      rw [← hW]
      have hxw : W7.heap[W6.heap.size]? = some (.cells #[.int .i64 A1, .int .i64 A2] 49 (0,0)) := by rw [hW]; exact heap_alloc_new _ _
      have hb : Below W6.heap.size W6 W7 := by rw [hW]; exact (Below.refl _ _).alloc (Nat.le_refl _) _
      have BB7 : Hid (Below w.heap.size w W7) := hidE (BB6.out.trans (hb.mono BB6.out.size))
      have FF7 : Hid (FldAt W7 x F) := hidE (FF6.out.below hb)
      have YY7 : Hid (IntsAt W7 a y) := hidE (YY6.out.below hb (Nat.le_refl _))
      have PP7 : Hid (IntsAt W7 a3 parts) := hidE (PP6.out.below hb (Nat.le_refl _))
      have XF7 : Hid (W7.heap[w.heap.size]? = some (.cells #[.slice x.aS F.sts.length x.cS, .slice x.aL F.lms.length x.cL, .slice x.aP F.prs.length x.cP, .slice x.aV F.vrs.length x.cV] 46 (0,0))) := hidE (blk_below hb (lt_of_block XF6.out) XF6.out)
      have DD7 : Hid (IntsAt W7 (some ⟨bD, qD, none⟩) DL) := hidE (DD6.out.below hb (Nat.le_refl _))
      have SH7 : Hid (IntsAt W7 (some ⟨bS, qS, none⟩) S) := hidE (SH6.out.below hb (Nat.le_refl _))
      have BW7 : Hid (Below W4.heap.size W4 W7) := hidE (BW6.out.trans (hb.mono BW6.out.size))
      clear hb BB6 FF6 YY6 PP6 XF6 DD6 SH6 BW6
      have XA7 : Hid (W7.heap[W6.heap.size]? = some (.cells #[.int .i64 A1, .int .i64 A2] 49 (0,0))) := hidE hxw
      clear hW hxw
      have g0 : W7.cell? ⟨W6.heap.size, 0, none⟩ = some (.int .i64 A1) := by rw [cell_of_row _ _ _ _ _ _ XA7.out]; rfl
      have g1 : W7.cell? ⟨W6.heap.size, 1, none⟩ = some (.int .i64 A2) := by rw [cell_of_row _ _ _ _ _ _ XA7.out]; rfl
      have hmo := most_any W7 A1 A2 (s0 + sq) (by omega) (by omega) (by omega)
      rw [show decide (A1 ≤ (s0 + sq) * A2) = true by simpa using hmost] at hmo
      clear hmost hlow t0 t1
      have HC := hidE (hmo)
      go_wp2_with fail
      refine HC.out.mono ?_
      rintro e W8 ⟨rfl, hbx⟩
      clear HC g0 g1 hmo
      have hb : Below W7.heap.size W7 W8 := hbx
      have BB8 : Hid (Below w.heap.size w W8) := hidE (BB7.out.trans (hb.mono BB7.out.size))
      have FF8 : Hid (FldAt W8 x F) := hidE (FF7.out.below hb)
      have YY8 : Hid (IntsAt W8 a y) := hidE (YY7.out.below hb (Nat.le_refl _))
      have PP8 : Hid (IntsAt W8 a3 parts) := hidE (PP7.out.below hb (Nat.le_refl _))
      have XF8 : Hid (W8.heap[w.heap.size]? = some (.cells #[.slice x.aS F.sts.length x.cS, .slice x.aL F.lms.length x.cL, .slice x.aP F.prs.length x.cP, .slice x.aV F.vrs.length x.cV] 46 (0,0))) := hidE (blk_below hb (lt_of_block XF7.out) XF7.out)
      have DD8 : Hid (IntsAt W8 (some ⟨bD, qD, none⟩) DL) := hidE (DD7.out.below hb (Nat.le_refl _))
      have SH8 : Hid (IntsAt W8 (some ⟨bS, qS, none⟩) S) := hidE (SH7.out.below hb (Nat.le_refl _))
      have BW8 : Hid (Below W4.heap.size W4 W8) := hidE (BW7.out.trans (hb.mono BW7.out.size))
      have XA8 : Hid (W8.heap[W6.heap.size]? = some (.cells #[.int .i64 A1, .int .i64 A2] 49 (0,0))) := hidE (blk_below hb (lt_of_block XA7.out) XA7.out)
      clear hb BB7 FF7 YY7 PP7 XF7 DD7 SH7 BW7 XA7
      clear hbx
      rcases Nat.eq_zero_or_pos k with hk0 | hk0
      · subst hk0
        have p0 : decide (((0 : Nat) : Int) > 0) = false := by decide
        have p0' : decide (0 < (0 : Nat)) = false := by decide
        go_wp2_with fail
        go_roundw
        case rel => exact ⟨0 + 1, HLT.out, by rw [HS1.out], by go_num, BW8⟩
        case measure => have := HLT.out; simp [intOf]; omega
      · obtain ⟨j, rfl⟩ : ∃ j, k = j + 1 := ⟨k - 1, by omega⟩
        have p0 : decide (((j + 1 : Nat) : Int) > 0) = true := decide_eq_true (by omega)
        have p0' : decide (0 < j + 1) = true := by simp
        have hjD : j < DL.length := by omega
        obtain ⟨_, _, e5, _, hc5⟩ := DD8.out.at hjD
        cases e5
        rw [← getD_get DL 0 hjD] at hc5
        have hpv := HPV.out j rfl
        obtain ⟨pv, hpvv⟩ : ∃ z, DL.getD j 0 = z := ⟨_, rfl⟩
        rw [hpvv] at hc5 hpv
        have p1 : decide (pv > xx) = false := by simp; omega
        have p1' : decide (xx < pv) = false := by simp; omega
        have hkj : ((j + 1 : Nat) : Int) - 1 = (j : Int) := by omega
        have hwj : IntKind.i64.wrap (j : Int) = (j : Int) := IntWalk.i64_in _ (by omega)
        have hwj1 : IntKind.i64.wrap ((j : Int) + 1) = (j : Int) + 1 := IntWalk.i64_in _ (by omega)
        have hj50 : j < K := by omega
        clear hpvv hpv
        go_wp2_with fail
        go_roundw
        case rel => exact ⟨j + 1 + 1, HLT.out, by rw [HS1.out], by go_num, BW8⟩
        case measure => have := HLT.out; simp [intOf]; omega
    · obtain rfl : k = K := by omega
      go_wp2_with fail
      refine (HAL.out _).mono ?_
      rintro e w9 ⟨rfl, hb9⟩
      have B9 := hidE (BB5.out.trans (hb9.mono BB5.out.size))
      clear hb9
      go_wp2_with fail
      go_ret
      exact ⟨by simp, B9.out⟩
end Go.Proofs.YthjmkmjojlfejaaGreat
