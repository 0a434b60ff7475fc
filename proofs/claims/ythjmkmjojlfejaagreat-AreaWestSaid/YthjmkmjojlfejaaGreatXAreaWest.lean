/- What the law AreaWest needs beyond the base: Sm, Gp, Gp2, Gp3, Lq0, Al2, Lw. No conditions beyond those stated. -/
import Derived.Test.YthjmkmjojlfejaaGreatB01
import Derived.Test.YthjmkmjojlfejaaGreatB04
import Derived.Test.YthjmkmjojlfejaaGreatB03
import Derived.Test.YthjmkmjojlfejaaGreatB02
import Derived.Shelf.Small.Bits
import Derived.Shelf.Small.Wraps
import Derived.Shelf.Strconv.Itoa0
import Derived.Shelf.Sort.Plain
import Derived.Shelf.Slices.Turned
import Derived.Ground.Names2Prog
import Derived.Shelf.Slices.CompactI
import Derived.Shelf.Slices.SearchI
import Derived.Shelf.Slices.Cells
import Derived.Shelf.Slices.In.SortNone
import Derived.Test.YthjmkmjojlfejaaGreatProg
import Derived.WalkKit
import Derived.Handy
import Derived.RangeFuncRecord
import Derived.Shelf.Abstract
import Derived.Deep.QuietTactic
import Derived.BigQuiet
import Derived.Laws.CopyOwn
import Derived.WalkSmall
import Derived.RangeFuncNested
import Derived.RangeFuncBound
import Derived.RangeFuncCalls
import Derived.RangeFuncLeaves
import Derived.Shelf.RegionOpen
import Derived.OwnWalkIn
import Derived.TacticsInMore
import Derived.LoopNIn
import Derived.LoopIn
import Derived.Maps.AppendAt
import Derived.Deep.Onto
import Derived.OrdersHeld
import Derived.Deep.LoopGhost
import Derived.Deep.WholeRow
import Derived.Deep.OwnRows
import Derived.StillTailTactics
import Derived.Great.Walk
import Derived.Great.BuildSlice
import Derived.WalkMore
import Derived.Deep.MidRow
import Derived.Deep.RegionHeld3
import Derived.Deep.DeepCutAuto
import Derived.Lib.OwnBridge
import Derived.Lib.SliceRun
import Derived.WalkSpells
import Derived.Deep.RegionWith
import Derived.Lib.AppendZerosOnto
import Derived.Deep.CutBlock
import Derived.IntWalk
import Derived.Test.YthjmkmjojlfejaaGreatB07
import Derived.Test.YthjmkmjojlfejaaGreatB05
import Derived.Test.YthjmkmjojlfejaaGreatB06
import Derived.Test.YthjmkmjojlfejaaGreatB13
import Derived.Test.YthjmkmjojlfejaaGreatB09
import Derived.Test.YthjmkmjojlfejaaGreatB08

namespace Go.Proofs.YthjmkmjojlfejaaGreat
theorem sumN_add (f g : Nat → Int) : ∀ n, sumN (fun i => f i + g i) n = sumN f n + sumN g n
  | 0 => rfl
  | n + 1 => by simp only [sumN, sumN_add f g n]; omega
end Go.Proofs.YthjmkmjojlfejaaGreat

namespace Go.Proofs.YthjmkmjojlfejaaGreat
theorem cut_go_in {G : List Gs} {m : Int} : ∀ (f : Nat) (lo hi : Int), lo ≤ hi → lo ≤ cutGo G m f lo hi ∧ cutGo G m f lo hi ≤ hi
  | 0, lo, hi, h => ⟨Int.le_refl _, h⟩
  | f + 1, lo, hi, h => by
    unfold cutGo
    split
    · rename_i hlt
      have hm : lo < lo + (hi - lo + 1).tdiv 2 ∧ lo + (hi - lo + 1).tdiv 2 ≤ hi := by
        rw [Int.tdiv_eq_ediv_of_nonneg (by omega)]; omega
      split
      · have := cut_go_in (G := G) (m := m) f _ hi hm.2; omega
      · have := cut_go_in (G := G) (m := m) f lo (lo + (hi - lo + 1).tdiv 2 - 1) (by omega); omega
    · exact ⟨Int.le_refl _, h⟩
end Go.Proofs.YthjmkmjojlfejaaGreat

namespace Go.Proofs.YthjmkmjojlfejaaGreat
/-- One fraction is at most another one. -/
def fle (p q : Int × Int) : Prop := p.1 * q.2 ≤ q.1 * p.2
theorem fle_trans {p q r : Int × Int} (hp : 0 < p.2) (hq : 0 < q.2) (hr : 0 < r.2) (h1 : fle p q) (h2 : fle q r) : fle p r := by
  unfold fle at *
  have m1 := Int.mul_le_mul_of_nonneg_right h1 (Int.le_of_lt hr)
  have m2 := Int.mul_le_mul_of_nonneg_right h2 (Int.le_of_lt hp)
  apply Int.le_of_mul_le_mul_left (a := q.2) _ hq
  grind
theorem partAt_mono {t : Gs} (h : t.ok) (s : Int) {x : Int} (h0 : t.a ≤ x) (h1 : x + 1 ≤ t.b) : (partAt s t x).1 ≤ (partAt s t (x + 1)).1 := by
  obtain ⟨⟨a1, a2, a3⟩, ⟨w1, w2⟩, e1, e2⟩ := h
  unfold partAt Gs.run
  simp only
  obtain ⟨d, hd⟩ : ∃ d, d = x - t.a := ⟨_, rfl⟩
  obtain ⟨r, hr⟩ : ∃ r, r = t.b - t.a := ⟨_, rfl⟩
  rw [← hd, ← hr, show x + 1 - t.a = d + 1 by omega]
  have m1 : 0 ≤ t.w * (2 * r - 2 * d - 1) := Int.mul_nonneg w1 (by omega)
  have m2 : 0 ≤ t.e * (2 * d + 1) := Int.mul_nonneg e1 (by omega)
  grind
theorem partAt_ge {t : Gs} (h : t.ok) {s x : Int} (h0 : t.a ≤ x) (h1 : x ≤ t.b) : s * t.run ≤ (partAt s t x).1 := by
  obtain ⟨⟨a1, a2, a3⟩, ⟨w1, w2⟩, e1, e2⟩ := h
  unfold partAt Gs.run
  simp only
  obtain ⟨d, hd⟩ : ∃ d, d = x - t.a := ⟨_, rfl⟩
  obtain ⟨r, hr⟩ : ∃ r, r = t.b - t.a := ⟨_, rfl⟩
  rw [← hd, ← hr]
  have d0 : 0 ≤ d := by omega
  have m1 : 0 ≤ t.w * d * (2 * r - d) := Int.mul_nonneg (Int.mul_nonneg w1 d0) (by omega)
  have m2 : 0 ≤ t.e * d * d := Int.mul_nonneg (Int.mul_nonneg e1 d0) d0
  grind
theorem GrOk.den {G : List Gs} (h : GrOk G) {x : Int} (h0 : fromP G ≤ x) (h1 : x ≤ toP G) : 0 < (partP G x).2 := by have := h.part_bd h0 h1; omega
theorem GrOk.mono1 {G : List Gs} (h : GrOk G) {x : Int} (h0 : fromP G ≤ x) (h1 : x + 1 ≤ toP G) : fle (partP G x) (partP G (x + 1)) := by
  obtain ⟨k, hk, g1, g2, g3, g4⟩ := h.strip h0 (show x ≤ toP G by omega)
  obtain ⟨j, hj, q1, q2, q3, q4⟩ := h.strip (show fromP G ≤ x + 1 by omega) h1
  rw [g4, q4]
  have tk := h.each _ (List.getElem_mem hk)
  have tj := h.each _ (List.getElem_mem hj)
  by_cases hx : x + 1 ≤ G[k].b
  · have hjk : j = k := by
      rcases Nat.lt_trichotomy j k with c | c | c
      · have := g3 j c; omega
      · exact c
      · have := q3 k c; omega
    subst hjk
    exact Int.mul_le_mul_of_nonneg_right (partAt_mono tk _ g1 hx) (by have := tk.1; unfold partAt Gs.run; simp only; omega)
  · have hxe : x = G[k].b := by omega
    have hkl : k + 1 < G.length := by
      apply Classical.byContradiction
      intro hn
      have e : k = G.length - 1 := by omega
      have := h.toAt
      simp only [← e] at this
      omega
    have hc := h.chain k hkl
    have t1 := (h.each _ (List.getElem_mem hkl)).1
    have hjk : j = k + 1 := by
      rcases Nat.lt_trichotomy j (k + 1) with c | c | c
      · rcases Nat.lt_or_eq_of_le (show j ≤ k by omega) with e | e
        · have := g3 j e; omega
        · subst e; omega
      · exact c
      · have := q3 (k + 1) c; omega
    subst hjk
    have m := partAt_ge tj (s := areaTo G (k + 1)) q1 q2
    have e := partAt_end (areaTo G k) G[k]
    rw [← areaTo_succ hk] at e
    unfold fle
    rw [hxe, e]
    show areaTo G (k + 1) * G[k].run * G[k + 1].run ≤ (partAt (areaTo G (k + 1)) G[k + 1] (G[k].b + 1)).1 * G[k].run
    rw [hxe] at m
    have := Int.mul_le_mul_of_nonneg_right m (show 0 ≤ G[k].run by have := tk.1; unfold Gs.run; omega)
    grind
theorem GrOk.mono {G : List Gs} (h : GrOk G) {x : Int} (h0 : fromP G ≤ x) : ∀ d : Nat, x + d ≤ toP G → fle (partP G x) (partP G (x + d))
  | 0, _ => by rw [show x + ((0 : Nat) : Int) = x by omega]; exact Int.le_refl _
  | d + 1, h1 => by
    have ih := h.mono h0 d (by omega)
    have := h.mono1 (x := x + d) (by omega) (by omega)
    rw [show x + ((d + 1 : Nat) : Int) = x + d + 1 by omega]
    exact fle_trans (h.den h0 (by omega)) (h.den (by omega) (by omega)) (h.den (by omega) (by omega)) ih this
theorem GrOk.le {G : List Gs} (h : GrOk G) {x y : Int} (h0 : fromP G ≤ x) (hxy : x ≤ y) (h1 : y ≤ toP G) : fle (partP G x) (partP G y) := by
  have := h.mono h0 (y - x).toNat (by omega)
  rwa [show x + ((y - x).toNat : Int) = y by omega] at this
/-- At most so much lies west of an X. -/
def leM (G : List Gs) (m x : Int) : Prop := (partP G x).1 ≤ m * (partP G x).2
theorem GrOk.part_from {G : List Gs} (h : GrOk G) : (partP G (fromP G)).1 = 0 := by
  have he := h.ends
  obtain ⟨k, hk, g1, g2, g3, g4⟩ := h.strip (x := fromP G) (Int.le_refl _) (by omega)
  have hk0 : k = 0 := by
    rcases Nat.eq_zero_or_pos k with c | c
    · exact c
    · have := g3 0 c
      have a := (h.each _ (List.getElem_mem h.ne)).1
      have := h.fromAt
      omega
  subst hk0
  rw [g4, show fromP G = G[0].a from h.fromAt]
  unfold partAt areaTo
  simp [isum]
theorem GrOk.part_to {G : List Gs} (h : GrOk G) : (partP G (toP G)).1 = wholeP G * (partP G (toP G)).2 := by
  have he := h.ends
  obtain ⟨k, hk, g1, g2, g3, g4⟩ := h.strip (x := toP G) (by omega) (Int.le_refl _)
  have hb : toP G = G[k].b := by
    have hge : G[k].b ≤ toP G := by
      have key : ∀ j, (hj : j < G.length) → k ≤ j → G[k].b ≤ G[j].b := by
        intro j
        induction j with
        | zero => intro hj hle; obtain rfl : k = 0 := by omega
                  exact Int.le_refl _
        | succ j ih =>
          intro hj hle
          by_cases e : k = j + 1
          · subst e; exact Int.le_refl _
          · have := ih (by omega) (by omega)
            have := h.chain j hj
            have := (h.each _ (List.getElem_mem hj)).1
            omega
      have := key (G.length - 1) (by have := h.ne; omega) (by omega)
      rw [h.toAt]; exact this
    omega
  have hr := (h.each _ (List.getElem_mem hk)).1
  unfold wholeP
  rw [g4, hb, partAt_end, show (partAt (areaTo G k) G[k] G[k].b).2 = G[k].run from rfl, Int.mul_tdiv_cancel _ (by unfold Gs.run; omega)]
/-- A cut: at most so much lies west of it, and of the next X more. -/
theorem cut_go_spec {G : List Gs} {m : Int} : ∀ (f : Nat) (lo hi : Int), lo ≤ hi → (hi - lo).toNat ≤ f → leM G m lo → (hi = toP G ∨ ¬ leM G m (hi + 1)) →
    leM G m (cutGo G m f lo hi) ∧ (cutGo G m f lo hi = toP G ∨ ¬ leM G m (cutGo G m f lo hi + 1))
  | 0, lo, hi, h, hf, h1, h2 => by
    obtain rfl : lo = hi := by omega
    exact ⟨h1, h2⟩
  | f + 1, lo, hi, h, hf, h1, h2 => by
    unfold cutGo
    split
    · rename_i hlt
      have hm : lo < lo + (hi - lo + 1).tdiv 2 ∧ lo + (hi - lo + 1).tdiv 2 ≤ hi := by
        rw [Int.tdiv_eq_ediv_of_nonneg (by omega)]; omega
      split
      · rename_i hc
        exact cut_go_spec f _ hi hm.2 (by omega) hc h2
      · rename_i hc
        refine cut_go_spec f lo _ (by omega) (by omega) h1 (.inr ?_)
        rw [Int.sub_add_cancel]; exact hc
    · rename_i hlt
      obtain rfl : lo = hi := by omega
      exact ⟨h1, h2⟩
theorem GrOk.cut {G : List Gs} (h : GrOk G) {m : Int} (hm : 0 ≤ m) : (fromP G ≤ cutP G m ∧ cutP G m ≤ toP G) ∧ leM G m (cutP G m) ∧ (cutP G m = toP G ∨ ¬ leM G m (cutP G m + 1)) := by
  have he := h.ends
  refine ⟨cut_go_in _ _ _ (by omega), ?_⟩
  refine cut_go_spec _ _ _ (by omega) (Nat.le_refl _) ?_ (.inl rfl)
  unfold leM
  rw [h.part_from]
  exact Int.mul_nonneg hm (by have := h.den (x := fromP G) (Int.le_refl _) (by omega); omega)
theorem lowest_pos {n : Int × Int} (h0 : 0 ≤ n.1) (h1 : 0 < n.2) : ∃ g : Int, 0 < g ∧ n.1 = (lowest n).1 * g ∧ n.2 = (lowest n).2 * g ∧ 0 ≤ (lowest n).1 ∧ 1 ≤ (lowest n).2 ∧ (lowest n).2 ≤ n.2 ∧ (lowest n).1 ≤ n.1 := by
  obtain ⟨p, q⟩ := n
  simp only at h0 h1
  obtain ⟨a, rfl⟩ := Int.eq_ofNat_of_zero_le h0
  obtain ⟨b, rfl⟩ := Int.eq_ofNat_of_zero_le (Int.le_of_lt h1)
  have hb : 0 < b := by omega
  have hg : 0 < Nat.gcd a b := Nat.gcd_pos_of_pos_right _ hb
  refine ⟨(Nat.gcd a b : Nat), by omega, ?_⟩
  unfold lowest
  simp only [Int.toNat_natCast]
  rw [← Int.ofNat_tdiv, ← Int.ofNat_tdiv]
  have e1 : a / Nat.gcd a b * Nat.gcd a b = a := Nat.div_mul_cancel (Nat.gcd_dvd_left a b)
  have e2 : b / Nat.gcd a b * Nat.gcd a b = b := Nat.div_mul_cancel (Nat.gcd_dvd_right a b)
  have e3 : 0 < b / Nat.gcd a b := Nat.div_pos (Nat.le_of_dvd hb (Nat.gcd_dvd_right a b)) hg
  have e4 := Nat.div_le_self b (Nat.gcd a b)
  have e5 := Nat.div_le_self a (Nat.gcd a b)
  obtain ⟨q, hq⟩ : ∃ q, a / Nat.gcd a b = q := ⟨_, rfl⟩
  obtain ⟨r, hr⟩ : ∃ q, b / Nat.gcd a b = q := ⟨_, rfl⟩
  obtain ⟨g, hgg⟩ : ∃ q, Nat.gcd a b = q := ⟨_, rfl⟩
  rw [hq, hgg] at e1
  rw [hr, hgg] at e2
  rw [hr] at e3 e4
  rw [hq] at e5
  rw [hq, hr, hgg]
  have e6 : (a : Int) = (q : Int) * (g : Int) := by rw [← Int.natCast_mul, e1]
  have e7 : (b : Int) = (r : Int) * (g : Int) := by rw [← Int.natCast_mul, e2]
  exact ⟨e6, e7, by omega, by omega, by omega, by omega⟩
theorem lowest_zero {q : Int} (h : 0 < q) : lowest (0, q) = (0, 1) := by
  obtain ⟨b, rfl⟩ := Int.eq_ofNat_of_zero_le (Int.le_of_lt h)
  have hb : 0 < b := by omega
  unfold lowest
  simp only [Int.toNat_natCast, Int.toNat_zero, Nat.gcd_zero_left]
  rw [Int.tdiv_self (by omega)]
  simp
theorem lowest_whole {a q : Int} (h0 : 0 ≤ a) (h : 0 < q) : lowest (a * q, q) = (a, 1) := by
  obtain ⟨b, rfl⟩ := Int.eq_ofNat_of_zero_le (Int.le_of_lt h)
  obtain ⟨c, rfl⟩ := Int.eq_ofNat_of_zero_le h0
  have hb : 0 < b := by omega
  unfold lowest
  have e : ((c : Int) * (b : Int)).toNat = c * b := by
    rw [← Int.natCast_mul, Int.toNat_natCast]
  simp only [Int.toNat_natCast, e, Nat.gcd_mul_left_left]
  rw [Int.tdiv_self (by omega), Int.mul_tdiv_cancel _ (by omega)]
/-- As the law compares: a fraction in lowest terms is at most a number. -/
theorem lowest_le {n : Int × Int} (h0 : 0 ≤ n.1) (h1 : 0 < n.2) (m : Int) : (lowest n).1 ≤ m * (lowest n).2 ↔ n.1 ≤ m * n.2 := by
  obtain ⟨g, hg, e1, e2, _⟩ := lowest_pos h0 h1
  constructor
  · intro h
    have := Int.mul_le_mul_of_nonneg_right h (Int.le_of_lt hg)
    rw [e1, e2]
    grind
  · intro h
    rw [e1, e2] at h
    refine Int.le_of_mul_le_mul_right (a := g) ?_ hg
    grind
theorem lowest_fle {p q : Int × Int} (h0 : 0 ≤ p.1) (h1 : 0 < p.2) (g0 : 0 ≤ q.1) (g1 : 0 < q.2) (h : fle p q) : fle (lowest p) (lowest q) := by
  obtain ⟨a, ha, e1, e2, _⟩ := lowest_pos h0 h1
  obtain ⟨b, hb, f1, f2, _⟩ := lowest_pos g0 g1
  unfold fle at *
  rw [e1, e2, f1, f2] at h
  refine Int.le_of_mul_le_mul_right (a := a * b) ?_ (Int.mul_pos ha hb)
  grind
/-- As the law compares two fractions: by whole numbers first. -/
theorem fle_parts {a b c d : Int} (_ha : 0 ≤ a) (hb : 0 < b) (_hc : 0 ≤ c) (hd : 0 < d) (h : a * d ≤ c * b) : a / b ≤ c / d ∧ (a / b = c / d → a % b * d ≤ c % d * b) := by
  have e1 := Int.mul_ediv_add_emod a b
  have e2 := Int.mul_ediv_add_emod c d
  have b1 := Int.emod_nonneg a (show b ≠ 0 by omega)
  have b2 := Int.emod_lt_of_pos c hd
  obtain ⟨q, hq⟩ : ∃ q, a / b = q := ⟨_, rfl⟩
  obtain ⟨r, hr⟩ : ∃ r, a % b = r := ⟨_, rfl⟩
  obtain ⟨q2, hq2⟩ : ∃ q, c / d = q := ⟨_, rfl⟩
  obtain ⟨r2, hr2⟩ : ∃ r, c % d = r := ⟨_, rfl⟩
  rw [hq, hr] at e1
  rw [hq2, hr2] at e2
  rw [hr] at b1
  rw [hr2] at b2
  rw [hq, hq2, hr, hr2]
  have hbd := Int.mul_pos hb hd
  have m1 : 0 ≤ r * d := Int.mul_nonneg b1 (by omega)
  have m2 : r2 * b < d * b := Int.mul_lt_mul_of_pos_right b2 hb
  have key : q * (b * d) + r * d ≤ q2 * (b * d) + r2 * b := by
    rw [← e1, ← e2] at h
    grind
  constructor
  · apply Classical.byContradiction
    intro hn
    have : q2 + 1 ≤ q := by omega
    have m3 := Int.mul_le_mul_of_nonneg_right this (Int.le_of_lt hbd)
    grind
  · intro e
    subst e
    omega
end Go.Proofs.YthjmkmjojlfejaaGreat

namespace Go.Proofs.YthjmkmjojlfejaaGreat
theorem sumN_ind (g : Nat → Int) (p : Nat) : ∀ n, sumN (fun i => if p = i then g i else 0) n = if p < n then g p else 0
  | 0 => by simp [sumN]
  | n + 1 => by
    simp only [sumN]
    rw [sumN_ind g p n]
    by_cases e : p = n
    · subst e; simp
    · rw [if_neg e]
      by_cases h : p < n
      · rw [if_pos h, if_pos (by omega)]; omega
      · rw [if_neg h, if_neg (by omega)]; rfl
theorem form_addAt {l : List Int} (y : List Int) {p : Nat} (d : Int) (hp : p < l.length) : formP (addAt l p d) y = formP l y + d * y.getD p 0 := by
  unfold formP
  rw [addAt_len]
  have e : ∀ i, i < l.length → (addAt l p d).getD i 0 * y.getD i 0 = l.getD i 0 * y.getD i 0 + (if p = i then d * y.getD i 0 else 0) := by
    intro i hi
    rw [addAt_get]
    by_cases h : p = i
    · rw [if_pos ⟨h, hp⟩, if_pos h, Int.add_mul]
    · rw [if_neg (fun q => h q.1), if_neg h]; simp
  rw [sumN_congr e, sumN_add, sumN_ind (fun i => d * y.getD i 0) p, if_pos hp]
theorem form_wStep {l y : List Int} {s : Str} (h1 : s.so.toNat < l.length) (h2 : s.no.toNat < l.length) (h3 : s.fso.toNat < l.length) (h4 : s.fno.toNat < l.length) :
    formP (wStep l s) y = formP l y + (gsOf y s).area := by
  unfold wStep
  rw [form_addAt _ _ (by simp only [addAt_len]; exact h4), form_addAt _ _ (by simp only [addAt_len]; exact h2), form_addAt _ _ (by simp only [addAt_len]; exact h3), form_addAt _ _ h1]
  show _ = _ + (s.east - s.west) * ((y.getD s.no.toNat 0 - y.getD s.so.toNat 0) + (y.getD s.fno.toNat 0 - y.getD s.fso.toNat 0))
  show _ + -(s.east - s.west) * _ + -(s.east - s.west) * _ + (s.east - s.west) * _ + (s.east - s.west) * _ = _
  grind
theorem form_zeros (n : Nat) (y : List Int) : formP (List.replicate n 0) y = 0 := by
  unfold formP
  refine sumN_zero fun i hi => ?_
  have : (List.replicate n (0 : Int)).getD i 0 = 0 := by
    simp only [List.getD_eq_getElem?_getD, List.getElem?_replicate]
    split <;> rfl
  rw [this]; simp
theorem form_strips {y : List Int} {N : Nat} : ∀ (ss : List Str) (l : List Int), l.length = N → (∀ s ∈ ss, s.so.toNat < N ∧ s.no.toNat < N ∧ s.fso.toNat < N ∧ s.fno.toNat < N) → formP (ss.foldl wStep l) y = formP l y + isum ((ss.map (gsOf y)).map Gs.area)
  | [], l, _, _ => by simp [isum]
  | s :: ss, l, hl, h => by
    obtain ⟨h1, h2, h3, h4⟩ := h s (List.mem_cons_self ..)
    rw [List.foldl_cons, form_strips ss _ (by rw [wStep_len]; exact hl) (fun t ht => h t (List.mem_cons_of_mem _ ht)), form_wStep (by omega) (by omega) (by omega) (by omega)]
    simp only [List.map_cons, isum]
    omega
theorem strip_lt {F : Fld} {p : Par} (hp : p.inside F) : ∀ s ∈ stripsP F p, s.so.toNat < F.points.toNat ∧ s.no.toNat < F.points.toNat ∧ s.fso.toNat < F.points.toNat ∧ s.fno.toNat < F.points.toNat := by
  intro s hs
  obtain ⟨k, hk, rfl⟩ := List.getElem_of_mem hs
  rw [stripsP_get F p hk]
  have hk2 : k < (p.est - p.wst).toNat := by rw [stripsP, stripsTo_len] at hk; exact hk
  obtain ⟨_, _, q3, q4, q5⟩ := id hp
  obtain ⟨a, b, c, d⟩ := strip_pts hp (s := p.wst.toNat + k) (by omega)
  omega
/-- The doubled area of a parcel: the form of its weights, and the sum of its strips. -/
theorem form_area (F : Fld) (y : List Int) {p : Par} (hp : p.inside F) : formP (weightsOf F p) y = areaTo (grP F y p) (grP F y p).length := by
  unfold weightsOf
  rw [form_strips _ _ (List.length_replicate ..) (strip_lt hp), form_zeros]
  unfold areaTo grP
  rw [List.take_length]
  omega
theorem whole_area {F : Fld} {y : List Int} {i : Int} (h : uprightE F y i = 0) : area2E F i y = (wholeP (grP F y (F.par i)), 0) := by
  obtain ⟨h1, h2, h3, h4, h5⟩ := upright_ok h
  unfold area2E
  rw [if_neg (by omega), if_neg (by rw [h2]; simp), h3.whole, form_area F y h4]
theorem whole_bd {G : List Gs} (h : GrOk G) : 0 ≤ wholeP G ∧ wholeP G ≤ 2400000000000 := by
  have := areaTo_bd h.each G.length (Nat.le_refl _)
  have hs := h.short
  rw [h.whole]
  omega
theorem ends_X {F : Fld} {y : List Int} {p : Par} (hp : p.inside F) : fromP (grP F y p) = stX F p.wst.toNat ∧ toP (grP F y p) = stX F p.est.toNat := by
  obtain ⟨_, _, q3, q4, q5⟩ := hp
  have hl := grP_len F y p
  constructor
  · unfold fromP
    rw [List.getD_eq_getElem?_getD, List.getElem?_eq_getElem (by omega), Option.getD_some, grP_get F y p (by omega)]
    rfl
  · unfold toP
    rw [List.getD_eq_getElem?_getD, List.getElem?_eq_getElem (by omega), Option.getD_some, grP_get F y p (by omega)]
    show stX F (p.wst.toNat + ((grP F y p).length - 1) + 1) = _
    congr 1
    omega
theorem west_in {F : Fld} {y : List Int} {i x : Int} (h : uprightE F y i = 0) (h0 : fromP (grP F y (F.par i)) ≤ x) (h1 : x ≤ toP (grP F y (F.par i))) : westE F y i x = (lowest (partP (grP F y (F.par i)) x), 0) := by
  unfold westE
  rw [if_neg (by omega), if_neg (by unfold inR; simp; omega)]
theorem west_first {F : Fld} {y : List Int} {i : Int} (h : uprightE F y i = 0) : westE F y i (fromP (grP F y (F.par i))) = ((0, 1), 0) := by
  obtain ⟨_, _, h3, _, _⟩ := upright_ok h
  have he := h3.ends
  rw [west_in h (Int.le_refl _) (by omega)]
  have hd := h3.den (x := fromP (grP F y (F.par i))) (Int.le_refl _) (by omega)
  have hn := h3.part_from
  obtain ⟨p, hp⟩ : ∃ p, partP (grP F y (F.par i)) (fromP (grP F y (F.par i))) = p := ⟨_, rfl⟩
  rw [hp] at hd hn ⊢
  obtain ⟨a, b⟩ := p
  simp only at hd hn
  subst hn
  rw [lowest_zero hd]
theorem west_last {F : Fld} {y : List Int} {i : Int} (h : uprightE F y i = 0) : westE F y i (toP (grP F y (F.par i))) = ((wholeP (grP F y (F.par i)), 1), 0) := by
  obtain ⟨_, _, h3, _, _⟩ := upright_ok h
  have he := h3.ends
  have hw := whole_bd h3
  rw [west_in h (by omega) (Int.le_refl _)]
  have hd := h3.den (x := toP (grP F y (F.par i))) (by omega) (Int.le_refl _)
  have hn := h3.part_to
  obtain ⟨p, hp⟩ : ∃ p, partP (grP F y (F.par i)) (toP (grP F y (F.par i))) = p := ⟨_, rfl⟩
  rw [hp] at hd hn ⊢
  obtain ⟨a, b⟩ := p
  simp only at hd hn
  subst hn
  rw [lowest_whole hw.1 hd]
theorem low_bd {G : List Gs} (h : GrOk G) {x : Int} (h0 : fromP G ≤ x) (h1 : x ≤ toP G) : (0 ≤ (lowest (partP G x)).1 ∧ (lowest (partP G x)).1 ≤ 400000000000000000) ∧ 1 ≤ (lowest (partP G x)).2 ∧ (lowest (partP G x)).2 ≤ 100000 := by
  obtain ⟨p1, p2, p3, p4⟩ := h.part_bd h0 h1
  obtain ⟨g, hg, e1, e2, e3, e4, e5, e6⟩ := lowest_pos p1 (show 0 < (partP G x).2 by omega)
  omega
/-- As the law says it: more to the west is not less. -/
def fallsB (a b c d : Int) : Bool := if b < 1 ∨ d < 1 ∨ a < 0 ∨ c < 0 ∨ 1000000 < b ∨ 1000000 < d then true else if a.tdiv b ≠ c.tdiv d then decide (c.tdiv d < a.tdiv b) else decide (c.tmod d * b < a.tmod b * d)
theorem west_up {G : List Gs} (h : GrOk G) {x : Int} (h0 : fromP G ≤ x) (h1 : x + 1 ≤ toP G) : fallsB (lowest (partP G x)).1 (lowest (partP G x)).2 (lowest (partP G (x + 1))).1 (lowest (partP G (x + 1))).2 = false := by
  have a1 := low_bd h h0 (show x ≤ toP G by omega)
  have a2 := low_bd h (show fromP G ≤ x + 1 by omega) h1
  have b1 := h.part_bd h0 (show x ≤ toP G by omega)
  have b2 := h.part_bd (show fromP G ≤ x + 1 by omega) h1
  have hf := lowest_fle b1.1 (show 0 < (partP G x).2 by omega) b2.1 (show 0 < (partP G (x + 1)).2 by omega) (h.mono1 h0 h1)
  unfold fle at hf
  obtain ⟨a, ha⟩ : ∃ z, (lowest (partP G x)).1 = z := ⟨_, rfl⟩
  obtain ⟨b, hb⟩ : ∃ z, (lowest (partP G x)).2 = z := ⟨_, rfl⟩
  obtain ⟨c, hc⟩ : ∃ z, (lowest (partP G (x + 1))).1 = z := ⟨_, rfl⟩
  obtain ⟨d, hd⟩ : ∃ z, (lowest (partP G (x + 1))).2 = z := ⟨_, rfl⟩
  rw [ha, hb, hc, hd] at hf ⊢
  rw [ha, hb] at a1
  rw [hc, hd] at a2
  have k := fle_parts a1.1.1 (show 0 < b by omega) a2.1.1 (show 0 < d by omega) hf
  unfold fallsB
  rw [if_neg (by omega), Int.tdiv_eq_ediv_of_nonneg a1.1.1, Int.tdiv_eq_ediv_of_nonneg a2.1.1, Int.tmod_eq_emod_of_nonneg a1.1.1, Int.tmod_eq_emod_of_nonneg a2.1.1]
  split
  · simp only [decide_eq_false_iff_not]; omega
  · rename_i e
    simp only [ne_eq, Decidable.not_not] at e
    have := k.2 e
    simp only [decide_eq_false_iff_not]; omega
/-- A cut, in the fractions that West returns. -/
theorem cut_west {G : List Gs} (h : GrOk G) {m : Int} (hm : 0 ≤ m) : (lowest (partP G (cutP G m))).1 ≤ m * (lowest (partP G (cutP G m))).2 ∧ (cutP G m = toP G ∨ m * (lowest (partP G (cutP G m + 1))).2 < (lowest (partP G (cutP G m + 1))).1) := by
  obtain ⟨⟨h1, h2⟩, h3, h4⟩ := h.cut hm
  have he := h.ends
  have b := h.part_bd h1 h2
  refine ⟨(lowest_le b.1 (by omega) m).2 h3, ?_⟩
  rcases h4 with e | e
  · exact .inl e
  · by_cases e2 : cutP G m = toP G
    · exact .inl e2
    · have b2 := h.part_bd (x := cutP G m + 1) (by omega) (by omega)
      refine .inr (Int.not_le.1 fun hl => e ((lowest_le b2.1 (by omega) m).1 hl))
end Go.Proofs.YthjmkmjojlfejaaGreat

namespace Go.Proofs.YthjmkmjojlfejaaGreat
open Go Go.RowKit Go.Shelf
set_option maxRecDepth 100000 in
set_option maxHeartbeats 4000000 in
theorem most_any (w : World) (a b n : Int) (hb : 1 ≤ b) (hb2 : b ≤ 100000) (hn : -2400000000000 ≤ n ∧ n ≤ 2400000000000) :
    Calls Tryz.prog 38 #[.agg #[.int .i64 a, .int .i64 b], .int .i64 n] w fun e w' => e = .returned (.bool (decide (a ≤ n * b))) ∧ Below w.heap.size w w' := by
  obtain ⟨W, hW⟩ : ∃ W, W = w.alloc (.cells #[.int .i64 a, .int .i64 b] 49) := ⟨_, rfl⟩
  have B0 := hidE (show Below w.heap.size w W by rw [hW]; exact (Below.refl _ _).alloc (Nat.le_refl _) _)
  have x0 : W.heap[w.heap.size]? = some (.cells #[.int .i64 a, .int .i64 b] 49 (0,0)) := by rw [hW]; exact heap_alloc_new _ _
  have f0 : W.cell? ⟨w.heap.size, 0, none⟩ = some (.int .i64 a) := by rw [cell_of_row _ _ _ _ _ _ x0]; rfl
  have f1 : W.cell? ⟨w.heap.size, 1, none⟩ = some (.int .i64 b) := by rw [cell_of_row _ _ _ _ _ _ x0]; rfl
  have m := mul_bd (a := n) (b := b) (A := 2400000000000) (B := 100000) hn.1 hn.2 (by omega) (by omega)
  obtain ⟨p, hp⟩ : ∃ p, n * b = p := ⟨_, rfl⟩
  rw [hp] at m ⊢
  have wp : IntKind.i64.wrap p = p := IntWalk.i64_in _ (by omega)
  have d0 : decide (b > 0) = true := by simp; omega
  have d0' : decide (0 < b) = true := by simp; omega
  clear x0 m hn hb hb2
  go_enter Tryz.func38, Tryz.ntmps38
  go_upto_region 1 with fail
  rw [← hW]
  clear hW
  go_wp2_with fail
  go_ret
  exact ⟨rfl, B0.out⟩
theorem tdiv_bd {a b : Int} (ha : 0 ≤ a) (hb : 1 ≤ b) : 0 ≤ a.tdiv b ∧ a.tdiv b ≤ a ∧ 0 ≤ a.tmod b ∧ a.tmod b < b := by
  rw [Int.tdiv_eq_ediv_of_nonneg ha, Int.tmod_eq_emod_of_nonneg ha]
  exact ⟨Int.ediv_nonneg ha (by omega), Int.ediv_le_self _ ha, Int.emod_nonneg _ (by omega), Int.emod_lt_of_pos _ (by omega)⟩
set_option maxRecDepth 100000 in
set_option maxHeartbeats 8000000 in
theorem falls_any (w : World) (a b c d : Int) (ha : 0 ≤ a) (ha2 : a ≤ 400000000000000000) (hb : 1 ≤ b) (hb2 : b ≤ 100000) (hc : 0 ≤ c) (hc2 : c ≤ 400000000000000000) (hd : 1 ≤ d) (hd2 : d ≤ 100000) :
    Calls Tryz.prog 36 #[.agg #[.int .i64 a, .int .i64 b], .agg #[.int .i64 c, .int .i64 d]] w fun e w' => e = .returned (.bool (fallsB a b c d)) ∧ Below w.heap.size w w' := by
  obtain ⟨V, hV⟩ : ∃ W, W = w.alloc (.cells #[.int .i64 a, .int .i64 b] 49) := ⟨_, rfl⟩
  have vs : V.heap.size = w.heap.size + 1 := by rw [hV]; simp
  obtain ⟨W, hW⟩ : ∃ W, W = V.alloc (.cells #[.int .i64 c, .int .i64 d] 49) := ⟨_, rfl⟩
  have B0 := hidE (show Below w.heap.size w W by rw [hW, hV]; exact ((Below.refl _ _).alloc (Nat.le_refl _) _).alloc (by simp) _)
  have x0 : W.heap[w.heap.size]? = some (.cells #[.int .i64 a, .int .i64 b] 49 (0,0)) := by rw [hW, hV, Below.heap_alloc _ _ _ (by simp)]; exact heap_alloc_new _ _
  have x1 : W.heap[w.heap.size + 1]? = some (.cells #[.int .i64 c, .int .i64 d] 49 (0,0)) := by rw [hW, ← vs]; exact heap_alloc_new _ _
  have f0 : W.cell? ⟨w.heap.size, 0, none⟩ = some (.int .i64 a) := by rw [cell_of_row _ _ _ _ _ _ x0]; rfl
  have f1 : W.cell? ⟨w.heap.size, 1, none⟩ = some (.int .i64 b) := by rw [cell_of_row _ _ _ _ _ _ x0]; rfl
  have f2 : W.cell? ⟨w.heap.size + 1, 0, none⟩ = some (.int .i64 c) := by rw [cell_of_row _ _ _ _ _ _ x1]; rfl
  have f3 : W.cell? ⟨w.heap.size + 1, 1, none⟩ = some (.int .i64 d) := by rw [cell_of_row _ _ _ _ _ _ x1]; rfl
  obtain ⟨p1, p2, p3, p4⟩ := tdiv_bd ha hb
  obtain ⟨g1, g2, g3, g4⟩ := tdiv_bd hc hd
  obtain ⟨P, hP⟩ : ∃ P, fallsB a b c d = P := ⟨_, rfl⟩
  rw [hP]
  unfold fallsB at hP
  rw [if_neg (by omega)] at hP
  obtain ⟨q, hq⟩ : ∃ q, a.tdiv b = q := ⟨_, rfl⟩
  obtain ⟨r, hr⟩ : ∃ q, a.tmod b = q := ⟨_, rfl⟩
  obtain ⟨q2, hq2⟩ : ∃ q, c.tdiv d = q := ⟨_, rfl⟩
  obtain ⟨r2, hr2⟩ : ∃ q, c.tmod d = q := ⟨_, rfl⟩
  rw [hq, hq2, hr, hr2] at hP
  rw [hq] at p1 p2
  rw [hr] at p3 p4
  rw [hq2] at g1 g2
  rw [hr2] at g3 g4
  have m1 := mul_bd (a := r) (b := d) (A := 100000) (B := 100000) (by omega) (by omega) (by omega) (by omega)
  have m2 := mul_bd (a := r2) (b := b) (A := 100000) (B := 100000) (by omega) (by omega) (by omega) (by omega)
  obtain ⟨s, hs⟩ : ∃ p, r * d = p := ⟨_, rfl⟩
  obtain ⟨s2, hs2⟩ : ∃ p, r2 * b = p := ⟨_, rfl⟩
  rw [hs, hs2] at hP
  rw [hs] at m1
  rw [hs2] at m2
  have w1 : IntKind.i64.wrap q = q := IntWalk.i64_in _ (by omega)
  have w2 : IntKind.i64.wrap q2 = q2 := IntWalk.i64_in _ (by omega)
  have w3 : IntKind.i64.wrap r = r := IntWalk.i64_in _ (by omega)
  have w4 : IntKind.i64.wrap r2 = r2 := IntWalk.i64_in _ (by omega)
  have w5 : IntKind.i64.wrap s = s := IntWalk.i64_in _ (by omega)
  have w6 : IntKind.i64.wrap s2 = s2 := IntWalk.i64_in _ (by omega)
  have d0 : (b == 0) = false := by simp; omega
  have d1 : (d == 0) = false := by simp; omega
  have d2 : b ≠ 0 := by omega
  have d3 : d ≠ 0 := by omega
  have e0 : decide (b < 1) = false := by simp; omega
  have e1 : decide (d < 1) = false := by simp; omega
  have e2 : decide (a < 0) = false := by simp; omega
  have e3 : decide (c < 0) = false := by simp; omega
  have e4 : decide (b > 1000000) = false := by simp; omega
  have e5 : decide (d > 1000000) = false := by simp; omega
  have e4' : decide (1000000 < b) = false := by simp; omega
  have e5' : decide (1000000 < d) = false := by simp; omega
  clear x0 x1 vs m1 m2 p1 p2 p3 p4 g1 g2 g3 g4 ha ha2 hb hb2 hc hc2 hd hd2
  by_cases hqq : q = q2
  · have e6 : (q != q2) = false := by simpa using hqq
    rw [if_neg (by simpa using hqq)] at hP
    have HP := hidE hP
    clear hP hqq
    go_enter Tryz.func36, Tryz.ntmps36
    go_upto_region 1 with fail
    rw [← hV, ← hW]
    clear hV hW
    go_upto_region 3 with fail
    go_quiet (fail)
    go_upto_region 6 with fail
    go_quiet (fail)
    go_wp2_with fail
    go_ret
    obtain rfl := HP.out
    exact ⟨rfl, (B0.out.trans (below_drewN' _ _)).trans (below_drewN' _ _)⟩
  · have e6 : (q != q2) = true := by simpa using hqq
    rw [if_pos (by simpa using hqq)] at hP
    have HP := hidE hP
    clear hP hqq
    go_enter Tryz.func36, Tryz.ntmps36
    go_upto_region 1 with fail
    rw [← hV, ← hW]
    clear hV hW
    go_upto_region 3 with fail
    go_quiet (fail)
    go_wp2_with fail
    go_ret
    obtain rfl := HP.out
    exact ⟨rfl, B0.out.trans (below_drewN' _ _)⟩
end Go.Proofs.YthjmkmjojlfejaaGreat

namespace Go.Proofs.YthjmkmjojlfejaaGreat
open Go Go.RowKit Go.Shelf
/-- A field of few stakes, marks, parcels and variations. -/
def plainP (F : Fld) : Bool := decide (F.sts.length ≤ 14) && decide (F.lms.length ≤ 12) && decide (F.prs.length ≤ 42) && decide (F.vrs.length ≤ 42)
set_option maxHeartbeats 4000000 in
theorem plain_any (w : World) (x : FV) (F : Fld) (h1 : F.sts.length ≤ 9223372036854775807) (h2 : F.lms.length ≤ 9223372036854775807) (h3 : F.prs.length ≤ 9223372036854775807) (h4 : F.vrs.length ≤ 9223372036854775807) :
    Calls Tryz.prog 33 #[x.val F] w fun e w' => e = .returned (.bool (plainP F)) ∧ Below w.heap.size w w' := by
  have B0 := hidE (show Below w.heap.size w (w.alloc (.cells (x.arr F) 46)) from (Below.refl _ _).alloc (Nat.le_refl _) _)
  obtain ⟨P, hP⟩ : ∃ P, plainP F = P := ⟨_, rfl⟩
  rw [hP]
  unfold plainP at hP
  unfold FV.val FV.arr at *
  obtain ⟨n1, e1⟩ : ∃ n, F.sts.length = n := ⟨_, rfl⟩
  obtain ⟨n2, e2⟩ : ∃ n, F.lms.length = n := ⟨_, rfl⟩
  obtain ⟨n3, e3⟩ : ∃ n, F.prs.length = n := ⟨_, rfl⟩
  obtain ⟨n4, e4⟩ : ∃ n, F.vrs.length = n := ⟨_, rfl⟩
  rw [e1] at h1 hP B0 ⊢
  rw [e2] at h2 hP B0 ⊢
  rw [e3] at h3 hP B0 ⊢
  rw [e4] at h4 hP B0 ⊢
  clear e1 e2 e3 e4
  by_cases c1 : n1 ≤ 14
  rotate_left
  · have d1 : decide ((n1 : Int) ≤ 14) = false := by simp; omega
    have g1 : decide (n1 ≤ 14) = false := by simp; omega
    have HP := hidE (show false = P by rw [← hP, g1]; simp)
    clear hP
    go_enter Tryz.func33, Tryz.ntmps33
    go_wp2_with fail
    go_ret
    exact ⟨by rw [← HP.out]; rfl, B0.out⟩
  have d1 : decide ((n1 : Int) ≤ 14) = true := by simp; omega
  have g1 : decide (n1 ≤ 14) = true := by simp; omega
  by_cases c2 : n2 ≤ 12
  rotate_left
  · have d2 : decide ((n2 : Int) ≤ 12) = false := by simp; omega
    have g2 : decide (n2 ≤ 12) = false := by simp; omega
    have HP := hidE (show false = P by rw [← hP, g2]; simp)
    clear hP
    go_enter Tryz.func33, Tryz.ntmps33
    go_wp2_with fail
    go_ret
    exact ⟨by rw [← HP.out]; rfl, B0.out⟩
  have d2 : decide ((n2 : Int) ≤ 12) = true := by simp; omega
  have g2 : decide (n2 ≤ 12) = true := by simp; omega
  by_cases c3 : n3 ≤ 42
  rotate_left
  · have d3 : decide ((n3 : Int) ≤ 42) = false := by simp; omega
    have g3 : decide (n3 ≤ 42) = false := by simp; omega
    have HP := hidE (show false = P by rw [← hP, g3]; simp)
    clear hP
    go_enter Tryz.func33, Tryz.ntmps33
    go_wp2_with fail
    go_ret
    exact ⟨by rw [← HP.out]; rfl, B0.out⟩
  have d3 : decide ((n3 : Int) ≤ 42) = true := by simp; omega
  have g3 : decide (n3 ≤ 42) = true := by simp; omega
  by_cases c4 : n4 ≤ 42
  rotate_left
  · have d4 : decide ((n4 : Int) ≤ 42) = false := by simp; omega
    have g4 : decide (n4 ≤ 42) = false := by simp; omega
    have HP := hidE (show false = P by rw [← hP, g4]; simp)
    clear hP
    go_enter Tryz.func33, Tryz.ntmps33
    go_wp2_with fail
    go_ret
    exact ⟨by rw [← HP.out]; rfl, B0.out⟩
  have d4 : decide ((n4 : Int) ≤ 42) = true := by simp; omega
  have g4 : decide (n4 ≤ 42) = true := by simp; omega
  have HP := hidE (show true = P by rw [← hP, g1, g2, g3, g4]; simp)
  clear hP
  go_enter Tryz.func33, Tryz.ntmps33
  go_wp2_with fail
  go_ret
  exact ⟨by rw [← HP.out]; rfl, B0.out⟩
end Go.Proofs.YthjmkmjojlfejaaGreat

namespace Go.Proofs.YthjmkmjojlfejaaGreat
open Go Go.RowKit Go.Shelf
theorem west_err {F : Fld} {y : List Int} {i x : Int} (h : (westE F y i x).2 ≠ 0) : (westE F y i x).1 = (0, 0) := by
  unfold westE at h ⊢
  split
  · rfl
  · rename_i h1
    rw [if_neg h1] at h
    split
    · rfl
    · rename_i h2
      rw [if_neg h2] at h; exact absurd rfl h
theorem west_ok {F : Fld} {y : List Int} {i x : Int} (h : (westE F y i x).2 = 0) : uprightE F y i = 0 ∧ fromP (grP F y (F.par i)) ≤ x ∧ x ≤ toP (grP F y (F.par i)) := by
  unfold westE at h
  split at h
  · rename_i h1; exact absurd h h1
  · rename_i h1
    split at h
    · cases h
    · rename_i h2
      refine ⟨Classical.not_not.1 h1, ?_⟩
      exact inR_iff.1 (by simpa using h2)
set_option maxRecDepth 100000 in
set_option maxHeartbeats 64000000 in
theorem areaWest_of (hal : AliveOk) (w : World) (x : FV) (F : Fld) (a : Option Addr) (cap : Nat) (y : List Int) (i m q : Int) (hF : FldAt w x F) (hy : y.length ≤ 9223372036854775807) (h2 : IntsAt w a y) :
    Calls Tryz.prog 5 #[x.val F, .slice a y.length cap, .int .i64 i, .int .i64 m, .int .i64 q] w fun e w' => e = .returned (.bool true) ∧ Below w.heap.size w w' := by
  obtain ⟨aS, cS, aL, cL, aP, cP, aV, cV⟩ := x
  have HAL := hidE hal
  obtain ⟨W0, hW0⟩ : ∃ W0, W0 = w.alloc (.cells ((⟨aS, cS, aL, cL, aP, cP, aV, cV⟩ : FV).arr F) 46) := ⟨_, rfl⟩
  have BB0 : Hid (Below w.heap.size w W0) := hidE (by rw [hW0]; exact (Below.refl _ _).alloc (Nat.le_refl _) _)
  have FF0 : Hid (FldAt W0 ⟨aS, cS, aL, cL, aP, cP, aV, cV⟩ F) := hidE (by rw [hW0]; exact hF.alloc _)
  have YY0 : Hid (IntsAt W0 a y) := hidE (by rw [hW0]; exact h2.alloc _)
  have XF0 : Hid (W0.heap[w.heap.size]? = some (.cells ((⟨aS, cS, aL, cL, aP, cP, aV, cV⟩ : FV).arr F) 46 (0,0))) := hidE (by rw [hW0]; exact heap_alloc_new _ _)
  have HWS := hidE (fun (W : World) (v : Int) (hf : FldAt W ⟨aS, cS, aL, cL, aP, cP, aV, cV⟩ F) (hi : IntsAt W a y) => westE_any W ⟨aS, cS, aL, cL, aP, cP, aV, cV⟩ F i v a cap y hy hf hi)
  have HCT := hidE (fun (W : World) (hf : FldAt W ⟨aS, cS, aL, cL, aP, cP, aV, cV⟩ F) (hi : IntsAt W a y) => cutE_any W ⟨aS, cS, aL, cL, aP, cP, aV, cV⟩ F i q a cap y hy hf hi)
  have HAR := hidE (fun (W : World) (hf : FldAt W ⟨aS, cS, aL, cL, aP, cP, aV, cV⟩ F) (hi : IntsAt W a y) => area2E_any W ⟨aS, cS, aL, cL, aP, cP, aV, cV⟩ F i a cap y hy hf hi)
  have HPL := hidE (fun (W : World) => plain_any W ⟨aS, cS, aL, cL, aP, cP, aV, cV⟩ F (by have := hF.ls; omega) (by have := hF.ll; omega) (by have := hF.lp; omega) (by have := hF.lv; omega))
  have HRP := hidE hF.pr
  have HRS := hidE hF.st
  unfold FV.val FV.arr at *
  dsimp only at *
  clear hal hF h2
  by_cases hp : plainP F = false
  · rw [hp] at HPL
    go_enter Tryz.func5, Tryz.ntmps5
    go_upto_region 1 with fail
    rw [← hW0]
    clear hW0
    have f0 : W0.cell? ⟨w.heap.size, 0, none⟩ = some (.slice aS F.sts.length cS) := by rw [cell_of_row _ _ _ _ _ _ XF0.out]; rfl
    have f1 : W0.cell? ⟨w.heap.size, 1, none⟩ = some (.slice aL F.lms.length cL) := by rw [cell_of_row _ _ _ _ _ _ XF0.out]; rfl
    have f2 : W0.cell? ⟨w.heap.size, 2, none⟩ = some (.slice aP F.prs.length cP) := by rw [cell_of_row _ _ _ _ _ _ XF0.out]; rfl
    have f3 : W0.cell? ⟨w.heap.size, 3, none⟩ = some (.slice aV F.vrs.length cV) := by rw [cell_of_row _ _ _ _ _ _ XF0.out]; rfl
    have HC := hidE (HPL.out W0)
    go_wp2_with fail
    refine HC.out.mono ?_
    rintro e W1 ⟨rfl, hbx⟩
    clear HC f0 f1 f2 f3
    have hb : Below W0.heap.size W0 W1 := hbx
    have BB1 : Hid (Below w.heap.size w W1) := hidE (BB0.out.trans (hb.mono BB0.out.size))
    have FF1 : Hid (FldAt W1 ⟨aS, cS, aL, cL, aP, cP, aV, cV⟩ F) := hidE (FF0.out.below hb)
    have YY1 : Hid (IntsAt W1 a y) := hidE (YY0.out.below hb (Nat.le_refl _))
    have XF1 : Hid (W1.heap[w.heap.size]? = some (.cells #[.slice aS F.sts.length cS, .slice aL F.lms.length cL, .slice aP F.prs.length cP, .slice aV F.vrs.length cV] 46 (0,0))) := hidE (blk_below hb (lt_of_block XF0.out) XF0.out)
    clear hb BB0 FF0 YY0 XF0
    clear hbx
    go_wp2_with fail
    refine (HAL.out _).mono ?_
    rintro e w9 ⟨rfl, hb9⟩
    have B9 := hidE (BB1.out.trans (hb9.mono BB1.out.size))
    clear hb9
    go_wp2_with fail
    go_ret
    exact ⟨by simp, B9.out⟩
  have hp2 : plainP F = true := by simpa using hp
  rw [hp2] at HPL
  clear hp hp2
  by_cases hyl : 200 < y.length
  · have hd : decide ((y.length : Int) > 200) = true := by simp; omega
    have hd' : decide (200 < y.length) = true := by simp; omega
    go_enter Tryz.func5, Tryz.ntmps5
    go_upto_region 1 with fail
    rw [← hW0]
    clear hW0
    have f0 : W0.cell? ⟨w.heap.size, 0, none⟩ = some (.slice aS F.sts.length cS) := by rw [cell_of_row _ _ _ _ _ _ XF0.out]; rfl
    have f1 : W0.cell? ⟨w.heap.size, 1, none⟩ = some (.slice aL F.lms.length cL) := by rw [cell_of_row _ _ _ _ _ _ XF0.out]; rfl
    have f2 : W0.cell? ⟨w.heap.size, 2, none⟩ = some (.slice aP F.prs.length cP) := by rw [cell_of_row _ _ _ _ _ _ XF0.out]; rfl
    have f3 : W0.cell? ⟨w.heap.size, 3, none⟩ = some (.slice aV F.vrs.length cV) := by rw [cell_of_row _ _ _ _ _ _ XF0.out]; rfl
    have HC := hidE (HPL.out W0)
    go_wp2_with fail
    refine HC.out.mono ?_
    rintro e W1 ⟨rfl, hbx⟩
    clear HC f0 f1 f2 f3
    have hb : Below W0.heap.size W0 W1 := hbx
    have BB1 : Hid (Below w.heap.size w W1) := hidE (BB0.out.trans (hb.mono BB0.out.size))
    have FF1 : Hid (FldAt W1 ⟨aS, cS, aL, cL, aP, cP, aV, cV⟩ F) := hidE (FF0.out.below hb)
    have YY1 : Hid (IntsAt W1 a y) := hidE (YY0.out.below hb (Nat.le_refl _))
    have XF1 : Hid (W1.heap[w.heap.size]? = some (.cells #[.slice aS F.sts.length cS, .slice aL F.lms.length cL, .slice aP F.prs.length cP, .slice aV F.vrs.length cV] 46 (0,0))) := hidE (blk_below hb (lt_of_block XF0.out) XF0.out)
    clear hb BB0 FF0 YY0 XF0
    clear hbx
    go_wp2_with fail
    refine (HAL.out _).mono ?_
    rintro e w9 ⟨rfl, hb9⟩
    have B9 := hidE (BB1.out.trans (hb9.mono BB1.out.size))
    clear hb9
    go_wp2_with fail
    go_ret
    exact ⟨by simp, B9.out⟩
  have hd : decide ((y.length : Int) > 200) = false := by simp; omega
  have hd' : decide (200 < y.length) = false := by simp; omega
  clear hyl
  by_cases hz : (westE F y i m).2 = 0
  · obtain ⟨hu, hm0, hm1⟩ := west_ok hz
    obtain ⟨u1, _, hgr, hin, hck⟩ := upright_ok hu
    obtain ⟨_, n, rfl, hn, hpar⟩ := fielded_one u1
    have hends := ends_X (y := y) hin
    have hwh := whole_area hu
    have hwin := fun v => west_in (x := v) hu
    have hw1 := west_first hu
    have hw2 := west_last hu
    have hcin : ∀ q, 0 ≤ q → q ≤ wholeP (grP F y (F.par (n : Int))) → cutE F y (n : Int) q = (cutP (grP F y (F.par (n : Int))) q, 0) := fun q h0 h1 => by
      unfold cutE; rw [if_neg (by omega), if_neg (by rw [show inR q 0 (wholeP (grP F y (F.par (n : Int)))) = true from inR_iff.2 ⟨h0, h1⟩]; simp)]
    have hcout : ∀ q, (q < 0 ∨ wholeP (grP F y (F.par (n : Int))) < q) → cutE F y (n : Int) q = (0, 51) := fun q h0 => by
      unfold cutE; rw [if_neg (by omega), if_pos]
      cases e : inR q 0 (wholeP (grP F y (F.par (n : Int)))) with
      | false => rfl
      | true => have := inR_iff.1 e; omega
    have hup := fun x h0 h1 => west_up (x := x) hgr h0 h1
    have hlow := fun x h0 h1 => low_bd (x := x) hgr h0 h1
    have hwb := whole_bd hgr
    have hcut := fun m (hm : (0 : Int) ≤ m) => cut_west hgr hm
    have hcb := fun m (hm : (0 : Int) ≤ m) => (hgr.cut hm).1
    have hen := hgr.ends
    rw [hpar] at hin hends
    obtain ⟨bP, oP, haP, hbP, hcP⟩ := RecsAt.at HRP.out hn
    obtain ⟨G, hG⟩ : ∃ G, grP F y (F.par (n : Int)) = G := ⟨_, rfl⟩
    rw [← hpar, hG] at hends
    rw [hG] at hm0 hm1 hgr hwh hwin hw1 hw2 hcin hcout hup hlow hwb hcut hcb hen
    obtain ⟨p, hp⟩ : ∃ p, F.prs[n] = p := ⟨_, rfl⟩
    rw [hpar] at hends
    rw [hp] at hcP hin hends
    obtain ⟨pn, ps, pw, pe⟩ := p
    obtain ⟨_, _, i3, i4, i5⟩ := hin
    dsimp only at i3 i4 i5 hends
    obtain ⟨kw, rfl⟩ := Int.eq_ofNat_of_zero_le i3
    obtain ⟨ke, rfl⟩ := Int.eq_ofNat_of_zero_le (show 0 ≤ pe by omega)
    have hkw : kw < F.sts.length := by omega
    have hke : ke < F.sts.length := by omega
    obtain ⟨bS, oS, haS, hbS, hcS⟩ := RecsAt.at HRS.out hkw
    obtain ⟨bS2, oS2, haS2, _, hcS2⟩ := RecsAt.at HRS.out hke
    rw [haS] at haS2
    cases haS2
    subst haP haS
    have s0 := hcS 1 (by omega)
    have s1 := hcS2 1 (by omega)
    have c0 := hcP 0 (by omega)
    have c1 := hcP 1 (by omega)
    have c2 := hcP 2 (by omega)
    have c3 := hcP 3 (by omega)
    simp only [Par.cells, Sta.cells, List.getElem?_cons_zero, List.getElem?_cons_succ, Nat.add_zero] at c0 c1 c2 c3 s0 s1
    rw [← stX_get hkw] at s0
    rw [← stX_get hke] at s1
    simp only [Int.toNat_natCast] at hends
    rw [← hends.1] at s0
    rw [← hends.2] at s1
    have CC := hidE (And.intro c0 (And.intro c1 (And.intro c2 c3)))
    have CS := hidE (And.intro s0 s1)
    obtain ⟨fr, hfr⟩ : ∃ z, fromP G = z := ⟨_, rfl⟩
    obtain ⟨tt, htt⟩ : ∃ z, toP G = z := ⟨_, rfl⟩
    obtain ⟨wh, hwhv⟩ : ∃ z, wholeP G = z := ⟨_, rfl⟩
    rw [hfr] at hm0 hwin hw1 hup hlow hcb hen CS
    rw [htt] at hm1 hwin hw2 hup hlow hcut hcb hen CS
    rw [hwhv] at hwh hw2 hcin hcout hwb
    obtain ⟨LP, hLP⟩ : ∃ LP : Int → Int × Int, LP = fun v => lowest (partP G v) := ⟨_, rfl⟩
    have HWIN := hidE (fun v (a : fr ≤ v) (b : v ≤ tt) => show westE F y (n : Int) v = (LP v, 0) by rw [hLP]; exact hwin v a b)
    have HUP := hidE (fun v (a : fr ≤ v) (b : v + 1 ≤ tt) => show fallsB (LP v).1 (LP v).2 (LP (v + 1)).1 (LP (v + 1)).2 = false by rw [hLP]; exact hup v a b)
    have HLOW := hidE (fun v (a : fr ≤ v) (b : v ≤ tt) => show (0 ≤ (LP v).1 ∧ (LP v).1 ≤ 400000000000000000) ∧ 1 ≤ (LP v).2 ∧ (LP v).2 ≤ 100000 by rw [hLP]; exact hlow v a b)
    have HCUT := hidE (fun m (hm : (0 : Int) ≤ m) => show (LP (cutP G m)).1 ≤ m * (LP (cutP G m)).2 ∧ (cutP G m = tt ∨ m * (LP (cutP G m + 1)).2 < (LP (cutP G m + 1)).1) by rw [hLP]; exact hcut m hm)
    have HCB := hidE hcb
    have HCIN := hidE hcin
    have HCOUT := hidE hcout
    have HW1 := hidE hw1
    have HW2 := hidE hw2
    have HWH := hidE hwh
    have HHN := hidE hn
    have BSZ := hidE (And.intro hbP hbS)
    clear hz hu u1 hgr hck hpar hends hwh hwin hw1 hw2 hcin hcout hup hlow hcut hcb hG hp hcP hcS hcS2 c0 c1 c2 c3 s0 s1 hfr htt hwhv hLP HRP HRS
    have hin9 : n < F.prs.length := HHN.out
    go_enter Tryz.func5, Tryz.ntmps5
    go_upto_region 1 with fail
    rw [← hW0]
    clear hW0
    have f0 : W0.cell? ⟨w.heap.size, 0, none⟩ = some (.slice (some ⟨bS, oS, none⟩) F.sts.length cS) := by rw [cell_of_row _ _ _ _ _ _ XF0.out]; rfl
    have f1 : W0.cell? ⟨w.heap.size, 1, none⟩ = some (.slice aL F.lms.length cL) := by rw [cell_of_row _ _ _ _ _ _ XF0.out]; rfl
    have f2 : W0.cell? ⟨w.heap.size, 2, none⟩ = some (.slice (some ⟨bP, oP, none⟩) F.prs.length cP) := by rw [cell_of_row _ _ _ _ _ _ XF0.out]; rfl
    have f3 : W0.cell? ⟨w.heap.size, 3, none⟩ = some (.slice aV F.vrs.length cV) := by rw [cell_of_row _ _ _ _ _ _ XF0.out]; rfl
    have HC := hidE (HPL.out W0)
    go_wp2_with fail
    refine HC.out.mono ?_
    rintro e W1 ⟨rfl, hbx⟩
    clear HC f0 f1 f2 f3
    have hb : Below W0.heap.size W0 W1 := hbx
    have BB1 : Hid (Below w.heap.size w W1) := hidE (BB0.out.trans (hb.mono BB0.out.size))
    have FF1 : Hid (FldAt W1 ⟨some ⟨bS, oS, none⟩, cS, aL, cL, some ⟨bP, oP, none⟩, cP, aV, cV⟩ F) := hidE (FF0.out.below hb)
    have YY1 : Hid (IntsAt W1 a y) := hidE (YY0.out.below hb (Nat.le_refl _))
    have XF1 : Hid (W1.heap[w.heap.size]? = some (.cells #[.slice (some ⟨bS, oS, none⟩) F.sts.length cS, .slice aL F.lms.length cL, .slice (some ⟨bP, oP, none⟩) F.prs.length cP, .slice aV F.vrs.length cV] 46 (0,0))) := hidE (blk_below hb (lt_of_block XF0.out) XF0.out)
    clear hb BB0 FF0 YY0 XF0
    clear hbx
    have f0 : W1.cell? ⟨w.heap.size, 0, none⟩ = some (.slice (some ⟨bS, oS, none⟩) F.sts.length cS) := by rw [cell_of_row _ _ _ _ _ _ XF1.out]; rfl
    have f1 : W1.cell? ⟨w.heap.size, 1, none⟩ = some (.slice aL F.lms.length cL) := by rw [cell_of_row _ _ _ _ _ _ XF1.out]; rfl
    have f2 : W1.cell? ⟨w.heap.size, 2, none⟩ = some (.slice (some ⟨bP, oP, none⟩) F.prs.length cP) := by rw [cell_of_row _ _ _ _ _ _ XF1.out]; rfl
    have f3 : W1.cell? ⟨w.heap.size, 3, none⟩ = some (.slice aV F.vrs.length cV) := by rw [cell_of_row _ _ _ _ _ _ XF1.out]; rfl
    have hc := HWS.out W1 (m) FF1.out YY1.out
    rw [HWIN.out m hm0 hm1] at hc
    have HC := hidE (hc)
    go_wp2_with fail
    refine HC.out.mono ?_
    rintro e W2 ⟨rfl, hbx⟩
    clear HC f0 f1 f2 f3 hc
    have hb : Below W1.heap.size W1 W2 := hbx
    have BB2 : Hid (Below w.heap.size w W2) := hidE (BB1.out.trans (hb.mono BB1.out.size))
    have FF2 : Hid (FldAt W2 ⟨some ⟨bS, oS, none⟩, cS, aL, cL, some ⟨bP, oP, none⟩, cP, aV, cV⟩ F) := hidE (FF1.out.below hb)
    have YY2 : Hid (IntsAt W2 a y) := hidE (YY1.out.below hb (Nat.le_refl _))
    have XF2 : Hid (W2.heap[w.heap.size]? = some (.cells #[.slice (some ⟨bS, oS, none⟩) F.sts.length cS, .slice aL F.lms.length cL, .slice (some ⟨bP, oP, none⟩) F.prs.length cP, .slice aV F.vrs.length cV] 46 (0,0))) := hidE (blk_below hb (lt_of_block XF1.out) XF1.out)
    clear hb BB1 FF1 YY1 XF1
    clear hbx
    go_upto_region 4 with fail
    obtain ⟨W3, hW⟩ : ∃ W, W = W2.alloc (.cells #[.int .i64 (LP m).1, .int .i64 (LP m).2] 49) := ⟨_, rfl⟩
    rw [← hW]
    have hxw : W3.heap[W2.heap.size]? = some (.cells #[.int .i64 (LP m).1, .int .i64 (LP m).2] 49 (0,0)) := by rw [hW]; exact heap_alloc_new _ _
    have hb : Below W2.heap.size W2 W3 := by rw [hW]; exact (Below.refl _ _).alloc (Nat.le_refl _) _
    have BB3 : Hid (Below w.heap.size w W3) := hidE (BB2.out.trans (hb.mono BB2.out.size))
    have FF3 : Hid (FldAt W3 ⟨some ⟨bS, oS, none⟩, cS, aL, cL, some ⟨bP, oP, none⟩, cP, aV, cV⟩ F) := hidE (FF2.out.below hb)
    have YY3 : Hid (IntsAt W3 a y) := hidE (YY2.out.below hb (Nat.le_refl _))
    have XF3 : Hid (W3.heap[w.heap.size]? = some (.cells #[.slice (some ⟨bS, oS, none⟩) F.sts.length cS, .slice aL F.lms.length cL, .slice (some ⟨bP, oP, none⟩) F.prs.length cP, .slice aV F.vrs.length cV] 46 (0,0))) := hidE (blk_below hb (lt_of_block XF2.out) XF2.out)
    clear hb BB2 FF2 YY2 XF2
    have XA3 : Hid (W3.heap[W2.heap.size]? = some (.cells #[.int .i64 (LP m).1, .int .i64 (LP m).2] 49 (0,0))) := hidE hxw
    clear hW hxw
    obtain ⟨A1, hA1⟩ : ∃ z, (LP m).1 = z := ⟨_, rfl⟩
    obtain ⟨A2, hA2⟩ : ∃ z, (LP m).2 = z := ⟨_, rfl⟩
    rw [hA1, hA2] at XA3
    have HA12 := hidE (And.intro hA1 hA2)
    clear hA1 hA2
    have f0 : W3.cell? ⟨w.heap.size, 0, none⟩ = some (.slice (some ⟨bS, oS, none⟩) F.sts.length cS) := by rw [cell_of_row _ _ _ _ _ _ XF3.out]; rfl
    have f1 : W3.cell? ⟨w.heap.size, 1, none⟩ = some (.slice aL F.lms.length cL) := by rw [cell_of_row _ _ _ _ _ _ XF3.out]; rfl
    have f2 : W3.cell? ⟨w.heap.size, 2, none⟩ = some (.slice (some ⟨bP, oP, none⟩) F.prs.length cP) := by rw [cell_of_row _ _ _ _ _ _ XF3.out]; rfl
    have f3 : W3.cell? ⟨w.heap.size, 3, none⟩ = some (.slice aV F.vrs.length cV) := by rw [cell_of_row _ _ _ _ _ _ XF3.out]; rfl
    have g0 : W3.cell? ⟨bP, oP + n * 4, none⟩ = some (.string pn) := (BB3.out.cell (p := ⟨bP, oP + n * 4, none⟩) BSZ.out.1).trans CC.out.1
    have g1 : W3.cell? ⟨bP, oP + n * 4 + 1, none⟩ = some (.int .i64 ps) := (BB3.out.cell (p := ⟨bP, oP + n * 4 + 1, none⟩) BSZ.out.1).trans CC.out.2.1
    have g2 : W3.cell? ⟨bP, oP + n * 4 + 2, none⟩ = some (.int .i64 kw) := (BB3.out.cell (p := ⟨bP, oP + n * 4 + 2, none⟩) BSZ.out.1).trans CC.out.2.2.1
    have g3 : W3.cell? ⟨bP, oP + n * 4 + 3, none⟩ = some (.int .i64 ke) := (BB3.out.cell (p := ⟨bP, oP + n * 4 + 3, none⟩) BSZ.out.1).trans CC.out.2.2.2
    go_upto_region 7 with fail
    clear f0 f1 f2 f3 g0 g1 g2 g3
    obtain ⟨W4, hW⟩ : ∃ W, W = W3.alloc (.cells #[.string pn, .int .i64 ps, .int .i64 (kw : Int), .int .i64 (ke : Int)] 53) := ⟨_, rfl⟩
    rw [← hW]
    have hxw : W4.heap[W3.heap.size]? = some (.cells #[.string pn, .int .i64 ps, .int .i64 (kw : Int), .int .i64 (ke : Int)] 53 (0,0)) := by rw [hW]; exact heap_alloc_new _ _
    have hb : Below W3.heap.size W3 W4 := by rw [hW]; exact (Below.refl _ _).alloc (Nat.le_refl _) _
    have BB4 : Hid (Below w.heap.size w W4) := hidE (BB3.out.trans (hb.mono BB3.out.size))
    have FF4 : Hid (FldAt W4 ⟨some ⟨bS, oS, none⟩, cS, aL, cL, some ⟨bP, oP, none⟩, cP, aV, cV⟩ F) := hidE (FF3.out.below hb)
    have YY4 : Hid (IntsAt W4 a y) := hidE (YY3.out.below hb (Nat.le_refl _))
    have XF4 : Hid (W4.heap[w.heap.size]? = some (.cells #[.slice (some ⟨bS, oS, none⟩) F.sts.length cS, .slice aL F.lms.length cL, .slice (some ⟨bP, oP, none⟩) F.prs.length cP, .slice aV F.vrs.length cV] 46 (0,0))) := hidE (blk_below hb (lt_of_block XF3.out) XF3.out)
    have XA4 : Hid (W4.heap[W2.heap.size]? = some (.cells #[.int .i64 A1, .int .i64 A2] 49 (0,0))) := hidE (blk_below hb (lt_of_block XA3.out) XA3.out)
    clear hb BB3 FF3 YY3 XF3 XA3
    have XP4 : Hid (W4.heap[W3.heap.size]? = some (.cells #[.string pn, .int .i64 ps, .int .i64 (kw : Int), .int .i64 (ke : Int)] 53 (0,0))) := hidE hxw
    clear hW hxw
    have f0 : W4.cell? ⟨w.heap.size, 0, none⟩ = some (.slice (some ⟨bS, oS, none⟩) F.sts.length cS) := by rw [cell_of_row _ _ _ _ _ _ XF4.out]; rfl
    have f1 : W4.cell? ⟨w.heap.size, 1, none⟩ = some (.slice aL F.lms.length cL) := by rw [cell_of_row _ _ _ _ _ _ XF4.out]; rfl
    have f2 : W4.cell? ⟨w.heap.size, 2, none⟩ = some (.slice (some ⟨bP, oP, none⟩) F.prs.length cP) := by rw [cell_of_row _ _ _ _ _ _ XF4.out]; rfl
    have f3 : W4.cell? ⟨w.heap.size, 3, none⟩ = some (.slice aV F.vrs.length cV) := by rw [cell_of_row _ _ _ _ _ _ XF4.out]; rfl
    have p0 : W4.cell? ⟨W3.heap.size, 0, none⟩ = some (.string pn) := by rw [cell_of_row _ _ _ _ _ _ XP4.out]; rfl
    have p1 : W4.cell? ⟨W3.heap.size, 1, none⟩ = some (.int .i64 ps) := by rw [cell_of_row _ _ _ _ _ _ XP4.out]; rfl
    have p2 : W4.cell? ⟨W3.heap.size, 2, none⟩ = some (.int .i64 (kw : Int)) := by rw [cell_of_row _ _ _ _ _ _ XP4.out]; rfl
    have p3 : W4.cell? ⟨W3.heap.size, 3, none⟩ = some (.int .i64 (ke : Int)) := by rw [cell_of_row _ _ _ _ _ _ XP4.out]; rfl
    have g0 : W4.cell? ⟨bS, oS + kw * 2 + 1, none⟩ = some (.int .i64 fr) := (BB4.out.cell (p := ⟨bS, oS + kw * 2 + 1, none⟩) BSZ.out.2).trans CS.out.1
    have g1 : W4.cell? ⟨bS, oS + ke * 2 + 1, none⟩ = some (.int .i64 tt) := (BB4.out.cell (p := ⟨bS, oS + ke * 2 + 1, none⟩) BSZ.out.2).trans CS.out.2
    go_quiet (fail)
    go_upto_region 8 with fail
    clear f0 f1 f2 f3 p0 p1 p2 p3 g0 g1
    obtain ⟨W5, hW⟩ : ∃ W, W = W4.drewN nq := ⟨_, rfl⟩
    rw [← hW]
    have hb : Below W4.heap.size W4 W5 := by rw [hW]; exact below_drewN' _ _
    have BB5 : Hid (Below w.heap.size w W5) := hidE (BB4.out.trans (hb.mono BB4.out.size))
    have FF5 : Hid (FldAt W5 ⟨some ⟨bS, oS, none⟩, cS, aL, cL, some ⟨bP, oP, none⟩, cP, aV, cV⟩ F) := hidE (FF4.out.below hb)
    have YY5 : Hid (IntsAt W5 a y) := hidE (YY4.out.below hb (Nat.le_refl _))
    have XF5 : Hid (W5.heap[w.heap.size]? = some (.cells #[.slice (some ⟨bS, oS, none⟩) F.sts.length cS, .slice aL F.lms.length cL, .slice (some ⟨bP, oP, none⟩) F.prs.length cP, .slice aV F.vrs.length cV] 46 (0,0))) := hidE (blk_below hb (lt_of_block XF4.out) XF4.out)
    have XA5 : Hid (W5.heap[W2.heap.size]? = some (.cells #[.int .i64 A1, .int .i64 A2] 49 (0,0))) := hidE (blk_below hb (lt_of_block XA4.out) XA4.out)
    have XP5 : Hid (W5.heap[W3.heap.size]? = some (.cells #[.string pn, .int .i64 ps, .int .i64 (kw : Int), .int .i64 (ke : Int)] 53 (0,0))) := hidE (blk_below hb (lt_of_block XP4.out) XP4.out)
    clear hb BB4 FF4 YY4 XF4 XA4 XP4
    clear hW
    clear XP5
    have f0 : W5.cell? ⟨w.heap.size, 0, none⟩ = some (.slice (some ⟨bS, oS, none⟩) F.sts.length cS) := by rw [cell_of_row _ _ _ _ _ _ XF5.out]; rfl
    have f1 : W5.cell? ⟨w.heap.size, 1, none⟩ = some (.slice aL F.lms.length cL) := by rw [cell_of_row _ _ _ _ _ _ XF5.out]; rfl
    have f2 : W5.cell? ⟨w.heap.size, 2, none⟩ = some (.slice (some ⟨bP, oP, none⟩) F.prs.length cP) := by rw [cell_of_row _ _ _ _ _ _ XF5.out]; rfl
    have f3 : W5.cell? ⟨w.heap.size, 3, none⟩ = some (.slice aV F.vrs.length cV) := by rw [cell_of_row _ _ _ _ _ _ XF5.out]; rfl
    have hc := HAR.out W5 FF5.out YY5.out
    rw [HWH.out] at hc
    have HC := hidE (hc)
    go_wp2_with fail
    refine HC.out.mono ?_
    rintro e W6 ⟨rfl, hbx⟩
    clear HC f0 f1 f2 f3 hc
    have hb : Below W5.heap.size W5 W6 := hbx
    have BB6 : Hid (Below w.heap.size w W6) := hidE (BB5.out.trans (hb.mono BB5.out.size))
    have FF6 : Hid (FldAt W6 ⟨some ⟨bS, oS, none⟩, cS, aL, cL, some ⟨bP, oP, none⟩, cP, aV, cV⟩ F) := hidE (FF5.out.below hb)
    have YY6 : Hid (IntsAt W6 a y) := hidE (YY5.out.below hb (Nat.le_refl _))
    have XF6 : Hid (W6.heap[w.heap.size]? = some (.cells #[.slice (some ⟨bS, oS, none⟩) F.sts.length cS, .slice aL F.lms.length cL, .slice (some ⟨bP, oP, none⟩) F.prs.length cP, .slice aV F.vrs.length cV] 46 (0,0))) := hidE (blk_below hb (lt_of_block XF5.out) XF5.out)
    have XA6 : Hid (W6.heap[W2.heap.size]? = some (.cells #[.int .i64 A1, .int .i64 A2] 49 (0,0))) := hidE (blk_below hb (lt_of_block XA5.out) XA5.out)
    clear hb BB5 FF5 YY5 XF5 XA5
    clear hbx
    have f0 : W6.cell? ⟨w.heap.size, 0, none⟩ = some (.slice (some ⟨bS, oS, none⟩) F.sts.length cS) := by rw [cell_of_row _ _ _ _ _ _ XF6.out]; rfl
    have f1 : W6.cell? ⟨w.heap.size, 1, none⟩ = some (.slice aL F.lms.length cL) := by rw [cell_of_row _ _ _ _ _ _ XF6.out]; rfl
    have f2 : W6.cell? ⟨w.heap.size, 2, none⟩ = some (.slice (some ⟨bP, oP, none⟩) F.prs.length cP) := by rw [cell_of_row _ _ _ _ _ _ XF6.out]; rfl
    have f3 : W6.cell? ⟨w.heap.size, 3, none⟩ = some (.slice aV F.vrs.length cV) := by rw [cell_of_row _ _ _ _ _ _ XF6.out]; rfl
    have hc := HWS.out W6 (fr) FF6.out YY6.out
    rw [HW1.out] at hc
    have HC := hidE (hc)
    go_wp2_with fail
    refine HC.out.mono ?_
    rintro e W7 ⟨rfl, hbx⟩
    clear HC f0 f1 f2 f3 hc
    have hb : Below W6.heap.size W6 W7 := hbx
    have BB7 : Hid (Below w.heap.size w W7) := hidE (BB6.out.trans (hb.mono BB6.out.size))
    have FF7 : Hid (FldAt W7 ⟨some ⟨bS, oS, none⟩, cS, aL, cL, some ⟨bP, oP, none⟩, cP, aV, cV⟩ F) := hidE (FF6.out.below hb)
    have YY7 : Hid (IntsAt W7 a y) := hidE (YY6.out.below hb (Nat.le_refl _))
    have XF7 : Hid (W7.heap[w.heap.size]? = some (.cells #[.slice (some ⟨bS, oS, none⟩) F.sts.length cS, .slice aL F.lms.length cL, .slice (some ⟨bP, oP, none⟩) F.prs.length cP, .slice aV F.vrs.length cV] 46 (0,0))) := hidE (blk_below hb (lt_of_block XF6.out) XF6.out)
    have XA7 : Hid (W7.heap[W2.heap.size]? = some (.cells #[.int .i64 A1, .int .i64 A2] 49 (0,0))) := hidE (blk_below hb (lt_of_block XA6.out) XA6.out)
    clear hb BB6 FF6 YY6 XF6 XA6
    clear hbx
    go_upto_region 10 with fail
    obtain ⟨W8, hW⟩ : ∃ W, W = W7.alloc (.cells #[.int .i64 0, .int .i64 1] 49) := ⟨_, rfl⟩
    rw [← hW]
    have hxw : W8.heap[W7.heap.size]? = some (.cells #[.int .i64 0, .int .i64 1] 49 (0,0)) := by rw [hW]; exact heap_alloc_new _ _
    have hb : Below W7.heap.size W7 W8 := by rw [hW]; exact (Below.refl _ _).alloc (Nat.le_refl _) _
    have BB8 : Hid (Below w.heap.size w W8) := hidE (BB7.out.trans (hb.mono BB7.out.size))
    have FF8 : Hid (FldAt W8 ⟨some ⟨bS, oS, none⟩, cS, aL, cL, some ⟨bP, oP, none⟩, cP, aV, cV⟩ F) := hidE (FF7.out.below hb)
    have YY8 : Hid (IntsAt W8 a y) := hidE (YY7.out.below hb (Nat.le_refl _))
    have XF8 : Hid (W8.heap[w.heap.size]? = some (.cells #[.slice (some ⟨bS, oS, none⟩) F.sts.length cS, .slice aL F.lms.length cL, .slice (some ⟨bP, oP, none⟩) F.prs.length cP, .slice aV F.vrs.length cV] 46 (0,0))) := hidE (blk_below hb (lt_of_block XF7.out) XF7.out)
    have XA8 : Hid (W8.heap[W2.heap.size]? = some (.cells #[.int .i64 A1, .int .i64 A2] 49 (0,0))) := hidE (blk_below hb (lt_of_block XA7.out) XA7.out)
    clear hb BB7 FF7 YY7 XF7 XA7
    have XB8 : Hid (W8.heap[W7.heap.size]? = some (.cells #[.int .i64 0, .int .i64 1] 49 (0,0))) := hidE hxw
    clear hW hxw
    have f0 : W8.cell? ⟨w.heap.size, 0, none⟩ = some (.slice (some ⟨bS, oS, none⟩) F.sts.length cS) := by rw [cell_of_row _ _ _ _ _ _ XF8.out]; rfl
    have f1 : W8.cell? ⟨w.heap.size, 1, none⟩ = some (.slice aL F.lms.length cL) := by rw [cell_of_row _ _ _ _ _ _ XF8.out]; rfl
    have f2 : W8.cell? ⟨w.heap.size, 2, none⟩ = some (.slice (some ⟨bP, oP, none⟩) F.prs.length cP) := by rw [cell_of_row _ _ _ _ _ _ XF8.out]; rfl
    have f3 : W8.cell? ⟨w.heap.size, 3, none⟩ = some (.slice aV F.vrs.length cV) := by rw [cell_of_row _ _ _ _ _ _ XF8.out]; rfl
    have hc := HWS.out W8 (tt) FF8.out YY8.out
    rw [HW2.out] at hc
    have HC := hidE (hc)
    go_wp2_with fail
    refine HC.out.mono ?_
    rintro e W9 ⟨rfl, hbx⟩
    clear HC f0 f1 f2 f3 hc
    have hb : Below W8.heap.size W8 W9 := hbx
    have BB9 : Hid (Below w.heap.size w W9) := hidE (BB8.out.trans (hb.mono BB8.out.size))
    have FF9 : Hid (FldAt W9 ⟨some ⟨bS, oS, none⟩, cS, aL, cL, some ⟨bP, oP, none⟩, cP, aV, cV⟩ F) := hidE (FF8.out.below hb)
    have YY9 : Hid (IntsAt W9 a y) := hidE (YY8.out.below hb (Nat.le_refl _))
    have XF9 : Hid (W9.heap[w.heap.size]? = some (.cells #[.slice (some ⟨bS, oS, none⟩) F.sts.length cS, .slice aL F.lms.length cL, .slice (some ⟨bP, oP, none⟩) F.prs.length cP, .slice aV F.vrs.length cV] 46 (0,0))) := hidE (blk_below hb (lt_of_block XF8.out) XF8.out)
    have XA9 : Hid (W9.heap[W2.heap.size]? = some (.cells #[.int .i64 A1, .int .i64 A2] 49 (0,0))) := hidE (blk_below hb (lt_of_block XA8.out) XA8.out)
    have XB9 : Hid (W9.heap[W7.heap.size]? = some (.cells #[.int .i64 0, .int .i64 1] 49 (0,0))) := hidE (blk_below hb (lt_of_block XB8.out) XB8.out)
    clear hb BB8 FF8 YY8 XF8 XA8 XB8
    clear hbx
    go_upto_region 11 with fail
    obtain ⟨W10, hW⟩ : ∃ W, W = W9.alloc (.cells #[.int .i64 wh, .int .i64 1] 49) := ⟨_, rfl⟩
    rw [← hW]
    have hxw : W10.heap[W9.heap.size]? = some (.cells #[.int .i64 wh, .int .i64 1] 49 (0,0)) := by rw [hW]; exact heap_alloc_new _ _
    have hb : Below W9.heap.size W9 W10 := by rw [hW]; exact (Below.refl _ _).alloc (Nat.le_refl _) _
    have BB10 : Hid (Below w.heap.size w W10) := hidE (BB9.out.trans (hb.mono BB9.out.size))
    have FF10 : Hid (FldAt W10 ⟨some ⟨bS, oS, none⟩, cS, aL, cL, some ⟨bP, oP, none⟩, cP, aV, cV⟩ F) := hidE (FF9.out.below hb)
    have YY10 : Hid (IntsAt W10 a y) := hidE (YY9.out.below hb (Nat.le_refl _))
    have XF10 : Hid (W10.heap[w.heap.size]? = some (.cells #[.slice (some ⟨bS, oS, none⟩) F.sts.length cS, .slice aL F.lms.length cL, .slice (some ⟨bP, oP, none⟩) F.prs.length cP, .slice aV F.vrs.length cV] 46 (0,0))) := hidE (blk_below hb (lt_of_block XF9.out) XF9.out)
    have XA10 : Hid (W10.heap[W2.heap.size]? = some (.cells #[.int .i64 A1, .int .i64 A2] 49 (0,0))) := hidE (blk_below hb (lt_of_block XA9.out) XA9.out)
    have XB10 : Hid (W10.heap[W7.heap.size]? = some (.cells #[.int .i64 0, .int .i64 1] 49 (0,0))) := hidE (blk_below hb (lt_of_block XB9.out) XB9.out)
    clear hb BB9 FF9 YY9 XF9 XA9 XB9
    have XC10 : Hid (W10.heap[W9.heap.size]? = some (.cells #[.int .i64 wh, .int .i64 1] 49 (0,0))) := hidE hxw
    clear hW hxw
    have b0 : W10.cell? ⟨W7.heap.size, 0, none⟩ = some (.int .i64 0) := by rw [cell_of_row _ _ _ _ _ _ XB10.out]; rfl
    have b1 : W10.cell? ⟨W7.heap.size, 1, none⟩ = some (.int .i64 1) := by rw [cell_of_row _ _ _ _ _ _ XB10.out]; rfl
    have c0 : W10.cell? ⟨W9.heap.size, 0, none⟩ = some (.int .i64 wh) := by rw [cell_of_row _ _ _ _ _ _ XC10.out]; rfl
    have c1 : W10.cell? ⟨W9.heap.size, 1, none⟩ = some (.int .i64 1) := by rw [cell_of_row _ _ _ _ _ _ XC10.out]; rfl
    have t0 : decide (m < fr) = false := by simp; omega
    have t1 : decide (m > tt) = false := by simp; omega
    have t1' : decide (tt < m) = false := by simp; omega
    by_cases hlt : m < tt
    · have t2 : decide (m < tt) = true := by simpa using hlt
      have f0 : W10.cell? ⟨w.heap.size, 0, none⟩ = some (.slice (some ⟨bS, oS, none⟩) F.sts.length cS) := by rw [cell_of_row _ _ _ _ _ _ XF10.out]; rfl
      have f1 : W10.cell? ⟨w.heap.size, 1, none⟩ = some (.slice aL F.lms.length cL) := by rw [cell_of_row _ _ _ _ _ _ XF10.out]; rfl
      have f2 : W10.cell? ⟨w.heap.size, 2, none⟩ = some (.slice (some ⟨bP, oP, none⟩) F.prs.length cP) := by rw [cell_of_row _ _ _ _ _ _ XF10.out]; rfl
      have f3 : W10.cell? ⟨w.heap.size, 3, none⟩ = some (.slice aV F.vrs.length cV) := by rw [cell_of_row _ _ _ _ _ _ XF10.out]; rfl
      have wm : IntKind.i64.wrap (m + 1) = m + 1 := IntWalk.i64_in _ (by omega)
      have hc := HWS.out W10 (m + 1) FF10.out YY10.out
      rw [HWIN.out (m + 1) (by omega) (by omega)] at hc
      have hfa := HUP.out m hm0 (by omega)
      have hl1 := HLOW.out m hm0 hm1
      have hl2 := HLOW.out (m + 1) (by omega) (by omega)
      obtain ⟨D1, hD1⟩ : ∃ z, (LP (m + 1)).1 = z := ⟨_, rfl⟩
      obtain ⟨D2, hD2⟩ : ∃ z, (LP (m + 1)).2 = z := ⟨_, rfl⟩
      rw [hD1, hD2] at hc hfa hl2
      rw [HA12.out.1, HA12.out.2] at hfa hl1
      clear hD1 hD2
      have HC := hidE (hc)
      go_wp2_with fail
      refine HC.out.mono ?_
      rintro e W11 ⟨rfl, hbx⟩
      clear HC f0 f1 f2 f3 hc b0 b1 c0 c1
      have hb : Below W10.heap.size W10 W11 := hbx
      have BB11 : Hid (Below w.heap.size w W11) := hidE (BB10.out.trans (hb.mono BB10.out.size))
      have FF11 : Hid (FldAt W11 ⟨some ⟨bS, oS, none⟩, cS, aL, cL, some ⟨bP, oP, none⟩, cP, aV, cV⟩ F) := hidE (FF10.out.below hb)
      have YY11 : Hid (IntsAt W11 a y) := hidE (YY10.out.below hb (Nat.le_refl _))
      have XF11 : Hid (W11.heap[w.heap.size]? = some (.cells #[.slice (some ⟨bS, oS, none⟩) F.sts.length cS, .slice aL F.lms.length cL, .slice (some ⟨bP, oP, none⟩) F.prs.length cP, .slice aV F.vrs.length cV] 46 (0,0))) := hidE (blk_below hb (lt_of_block XF10.out) XF10.out)
      have XA11 : Hid (W11.heap[W2.heap.size]? = some (.cells #[.int .i64 A1, .int .i64 A2] 49 (0,0))) := hidE (blk_below hb (lt_of_block XA10.out) XA10.out)
      have XB11 : Hid (W11.heap[W7.heap.size]? = some (.cells #[.int .i64 0, .int .i64 1] 49 (0,0))) := hidE (blk_below hb (lt_of_block XB10.out) XB10.out)
      have XC11 : Hid (W11.heap[W9.heap.size]? = some (.cells #[.int .i64 wh, .int .i64 1] 49 (0,0))) := hidE (blk_below hb (lt_of_block XC10.out) XC10.out)
      clear hb BB10 FF10 YY10 XF10 XA10 XB10 XC10
      clear hbx
      clear XB11 XC11
      go_upto_region 15 with fail
      obtain ⟨W12, hW⟩ : ∃ W, W = W11.alloc (.cells #[.int .i64 D1, .int .i64 D2] 49) := ⟨_, rfl⟩
      rw [← hW]
      have hxw : W12.heap[W11.heap.size]? = some (.cells #[.int .i64 D1, .int .i64 D2] 49 (0,0)) := by rw [hW]; exact heap_alloc_new _ _
      have hb : Below W11.heap.size W11 W12 := by rw [hW]; exact (Below.refl _ _).alloc (Nat.le_refl _) _
      have BB12 : Hid (Below w.heap.size w W12) := hidE (BB11.out.trans (hb.mono BB11.out.size))
      have FF12 : Hid (FldAt W12 ⟨some ⟨bS, oS, none⟩, cS, aL, cL, some ⟨bP, oP, none⟩, cP, aV, cV⟩ F) := hidE (FF11.out.below hb)
      have YY12 : Hid (IntsAt W12 a y) := hidE (YY11.out.below hb (Nat.le_refl _))
      have XF12 : Hid (W12.heap[w.heap.size]? = some (.cells #[.slice (some ⟨bS, oS, none⟩) F.sts.length cS, .slice aL F.lms.length cL, .slice (some ⟨bP, oP, none⟩) F.prs.length cP, .slice aV F.vrs.length cV] 46 (0,0))) := hidE (blk_below hb (lt_of_block XF11.out) XF11.out)
      have XA12 : Hid (W12.heap[W2.heap.size]? = some (.cells #[.int .i64 A1, .int .i64 A2] 49 (0,0))) := hidE (blk_below hb (lt_of_block XA11.out) XA11.out)
      clear hb BB11 FF11 YY11 XF11 XA11
      have XG12 : Hid (W12.heap[W11.heap.size]? = some (.cells #[.int .i64 D1, .int .i64 D2] 49 (0,0))) := hidE hxw
      clear hW hxw
      have g0 : W12.cell? ⟨W2.heap.size, 0, none⟩ = some (.int .i64 A1) := by rw [cell_of_row _ _ _ _ _ _ XA12.out]; rfl
      have g1 : W12.cell? ⟨W2.heap.size, 1, none⟩ = some (.int .i64 A2) := by rw [cell_of_row _ _ _ _ _ _ XA12.out]; rfl
      have k0 : W12.cell? ⟨W11.heap.size, 0, none⟩ = some (.int .i64 D1) := by rw [cell_of_row _ _ _ _ _ _ XG12.out]; rfl
      have k1 : W12.cell? ⟨W11.heap.size, 1, none⟩ = some (.int .i64 D2) := by rw [cell_of_row _ _ _ _ _ _ XG12.out]; rfl
      have hfl := falls_any W12 A1 A2 D1 D2 (by omega) (by omega) (by omega) (by omega) (by omega) (by omega) (by omega) (by omega)
      rw [hfa] at hfl
      clear hfa hl1 hl2
      have HC := hidE (hfl)
      go_wp2_with fail
      refine HC.out.mono ?_
      rintro e W13 ⟨rfl, hbx⟩
      clear HC g0 g1 k0 k1 hfl
      have hb : Below W12.heap.size W12 W13 := hbx
      have BB13 : Hid (Below w.heap.size w W13) := hidE (BB12.out.trans (hb.mono BB12.out.size))
      have FF13 : Hid (FldAt W13 ⟨some ⟨bS, oS, none⟩, cS, aL, cL, some ⟨bP, oP, none⟩, cP, aV, cV⟩ F) := hidE (FF12.out.below hb)
      have YY13 : Hid (IntsAt W13 a y) := hidE (YY12.out.below hb (Nat.le_refl _))
      have XF13 : Hid (W13.heap[w.heap.size]? = some (.cells #[.slice (some ⟨bS, oS, none⟩) F.sts.length cS, .slice aL F.lms.length cL, .slice (some ⟨bP, oP, none⟩) F.prs.length cP, .slice aV F.vrs.length cV] 46 (0,0))) := hidE (blk_below hb (lt_of_block XF12.out) XF12.out)
      have XA13 : Hid (W13.heap[W2.heap.size]? = some (.cells #[.int .i64 A1, .int .i64 A2] 49 (0,0))) := hidE (blk_below hb (lt_of_block XA12.out) XA12.out)
      have XG13 : Hid (W13.heap[W11.heap.size]? = some (.cells #[.int .i64 D1, .int .i64 D2] 49 (0,0))) := hidE (blk_below hb (lt_of_block XG12.out) XG12.out)
      clear hb BB12 FF12 YY12 XF12 XA12 XG12
      clear hbx
      clear XG13
      clear XA13
      by_cases hq : q < 0 ∨ wh < q
      · have hct := HCOUT.out q hq
        have f0 : W13.cell? ⟨w.heap.size, 0, none⟩ = some (.slice (some ⟨bS, oS, none⟩) F.sts.length cS) := by rw [cell_of_row _ _ _ _ _ _ XF13.out]; rfl
        have f1 : W13.cell? ⟨w.heap.size, 1, none⟩ = some (.slice aL F.lms.length cL) := by rw [cell_of_row _ _ _ _ _ _ XF13.out]; rfl
        have f2 : W13.cell? ⟨w.heap.size, 2, none⟩ = some (.slice (some ⟨bP, oP, none⟩) F.prs.length cP) := by rw [cell_of_row _ _ _ _ _ _ XF13.out]; rfl
        have f3 : W13.cell? ⟨w.heap.size, 3, none⟩ = some (.slice aV F.vrs.length cV) := by rw [cell_of_row _ _ _ _ _ _ XF13.out]; rfl
        have hc := HCT.out W13 FF13.out YY13.out
        rw [hct] at hc
        clear hct
        have HC := hidE (hc)
        go_wp2_with fail
        refine HC.out.mono ?_
        rintro e W14 ⟨rfl, hbx⟩
        clear HC f0 f1 f2 f3 hc
        have hb : Below W13.heap.size W13 W14 := hbx
        have BB14 : Hid (Below w.heap.size w W14) := hidE (BB13.out.trans (hb.mono BB13.out.size))
        have FF14 : Hid (FldAt W14 ⟨some ⟨bS, oS, none⟩, cS, aL, cL, some ⟨bP, oP, none⟩, cP, aV, cV⟩ F) := hidE (FF13.out.below hb)
        have YY14 : Hid (IntsAt W14 a y) := hidE (YY13.out.below hb (Nat.le_refl _))
        have XF14 : Hid (W14.heap[w.heap.size]? = some (.cells #[.slice (some ⟨bS, oS, none⟩) F.sts.length cS, .slice aL F.lms.length cL, .slice (some ⟨bP, oP, none⟩) F.prs.length cP, .slice aV F.vrs.length cV] 46 (0,0))) := hidE (blk_below hb (lt_of_block XF13.out) XF13.out)
        clear hb BB13 FF13 YY13 XF13
        clear hbx
        rcases Int.lt_or_le q 0 with hq0 | hq0
        · have r0 : decide (q < 0) = true := by simpa using hq0
          clear hq hq0
          go_wp2_with fail
          refine (HAL.out _).mono ?_
          rintro e w9 ⟨rfl, hb9⟩
          have B9 := hidE (BB14.out.trans (hb9.mono BB14.out.size))
          clear hb9
          go_wp2_with fail
          go_ret
          exact ⟨by simp, B9.out⟩
        · have r0 : decide (q < 0) = false := by simp; omega
          have r1 : decide (q > wh) = true := by simp; omega
          have r1' : decide (wh < q) = true := by simp; omega
          clear hq hq0
          go_wp2_with fail
          refine (HAL.out _).mono ?_
          rintro e w9 ⟨rfl, hb9⟩
          have B9 := hidE (BB14.out.trans (hb9.mono BB14.out.size))
          clear hb9
          go_wp2_with fail
          go_ret
          exact ⟨by simp, B9.out⟩
      · have hct := HCIN.out q (by omega) (by omega)
        obtain ⟨k1, k2⟩ := HCUT.out q (by omega)
        obtain ⟨k3, k4⟩ := HCB.out q (by omega)
        obtain ⟨cc, hcc⟩ : ∃ z, cutP G q = z := ⟨_, rfl⟩
        rw [hcc] at hct k1 k2
        have k5 : fr ≤ cc := by rw [← hcc]; exact k3
        have k6 : cc ≤ tt := by rw [← hcc]; exact k4
        have r0 : decide (q < 0) = false := by simp; omega
        have r1 : decide (q > wh) = false := by simp; omega
        have r1' : decide (wh < q) = false := by simp; omega
        have f0 : W13.cell? ⟨w.heap.size, 0, none⟩ = some (.slice (some ⟨bS, oS, none⟩) F.sts.length cS) := by rw [cell_of_row _ _ _ _ _ _ XF13.out]; rfl
        have f1 : W13.cell? ⟨w.heap.size, 1, none⟩ = some (.slice aL F.lms.length cL) := by rw [cell_of_row _ _ _ _ _ _ XF13.out]; rfl
        have f2 : W13.cell? ⟨w.heap.size, 2, none⟩ = some (.slice (some ⟨bP, oP, none⟩) F.prs.length cP) := by rw [cell_of_row _ _ _ _ _ _ XF13.out]; rfl
        have f3 : W13.cell? ⟨w.heap.size, 3, none⟩ = some (.slice aV F.vrs.length cV) := by rw [cell_of_row _ _ _ _ _ _ XF13.out]; rfl
        have hc := HCT.out W13 FF13.out YY13.out
        rw [hct] at hc
        have hlc := HLOW.out cc k5 k6
        have K2 := hidE k2
        clear hct hcc k2 k3 k4
        have HC := hidE (hc)
        go_wp2_with fail
        refine HC.out.mono ?_
        rintro e W14 ⟨rfl, hbx⟩
        clear HC f0 f1 f2 f3 hc
        have hb : Below W13.heap.size W13 W14 := hbx
        have BB14 : Hid (Below w.heap.size w W14) := hidE (BB13.out.trans (hb.mono BB13.out.size))
        have FF14 : Hid (FldAt W14 ⟨some ⟨bS, oS, none⟩, cS, aL, cL, some ⟨bP, oP, none⟩, cP, aV, cV⟩ F) := hidE (FF13.out.below hb)
        have YY14 : Hid (IntsAt W14 a y) := hidE (YY13.out.below hb (Nat.le_refl _))
        have XF14 : Hid (W14.heap[w.heap.size]? = some (.cells #[.slice (some ⟨bS, oS, none⟩) F.sts.length cS, .slice aL F.lms.length cL, .slice (some ⟨bP, oP, none⟩) F.prs.length cP, .slice aV F.vrs.length cV] 46 (0,0))) := hidE (blk_below hb (lt_of_block XF13.out) XF13.out)
        clear hb BB13 FF13 YY13 XF13
        clear hbx
        have f0 : W14.cell? ⟨w.heap.size, 0, none⟩ = some (.slice (some ⟨bS, oS, none⟩) F.sts.length cS) := by rw [cell_of_row _ _ _ _ _ _ XF14.out]; rfl
        have f1 : W14.cell? ⟨w.heap.size, 1, none⟩ = some (.slice aL F.lms.length cL) := by rw [cell_of_row _ _ _ _ _ _ XF14.out]; rfl
        have f2 : W14.cell? ⟨w.heap.size, 2, none⟩ = some (.slice (some ⟨bP, oP, none⟩) F.prs.length cP) := by rw [cell_of_row _ _ _ _ _ _ XF14.out]; rfl
        have f3 : W14.cell? ⟨w.heap.size, 3, none⟩ = some (.slice aV F.vrs.length cV) := by rw [cell_of_row _ _ _ _ _ _ XF14.out]; rfl
        have hc := HWS.out W14 (cc) FF14.out YY14.out
        rw [HWIN.out cc k5 k6] at hc
        have HC := hidE (hc)
        go_wp2_with fail
        refine HC.out.mono ?_
        rintro e W15 ⟨rfl, hbx⟩
        clear HC f0 f1 f2 f3 hc
        have hb : Below W14.heap.size W14 W15 := hbx
        have BB15 : Hid (Below w.heap.size w W15) := hidE (BB14.out.trans (hb.mono BB14.out.size))
        have FF15 : Hid (FldAt W15 ⟨some ⟨bS, oS, none⟩, cS, aL, cL, some ⟨bP, oP, none⟩, cP, aV, cV⟩ F) := hidE (FF14.out.below hb)
        have YY15 : Hid (IntsAt W15 a y) := hidE (YY14.out.below hb (Nat.le_refl _))
        have XF15 : Hid (W15.heap[w.heap.size]? = some (.cells #[.slice (some ⟨bS, oS, none⟩) F.sts.length cS, .slice aL F.lms.length cL, .slice (some ⟨bP, oP, none⟩) F.prs.length cP, .slice aV F.vrs.length cV] 46 (0,0))) := hidE (blk_below hb (lt_of_block XF14.out) XF14.out)
        clear hb BB14 FF14 YY14 XF14
        clear hbx
        go_upto_region 21 with fail
        obtain ⟨W16, hW⟩ : ∃ W, W = W15.alloc (.cells #[.int .i64 (LP cc).1, .int .i64 (LP cc).2] 49) := ⟨_, rfl⟩
        rw [← hW]
        have hxw : W16.heap[W15.heap.size]? = some (.cells #[.int .i64 (LP cc).1, .int .i64 (LP cc).2] 49 (0,0)) := by rw [hW]; exact heap_alloc_new _ _
        have hb : Below W15.heap.size W15 W16 := by rw [hW]; exact (Below.refl _ _).alloc (Nat.le_refl _) _
        have BB16 : Hid (Below w.heap.size w W16) := hidE (BB15.out.trans (hb.mono BB15.out.size))
        have FF16 : Hid (FldAt W16 ⟨some ⟨bS, oS, none⟩, cS, aL, cL, some ⟨bP, oP, none⟩, cP, aV, cV⟩ F) := hidE (FF15.out.below hb)
        have YY16 : Hid (IntsAt W16 a y) := hidE (YY15.out.below hb (Nat.le_refl _))
        have XF16 : Hid (W16.heap[w.heap.size]? = some (.cells #[.slice (some ⟨bS, oS, none⟩) F.sts.length cS, .slice aL F.lms.length cL, .slice (some ⟨bP, oP, none⟩) F.prs.length cP, .slice aV F.vrs.length cV] 46 (0,0))) := hidE (blk_below hb (lt_of_block XF15.out) XF15.out)
        clear hb BB15 FF15 YY15 XF15
        have XD16 : Hid (W16.heap[W15.heap.size]? = some (.cells #[.int .i64 (LP cc).1, .int .i64 (LP cc).2] 49 (0,0))) := hidE hxw
        clear hW hxw
        obtain ⟨D1, hD1⟩ : ∃ z, (LP cc).1 = z := ⟨_, rfl⟩
        obtain ⟨D2, hD2⟩ : ∃ z, (LP cc).2 = z := ⟨_, rfl⟩
        rw [hD1, hD2] at XD16 k1 hlc
        clear hD1 hD2
        have g0 : W16.cell? ⟨W15.heap.size, 0, none⟩ = some (.int .i64 D1) := by rw [cell_of_row _ _ _ _ _ _ XD16.out]; rfl
        have g1 : W16.cell? ⟨W15.heap.size, 1, none⟩ = some (.int .i64 D2) := by rw [cell_of_row _ _ _ _ _ _ XD16.out]; rfl
        have hmo := most_any W16 D1 D2 q (by omega) (by omega) (by omega)
        rw [show decide (D1 ≤ q * D2) = true by simpa using k1] at hmo
        clear k1 hlc
        have HC := hidE (hmo)
        go_wp2_with fail
        refine HC.out.mono ?_
        rintro e W17 ⟨rfl, hbx⟩
        clear HC g0 g1 hmo
        have hb : Below W16.heap.size W16 W17 := hbx
        have BB17 : Hid (Below w.heap.size w W17) := hidE (BB16.out.trans (hb.mono BB16.out.size))
        have FF17 : Hid (FldAt W17 ⟨some ⟨bS, oS, none⟩, cS, aL, cL, some ⟨bP, oP, none⟩, cP, aV, cV⟩ F) := hidE (FF16.out.below hb)
        have YY17 : Hid (IntsAt W17 a y) := hidE (YY16.out.below hb (Nat.le_refl _))
        have XF17 : Hid (W17.heap[w.heap.size]? = some (.cells #[.slice (some ⟨bS, oS, none⟩) F.sts.length cS, .slice aL F.lms.length cL, .slice (some ⟨bP, oP, none⟩) F.prs.length cP, .slice aV F.vrs.length cV] 46 (0,0))) := hidE (blk_below hb (lt_of_block XF16.out) XF16.out)
        have XD17 : Hid (W17.heap[W15.heap.size]? = some (.cells #[.int .i64 D1, .int .i64 D2] 49 (0,0))) := hidE (blk_below hb (lt_of_block XD16.out) XD16.out)
        clear hb BB16 FF16 YY16 XF16 XD16
        clear hbx
        clear XD17
        by_cases hce : cc = tt
        · have s0 : (cc == tt) = true := by simpa using hce
          clear hce
          go_wp2_with fail
          refine (HAL.out _).mono ?_
          rintro e w9 ⟨rfl, hb9⟩
          have B9 := hidE (BB17.out.trans (hb9.mono BB17.out.size))
          clear hb9
          go_wp2_with fail
          go_ret
          exact ⟨by simp, B9.out⟩
        · have s0 : (cc == tt) = false := by simpa using hce
          have hlt2 : cc + 1 ≤ tt := by omega
          have wc : IntKind.i64.wrap (cc + 1) = cc + 1 := IntWalk.i64_in _ (by omega)
          have hlc := HLOW.out (cc + 1) (by omega) hlt2
          have k2 : q * (LP (cc + 1)).2 < (LP (cc + 1)).1 := by
            rcases K2.out with e | e
            · exact absurd e hce
            · exact e
          clear hce K2
          have f0 : W17.cell? ⟨w.heap.size, 0, none⟩ = some (.slice (some ⟨bS, oS, none⟩) F.sts.length cS) := by rw [cell_of_row _ _ _ _ _ _ XF17.out]; rfl
          have f1 : W17.cell? ⟨w.heap.size, 1, none⟩ = some (.slice aL F.lms.length cL) := by rw [cell_of_row _ _ _ _ _ _ XF17.out]; rfl
          have f2 : W17.cell? ⟨w.heap.size, 2, none⟩ = some (.slice (some ⟨bP, oP, none⟩) F.prs.length cP) := by rw [cell_of_row _ _ _ _ _ _ XF17.out]; rfl
          have f3 : W17.cell? ⟨w.heap.size, 3, none⟩ = some (.slice aV F.vrs.length cV) := by rw [cell_of_row _ _ _ _ _ _ XF17.out]; rfl
          have hc := HWS.out W17 (cc + 1) FF17.out YY17.out
          rw [HWIN.out (cc + 1) (by omega) hlt2] at hc
          obtain ⟨D1, hD1⟩ : ∃ z, (LP (cc + 1)).1 = z := ⟨_, rfl⟩
          obtain ⟨D2, hD2⟩ : ∃ z, (LP (cc + 1)).2 = z := ⟨_, rfl⟩
          rw [hD1, hD2] at hc hlc k2
          clear hD1 hD2
          have HC := hidE (hc)
          go_wp2_with fail
          refine HC.out.mono ?_
          rintro e W18 ⟨rfl, hbx⟩
          clear HC f0 f1 f2 f3 hc
          have hb : Below W17.heap.size W17 W18 := hbx
          have BB18 : Hid (Below w.heap.size w W18) := hidE (BB17.out.trans (hb.mono BB17.out.size))
          have FF18 : Hid (FldAt W18 ⟨some ⟨bS, oS, none⟩, cS, aL, cL, some ⟨bP, oP, none⟩, cP, aV, cV⟩ F) := hidE (FF17.out.below hb)
          have YY18 : Hid (IntsAt W18 a y) := hidE (YY17.out.below hb (Nat.le_refl _))
          have XF18 : Hid (W18.heap[w.heap.size]? = some (.cells #[.slice (some ⟨bS, oS, none⟩) F.sts.length cS, .slice aL F.lms.length cL, .slice (some ⟨bP, oP, none⟩) F.prs.length cP, .slice aV F.vrs.length cV] 46 (0,0))) := hidE (blk_below hb (lt_of_block XF17.out) XF17.out)
          clear hb BB17 FF17 YY17 XF17
          clear hbx
          go_upto_region 26 with fail
          obtain ⟨W19, hW⟩ : ∃ W, W = W18.alloc (.cells #[.int .i64 D1, .int .i64 D2] 49) := ⟨_, rfl⟩
          rw [← hW]
          have hxw : W19.heap[W18.heap.size]? = some (.cells #[.int .i64 D1, .int .i64 D2] 49 (0,0)) := by rw [hW]; exact heap_alloc_new _ _
          have hb : Below W18.heap.size W18 W19 := by rw [hW]; exact (Below.refl _ _).alloc (Nat.le_refl _) _
          have BB19 : Hid (Below w.heap.size w W19) := hidE (BB18.out.trans (hb.mono BB18.out.size))
          have FF19 : Hid (FldAt W19 ⟨some ⟨bS, oS, none⟩, cS, aL, cL, some ⟨bP, oP, none⟩, cP, aV, cV⟩ F) := hidE (FF18.out.below hb)
          have YY19 : Hid (IntsAt W19 a y) := hidE (YY18.out.below hb (Nat.le_refl _))
          have XF19 : Hid (W19.heap[w.heap.size]? = some (.cells #[.slice (some ⟨bS, oS, none⟩) F.sts.length cS, .slice aL F.lms.length cL, .slice (some ⟨bP, oP, none⟩) F.prs.length cP, .slice aV F.vrs.length cV] 46 (0,0))) := hidE (blk_below hb (lt_of_block XF18.out) XF18.out)
          clear hb BB18 FF18 YY18 XF18
          have XE19 : Hid (W19.heap[W18.heap.size]? = some (.cells #[.int .i64 D1, .int .i64 D2] 49 (0,0))) := hidE hxw
          clear hW hxw
          have HC := hidE (HAL.out W19)
          go_wp2_with fail
          refine HC.out.mono ?_
          rintro e W20 ⟨rfl, hbx⟩
          clear HC 
          have hb : Below W19.heap.size W19 W20 := hbx
          have BB20 : Hid (Below w.heap.size w W20) := hidE (BB19.out.trans (hb.mono BB19.out.size))
          have FF20 : Hid (FldAt W20 ⟨some ⟨bS, oS, none⟩, cS, aL, cL, some ⟨bP, oP, none⟩, cP, aV, cV⟩ F) := hidE (FF19.out.below hb)
          have YY20 : Hid (IntsAt W20 a y) := hidE (YY19.out.below hb (Nat.le_refl _))
          have XF20 : Hid (W20.heap[w.heap.size]? = some (.cells #[.slice (some ⟨bS, oS, none⟩) F.sts.length cS, .slice aL F.lms.length cL, .slice (some ⟨bP, oP, none⟩) F.prs.length cP, .slice aV F.vrs.length cV] 46 (0,0))) := hidE (blk_below hb (lt_of_block XF19.out) XF19.out)
          have XE20 : Hid (W20.heap[W18.heap.size]? = some (.cells #[.int .i64 D1, .int .i64 D2] 49 (0,0))) := hidE (blk_below hb (lt_of_block XE19.out) XE19.out)
          clear hb BB19 FF19 YY19 XF19 XE19
          clear hbx
          have g0 : W20.cell? ⟨W18.heap.size, 0, none⟩ = some (.int .i64 D1) := by rw [cell_of_row _ _ _ _ _ _ XE20.out]; rfl
          have g1 : W20.cell? ⟨W18.heap.size, 1, none⟩ = some (.int .i64 D2) := by rw [cell_of_row _ _ _ _ _ _ XE20.out]; rfl
          have hmo := most_any W20 D1 D2 q (by omega) (by omega) (by omega)
          rw [show decide (D1 ≤ q * D2) = false by simp; omega] at hmo
          clear k2 hlc
          have HC := hidE (hmo)
          go_wp2_with fail
          refine HC.out.mono ?_
          rintro e W21 ⟨rfl, hbx⟩
          clear HC g0 g1 hmo
          have hb : Below W20.heap.size W20 W21 := hbx
          have BB21 : Hid (Below w.heap.size w W21) := hidE (BB20.out.trans (hb.mono BB20.out.size))
          have FF21 : Hid (FldAt W21 ⟨some ⟨bS, oS, none⟩, cS, aL, cL, some ⟨bP, oP, none⟩, cP, aV, cV⟩ F) := hidE (FF20.out.below hb)
          have YY21 : Hid (IntsAt W21 a y) := hidE (YY20.out.below hb (Nat.le_refl _))
          have XF21 : Hid (W21.heap[w.heap.size]? = some (.cells #[.slice (some ⟨bS, oS, none⟩) F.sts.length cS, .slice aL F.lms.length cL, .slice (some ⟨bP, oP, none⟩) F.prs.length cP, .slice aV F.vrs.length cV] 46 (0,0))) := hidE (blk_below hb (lt_of_block XF20.out) XF20.out)
          have XE21 : Hid (W21.heap[W18.heap.size]? = some (.cells #[.int .i64 D1, .int .i64 D2] 49 (0,0))) := hidE (blk_below hb (lt_of_block XE20.out) XE20.out)
          clear hb BB20 FF20 YY20 XF20 XE20
          clear hbx
          go_wp2_with fail
          go_ret
          exact ⟨by simp, BB21.out⟩
    · have t2 : decide (m < tt) = false := by simpa using hlt
      clear XA10
      by_cases hq : q < 0 ∨ wh < q
      · have hct := HCOUT.out q hq
        have f0 : W10.cell? ⟨w.heap.size, 0, none⟩ = some (.slice (some ⟨bS, oS, none⟩) F.sts.length cS) := by rw [cell_of_row _ _ _ _ _ _ XF10.out]; rfl
        have f1 : W10.cell? ⟨w.heap.size, 1, none⟩ = some (.slice aL F.lms.length cL) := by rw [cell_of_row _ _ _ _ _ _ XF10.out]; rfl
        have f2 : W10.cell? ⟨w.heap.size, 2, none⟩ = some (.slice (some ⟨bP, oP, none⟩) F.prs.length cP) := by rw [cell_of_row _ _ _ _ _ _ XF10.out]; rfl
        have f3 : W10.cell? ⟨w.heap.size, 3, none⟩ = some (.slice aV F.vrs.length cV) := by rw [cell_of_row _ _ _ _ _ _ XF10.out]; rfl
        have hc := HCT.out W10 FF10.out YY10.out
        rw [hct] at hc
        clear hct
        have HC := hidE (hc)
        go_wp2_with fail
        refine HC.out.mono ?_
        rintro e W11 ⟨rfl, hbx⟩
        clear HC f0 f1 f2 f3 hc
        have hb : Below W10.heap.size W10 W11 := hbx
        have BB11 : Hid (Below w.heap.size w W11) := hidE (BB10.out.trans (hb.mono BB10.out.size))
        have FF11 : Hid (FldAt W11 ⟨some ⟨bS, oS, none⟩, cS, aL, cL, some ⟨bP, oP, none⟩, cP, aV, cV⟩ F) := hidE (FF10.out.below hb)
        have YY11 : Hid (IntsAt W11 a y) := hidE (YY10.out.below hb (Nat.le_refl _))
        have XF11 : Hid (W11.heap[w.heap.size]? = some (.cells #[.slice (some ⟨bS, oS, none⟩) F.sts.length cS, .slice aL F.lms.length cL, .slice (some ⟨bP, oP, none⟩) F.prs.length cP, .slice aV F.vrs.length cV] 46 (0,0))) := hidE (blk_below hb (lt_of_block XF10.out) XF10.out)
        have XB11 : Hid (W11.heap[W7.heap.size]? = some (.cells #[.int .i64 0, .int .i64 1] 49 (0,0))) := hidE (blk_below hb (lt_of_block XB10.out) XB10.out)
        have XC11 : Hid (W11.heap[W9.heap.size]? = some (.cells #[.int .i64 wh, .int .i64 1] 49 (0,0))) := hidE (blk_below hb (lt_of_block XC10.out) XC10.out)
        clear hb BB10 FF10 YY10 XF10 XB10 XC10
        clear hbx
        rcases Int.lt_or_le q 0 with hq0 | hq0
        · have r0 : decide (q < 0) = true := by simpa using hq0
          clear hq hq0
          go_wp2_with fail
          refine (HAL.out _).mono ?_
          rintro e w9 ⟨rfl, hb9⟩
          have B9 := hidE (BB11.out.trans (hb9.mono BB11.out.size))
          clear hb9
          go_wp2_with fail
          go_ret
          exact ⟨by simp, B9.out⟩
        · have r0 : decide (q < 0) = false := by simp; omega
          have r1 : decide (q > wh) = true := by simp; omega
          have r1' : decide (wh < q) = true := by simp; omega
          clear hq hq0
          go_wp2_with fail
          refine (HAL.out _).mono ?_
          rintro e w9 ⟨rfl, hb9⟩
          have B9 := hidE (BB11.out.trans (hb9.mono BB11.out.size))
          clear hb9
          go_wp2_with fail
          go_ret
          exact ⟨by simp, B9.out⟩
      · have hct := HCIN.out q (by omega) (by omega)
        obtain ⟨k1, k2⟩ := HCUT.out q (by omega)
        obtain ⟨k3, k4⟩ := HCB.out q (by omega)
        obtain ⟨cc, hcc⟩ : ∃ z, cutP G q = z := ⟨_, rfl⟩
        rw [hcc] at hct k1 k2
        have k5 : fr ≤ cc := by rw [← hcc]; exact k3
        have k6 : cc ≤ tt := by rw [← hcc]; exact k4
        have r0 : decide (q < 0) = false := by simp; omega
        have r1 : decide (q > wh) = false := by simp; omega
        have r1' : decide (wh < q) = false := by simp; omega
        have f0 : W10.cell? ⟨w.heap.size, 0, none⟩ = some (.slice (some ⟨bS, oS, none⟩) F.sts.length cS) := by rw [cell_of_row _ _ _ _ _ _ XF10.out]; rfl
        have f1 : W10.cell? ⟨w.heap.size, 1, none⟩ = some (.slice aL F.lms.length cL) := by rw [cell_of_row _ _ _ _ _ _ XF10.out]; rfl
        have f2 : W10.cell? ⟨w.heap.size, 2, none⟩ = some (.slice (some ⟨bP, oP, none⟩) F.prs.length cP) := by rw [cell_of_row _ _ _ _ _ _ XF10.out]; rfl
        have f3 : W10.cell? ⟨w.heap.size, 3, none⟩ = some (.slice aV F.vrs.length cV) := by rw [cell_of_row _ _ _ _ _ _ XF10.out]; rfl
        have hc := HCT.out W10 FF10.out YY10.out
        rw [hct] at hc
        have hlc := HLOW.out cc k5 k6
        have K2 := hidE k2
        clear hct hcc k2 k3 k4
        have HC := hidE (hc)
        go_wp2_with fail
        refine HC.out.mono ?_
        rintro e W11 ⟨rfl, hbx⟩
        clear HC f0 f1 f2 f3 hc
        have hb : Below W10.heap.size W10 W11 := hbx
        have BB11 : Hid (Below w.heap.size w W11) := hidE (BB10.out.trans (hb.mono BB10.out.size))
        have FF11 : Hid (FldAt W11 ⟨some ⟨bS, oS, none⟩, cS, aL, cL, some ⟨bP, oP, none⟩, cP, aV, cV⟩ F) := hidE (FF10.out.below hb)
        have YY11 : Hid (IntsAt W11 a y) := hidE (YY10.out.below hb (Nat.le_refl _))
        have XF11 : Hid (W11.heap[w.heap.size]? = some (.cells #[.slice (some ⟨bS, oS, none⟩) F.sts.length cS, .slice aL F.lms.length cL, .slice (some ⟨bP, oP, none⟩) F.prs.length cP, .slice aV F.vrs.length cV] 46 (0,0))) := hidE (blk_below hb (lt_of_block XF10.out) XF10.out)
        have XB11 : Hid (W11.heap[W7.heap.size]? = some (.cells #[.int .i64 0, .int .i64 1] 49 (0,0))) := hidE (blk_below hb (lt_of_block XB10.out) XB10.out)
        have XC11 : Hid (W11.heap[W9.heap.size]? = some (.cells #[.int .i64 wh, .int .i64 1] 49 (0,0))) := hidE (blk_below hb (lt_of_block XC10.out) XC10.out)
        clear hb BB10 FF10 YY10 XF10 XB10 XC10
        clear hbx
        have f0 : W11.cell? ⟨w.heap.size, 0, none⟩ = some (.slice (some ⟨bS, oS, none⟩) F.sts.length cS) := by rw [cell_of_row _ _ _ _ _ _ XF11.out]; rfl
        have f1 : W11.cell? ⟨w.heap.size, 1, none⟩ = some (.slice aL F.lms.length cL) := by rw [cell_of_row _ _ _ _ _ _ XF11.out]; rfl
        have f2 : W11.cell? ⟨w.heap.size, 2, none⟩ = some (.slice (some ⟨bP, oP, none⟩) F.prs.length cP) := by rw [cell_of_row _ _ _ _ _ _ XF11.out]; rfl
        have f3 : W11.cell? ⟨w.heap.size, 3, none⟩ = some (.slice aV F.vrs.length cV) := by rw [cell_of_row _ _ _ _ _ _ XF11.out]; rfl
        have hc := HWS.out W11 (cc) FF11.out YY11.out
        rw [HWIN.out cc k5 k6] at hc
        have HC := hidE (hc)
        go_wp2_with fail
        refine HC.out.mono ?_
        rintro e W12 ⟨rfl, hbx⟩
        clear HC f0 f1 f2 f3 hc
        have hb : Below W11.heap.size W11 W12 := hbx
        have BB12 : Hid (Below w.heap.size w W12) := hidE (BB11.out.trans (hb.mono BB11.out.size))
        have FF12 : Hid (FldAt W12 ⟨some ⟨bS, oS, none⟩, cS, aL, cL, some ⟨bP, oP, none⟩, cP, aV, cV⟩ F) := hidE (FF11.out.below hb)
        have YY12 : Hid (IntsAt W12 a y) := hidE (YY11.out.below hb (Nat.le_refl _))
        have XF12 : Hid (W12.heap[w.heap.size]? = some (.cells #[.slice (some ⟨bS, oS, none⟩) F.sts.length cS, .slice aL F.lms.length cL, .slice (some ⟨bP, oP, none⟩) F.prs.length cP, .slice aV F.vrs.length cV] 46 (0,0))) := hidE (blk_below hb (lt_of_block XF11.out) XF11.out)
        have XB12 : Hid (W12.heap[W7.heap.size]? = some (.cells #[.int .i64 0, .int .i64 1] 49 (0,0))) := hidE (blk_below hb (lt_of_block XB11.out) XB11.out)
        have XC12 : Hid (W12.heap[W9.heap.size]? = some (.cells #[.int .i64 wh, .int .i64 1] 49 (0,0))) := hidE (blk_below hb (lt_of_block XC11.out) XC11.out)
        clear hb BB11 FF11 YY11 XF11 XB11 XC11
        clear hbx
        go_upto_region 21 with fail
        obtain ⟨W13, hW⟩ : ∃ W, W = W12.alloc (.cells #[.int .i64 (LP cc).1, .int .i64 (LP cc).2] 49) := ⟨_, rfl⟩
        rw [← hW]
        have hxw : W13.heap[W12.heap.size]? = some (.cells #[.int .i64 (LP cc).1, .int .i64 (LP cc).2] 49 (0,0)) := by rw [hW]; exact heap_alloc_new _ _
        have hb : Below W12.heap.size W12 W13 := by rw [hW]; exact (Below.refl _ _).alloc (Nat.le_refl _) _
        have BB13 : Hid (Below w.heap.size w W13) := hidE (BB12.out.trans (hb.mono BB12.out.size))
        have FF13 : Hid (FldAt W13 ⟨some ⟨bS, oS, none⟩, cS, aL, cL, some ⟨bP, oP, none⟩, cP, aV, cV⟩ F) := hidE (FF12.out.below hb)
        have YY13 : Hid (IntsAt W13 a y) := hidE (YY12.out.below hb (Nat.le_refl _))
        have XF13 : Hid (W13.heap[w.heap.size]? = some (.cells #[.slice (some ⟨bS, oS, none⟩) F.sts.length cS, .slice aL F.lms.length cL, .slice (some ⟨bP, oP, none⟩) F.prs.length cP, .slice aV F.vrs.length cV] 46 (0,0))) := hidE (blk_below hb (lt_of_block XF12.out) XF12.out)
        have XB13 : Hid (W13.heap[W7.heap.size]? = some (.cells #[.int .i64 0, .int .i64 1] 49 (0,0))) := hidE (blk_below hb (lt_of_block XB12.out) XB12.out)
        have XC13 : Hid (W13.heap[W9.heap.size]? = some (.cells #[.int .i64 wh, .int .i64 1] 49 (0,0))) := hidE (blk_below hb (lt_of_block XC12.out) XC12.out)
        clear hb BB12 FF12 YY12 XF12 XB12 XC12
        have XD13 : Hid (W13.heap[W12.heap.size]? = some (.cells #[.int .i64 (LP cc).1, .int .i64 (LP cc).2] 49 (0,0))) := hidE hxw
        clear hW hxw
        obtain ⟨D1, hD1⟩ : ∃ z, (LP cc).1 = z := ⟨_, rfl⟩
        obtain ⟨D2, hD2⟩ : ∃ z, (LP cc).2 = z := ⟨_, rfl⟩
        rw [hD1, hD2] at XD13 k1 hlc
        clear hD1 hD2
        have g0 : W13.cell? ⟨W12.heap.size, 0, none⟩ = some (.int .i64 D1) := by rw [cell_of_row _ _ _ _ _ _ XD13.out]; rfl
        have g1 : W13.cell? ⟨W12.heap.size, 1, none⟩ = some (.int .i64 D2) := by rw [cell_of_row _ _ _ _ _ _ XD13.out]; rfl
        have hmo := most_any W13 D1 D2 q (by omega) (by omega) (by omega)
        rw [show decide (D1 ≤ q * D2) = true by simpa using k1] at hmo
        clear k1 hlc
        have HC := hidE (hmo)
        go_wp2_with fail
        refine HC.out.mono ?_
        rintro e W14 ⟨rfl, hbx⟩
        clear HC g0 g1 hmo
        have hb : Below W13.heap.size W13 W14 := hbx
        have BB14 : Hid (Below w.heap.size w W14) := hidE (BB13.out.trans (hb.mono BB13.out.size))
        have FF14 : Hid (FldAt W14 ⟨some ⟨bS, oS, none⟩, cS, aL, cL, some ⟨bP, oP, none⟩, cP, aV, cV⟩ F) := hidE (FF13.out.below hb)
        have YY14 : Hid (IntsAt W14 a y) := hidE (YY13.out.below hb (Nat.le_refl _))
        have XF14 : Hid (W14.heap[w.heap.size]? = some (.cells #[.slice (some ⟨bS, oS, none⟩) F.sts.length cS, .slice aL F.lms.length cL, .slice (some ⟨bP, oP, none⟩) F.prs.length cP, .slice aV F.vrs.length cV] 46 (0,0))) := hidE (blk_below hb (lt_of_block XF13.out) XF13.out)
        have XB14 : Hid (W14.heap[W7.heap.size]? = some (.cells #[.int .i64 0, .int .i64 1] 49 (0,0))) := hidE (blk_below hb (lt_of_block XB13.out) XB13.out)
        have XC14 : Hid (W14.heap[W9.heap.size]? = some (.cells #[.int .i64 wh, .int .i64 1] 49 (0,0))) := hidE (blk_below hb (lt_of_block XC13.out) XC13.out)
        have XD14 : Hid (W14.heap[W12.heap.size]? = some (.cells #[.int .i64 D1, .int .i64 D2] 49 (0,0))) := hidE (blk_below hb (lt_of_block XD13.out) XD13.out)
        clear hb BB13 FF13 YY13 XF13 XB13 XC13 XD13
        clear hbx
        clear XD14
        by_cases hce : cc = tt
        · have s0 : (cc == tt) = true := by simpa using hce
          clear hce
          go_wp2_with fail
          refine (HAL.out _).mono ?_
          rintro e w9 ⟨rfl, hb9⟩
          have B9 := hidE (BB14.out.trans (hb9.mono BB14.out.size))
          clear hb9
          go_wp2_with fail
          go_ret
          exact ⟨by simp, B9.out⟩
        · have s0 : (cc == tt) = false := by simpa using hce
          have hlt2 : cc + 1 ≤ tt := by omega
          have wc : IntKind.i64.wrap (cc + 1) = cc + 1 := IntWalk.i64_in _ (by omega)
          have hlc := HLOW.out (cc + 1) (by omega) hlt2
          have k2 : q * (LP (cc + 1)).2 < (LP (cc + 1)).1 := by
            rcases K2.out with e | e
            · exact absurd e hce
            · exact e
          clear hce K2
          have f0 : W14.cell? ⟨w.heap.size, 0, none⟩ = some (.slice (some ⟨bS, oS, none⟩) F.sts.length cS) := by rw [cell_of_row _ _ _ _ _ _ XF14.out]; rfl
          have f1 : W14.cell? ⟨w.heap.size, 1, none⟩ = some (.slice aL F.lms.length cL) := by rw [cell_of_row _ _ _ _ _ _ XF14.out]; rfl
          have f2 : W14.cell? ⟨w.heap.size, 2, none⟩ = some (.slice (some ⟨bP, oP, none⟩) F.prs.length cP) := by rw [cell_of_row _ _ _ _ _ _ XF14.out]; rfl
          have f3 : W14.cell? ⟨w.heap.size, 3, none⟩ = some (.slice aV F.vrs.length cV) := by rw [cell_of_row _ _ _ _ _ _ XF14.out]; rfl
          have hc := HWS.out W14 (cc + 1) FF14.out YY14.out
          rw [HWIN.out (cc + 1) (by omega) hlt2] at hc
          obtain ⟨D1, hD1⟩ : ∃ z, (LP (cc + 1)).1 = z := ⟨_, rfl⟩
          obtain ⟨D2, hD2⟩ : ∃ z, (LP (cc + 1)).2 = z := ⟨_, rfl⟩
          rw [hD1, hD2] at hc hlc k2
          clear hD1 hD2
          have HC := hidE (hc)
          go_wp2_with fail
          refine HC.out.mono ?_
          rintro e W15 ⟨rfl, hbx⟩
          clear HC f0 f1 f2 f3 hc
          have hb : Below W14.heap.size W14 W15 := hbx
          have BB15 : Hid (Below w.heap.size w W15) := hidE (BB14.out.trans (hb.mono BB14.out.size))
          have FF15 : Hid (FldAt W15 ⟨some ⟨bS, oS, none⟩, cS, aL, cL, some ⟨bP, oP, none⟩, cP, aV, cV⟩ F) := hidE (FF14.out.below hb)
          have YY15 : Hid (IntsAt W15 a y) := hidE (YY14.out.below hb (Nat.le_refl _))
          have XF15 : Hid (W15.heap[w.heap.size]? = some (.cells #[.slice (some ⟨bS, oS, none⟩) F.sts.length cS, .slice aL F.lms.length cL, .slice (some ⟨bP, oP, none⟩) F.prs.length cP, .slice aV F.vrs.length cV] 46 (0,0))) := hidE (blk_below hb (lt_of_block XF14.out) XF14.out)
          have XB15 : Hid (W15.heap[W7.heap.size]? = some (.cells #[.int .i64 0, .int .i64 1] 49 (0,0))) := hidE (blk_below hb (lt_of_block XB14.out) XB14.out)
          have XC15 : Hid (W15.heap[W9.heap.size]? = some (.cells #[.int .i64 wh, .int .i64 1] 49 (0,0))) := hidE (blk_below hb (lt_of_block XC14.out) XC14.out)
          clear hb BB14 FF14 YY14 XF14 XB14 XC14
          clear hbx
          go_upto_region 26 with fail
          obtain ⟨W16, hW⟩ : ∃ W, W = W15.alloc (.cells #[.int .i64 D1, .int .i64 D2] 49) := ⟨_, rfl⟩
          rw [← hW]
          have hxw : W16.heap[W15.heap.size]? = some (.cells #[.int .i64 D1, .int .i64 D2] 49 (0,0)) := by rw [hW]; exact heap_alloc_new _ _
          have hb : Below W15.heap.size W15 W16 := by rw [hW]; exact (Below.refl _ _).alloc (Nat.le_refl _) _
          have BB16 : Hid (Below w.heap.size w W16) := hidE (BB15.out.trans (hb.mono BB15.out.size))
          have FF16 : Hid (FldAt W16 ⟨some ⟨bS, oS, none⟩, cS, aL, cL, some ⟨bP, oP, none⟩, cP, aV, cV⟩ F) := hidE (FF15.out.below hb)
          have YY16 : Hid (IntsAt W16 a y) := hidE (YY15.out.below hb (Nat.le_refl _))
          have XF16 : Hid (W16.heap[w.heap.size]? = some (.cells #[.slice (some ⟨bS, oS, none⟩) F.sts.length cS, .slice aL F.lms.length cL, .slice (some ⟨bP, oP, none⟩) F.prs.length cP, .slice aV F.vrs.length cV] 46 (0,0))) := hidE (blk_below hb (lt_of_block XF15.out) XF15.out)
          have XB16 : Hid (W16.heap[W7.heap.size]? = some (.cells #[.int .i64 0, .int .i64 1] 49 (0,0))) := hidE (blk_below hb (lt_of_block XB15.out) XB15.out)
          have XC16 : Hid (W16.heap[W9.heap.size]? = some (.cells #[.int .i64 wh, .int .i64 1] 49 (0,0))) := hidE (blk_below hb (lt_of_block XC15.out) XC15.out)
          clear hb BB15 FF15 YY15 XF15 XB15 XC15
          have XE16 : Hid (W16.heap[W15.heap.size]? = some (.cells #[.int .i64 D1, .int .i64 D2] 49 (0,0))) := hidE hxw
          clear hW hxw
          have HC := hidE (HAL.out W16)
          go_wp2_with fail
          refine HC.out.mono ?_
          rintro e W17 ⟨rfl, hbx⟩
          clear HC 
          have hb : Below W16.heap.size W16 W17 := hbx
          have BB17 : Hid (Below w.heap.size w W17) := hidE (BB16.out.trans (hb.mono BB16.out.size))
          have FF17 : Hid (FldAt W17 ⟨some ⟨bS, oS, none⟩, cS, aL, cL, some ⟨bP, oP, none⟩, cP, aV, cV⟩ F) := hidE (FF16.out.below hb)
          have YY17 : Hid (IntsAt W17 a y) := hidE (YY16.out.below hb (Nat.le_refl _))
          have XF17 : Hid (W17.heap[w.heap.size]? = some (.cells #[.slice (some ⟨bS, oS, none⟩) F.sts.length cS, .slice aL F.lms.length cL, .slice (some ⟨bP, oP, none⟩) F.prs.length cP, .slice aV F.vrs.length cV] 46 (0,0))) := hidE (blk_below hb (lt_of_block XF16.out) XF16.out)
          have XB17 : Hid (W17.heap[W7.heap.size]? = some (.cells #[.int .i64 0, .int .i64 1] 49 (0,0))) := hidE (blk_below hb (lt_of_block XB16.out) XB16.out)
          have XC17 : Hid (W17.heap[W9.heap.size]? = some (.cells #[.int .i64 wh, .int .i64 1] 49 (0,0))) := hidE (blk_below hb (lt_of_block XC16.out) XC16.out)
          have XE17 : Hid (W17.heap[W15.heap.size]? = some (.cells #[.int .i64 D1, .int .i64 D2] 49 (0,0))) := hidE (blk_below hb (lt_of_block XE16.out) XE16.out)
          clear hb BB16 FF16 YY16 XF16 XB16 XC16 XE16
          clear hbx
          have g0 : W17.cell? ⟨W15.heap.size, 0, none⟩ = some (.int .i64 D1) := by rw [cell_of_row _ _ _ _ _ _ XE17.out]; rfl
          have g1 : W17.cell? ⟨W15.heap.size, 1, none⟩ = some (.int .i64 D2) := by rw [cell_of_row _ _ _ _ _ _ XE17.out]; rfl
          have hmo := most_any W17 D1 D2 q (by omega) (by omega) (by omega)
          rw [show decide (D1 ≤ q * D2) = false by simp; omega] at hmo
          clear k2 hlc
          have HC := hidE (hmo)
          go_wp2_with fail
          refine HC.out.mono ?_
          rintro e W18 ⟨rfl, hbx⟩
          clear HC g0 g1 hmo
          have hb : Below W17.heap.size W17 W18 := hbx
          have BB18 : Hid (Below w.heap.size w W18) := hidE (BB17.out.trans (hb.mono BB17.out.size))
          have FF18 : Hid (FldAt W18 ⟨some ⟨bS, oS, none⟩, cS, aL, cL, some ⟨bP, oP, none⟩, cP, aV, cV⟩ F) := hidE (FF17.out.below hb)
          have YY18 : Hid (IntsAt W18 a y) := hidE (YY17.out.below hb (Nat.le_refl _))
          have XF18 : Hid (W18.heap[w.heap.size]? = some (.cells #[.slice (some ⟨bS, oS, none⟩) F.sts.length cS, .slice aL F.lms.length cL, .slice (some ⟨bP, oP, none⟩) F.prs.length cP, .slice aV F.vrs.length cV] 46 (0,0))) := hidE (blk_below hb (lt_of_block XF17.out) XF17.out)
          have XB18 : Hid (W18.heap[W7.heap.size]? = some (.cells #[.int .i64 0, .int .i64 1] 49 (0,0))) := hidE (blk_below hb (lt_of_block XB17.out) XB17.out)
          have XC18 : Hid (W18.heap[W9.heap.size]? = some (.cells #[.int .i64 wh, .int .i64 1] 49 (0,0))) := hidE (blk_below hb (lt_of_block XC17.out) XC17.out)
          have XE18 : Hid (W18.heap[W15.heap.size]? = some (.cells #[.int .i64 D1, .int .i64 D2] 49 (0,0))) := hidE (blk_below hb (lt_of_block XE17.out) XE17.out)
          clear hb BB17 FF17 YY17 XF17 XB17 XC17 XE17
          clear hbx
          go_wp2_with fail
          go_ret
          exact ⟨by simp, BB18.out⟩
  · have HZE := hidE (west_err hz)
    obtain ⟨E, hE⟩ : ∃ E, (westE F y i m).2 = E := ⟨_, rfl⟩
    rw [hE] at hz
    have hz2 : (E != 0) = true := by simpa using hz
    have HEE := hidE hE
    clear hE hz
    go_enter Tryz.func5, Tryz.ntmps5
    go_upto_region 1 with fail
    rw [← hW0]
    clear hW0
    have f0 : W0.cell? ⟨w.heap.size, 0, none⟩ = some (.slice aS F.sts.length cS) := by rw [cell_of_row _ _ _ _ _ _ XF0.out]; rfl
    have f1 : W0.cell? ⟨w.heap.size, 1, none⟩ = some (.slice aL F.lms.length cL) := by rw [cell_of_row _ _ _ _ _ _ XF0.out]; rfl
    have f2 : W0.cell? ⟨w.heap.size, 2, none⟩ = some (.slice aP F.prs.length cP) := by rw [cell_of_row _ _ _ _ _ _ XF0.out]; rfl
    have f3 : W0.cell? ⟨w.heap.size, 3, none⟩ = some (.slice aV F.vrs.length cV) := by rw [cell_of_row _ _ _ _ _ _ XF0.out]; rfl
    have HC := hidE (HPL.out W0)
    go_wp2_with fail
    refine HC.out.mono ?_
    rintro e W1 ⟨rfl, hbx⟩
    clear HC f0 f1 f2 f3
    have hb : Below W0.heap.size W0 W1 := hbx
    have BB1 : Hid (Below w.heap.size w W1) := hidE (BB0.out.trans (hb.mono BB0.out.size))
    have FF1 : Hid (FldAt W1 ⟨aS, cS, aL, cL, aP, cP, aV, cV⟩ F) := hidE (FF0.out.below hb)
    have YY1 : Hid (IntsAt W1 a y) := hidE (YY0.out.below hb (Nat.le_refl _))
    have XF1 : Hid (W1.heap[w.heap.size]? = some (.cells #[.slice aS F.sts.length cS, .slice aL F.lms.length cL, .slice aP F.prs.length cP, .slice aV F.vrs.length cV] 46 (0,0))) := hidE (blk_below hb (lt_of_block XF0.out) XF0.out)
    clear hb BB0 FF0 YY0 XF0
    clear hbx
    have f0 : W1.cell? ⟨w.heap.size, 0, none⟩ = some (.slice aS F.sts.length cS) := by rw [cell_of_row _ _ _ _ _ _ XF1.out]; rfl
    have f1 : W1.cell? ⟨w.heap.size, 1, none⟩ = some (.slice aL F.lms.length cL) := by rw [cell_of_row _ _ _ _ _ _ XF1.out]; rfl
    have f2 : W1.cell? ⟨w.heap.size, 2, none⟩ = some (.slice aP F.prs.length cP) := by rw [cell_of_row _ _ _ _ _ _ XF1.out]; rfl
    have f3 : W1.cell? ⟨w.heap.size, 3, none⟩ = some (.slice aV F.vrs.length cV) := by rw [cell_of_row _ _ _ _ _ _ XF1.out]; rfl
    have hc := HWS.out W1 m FF1.out YY1.out
    rw [HEE.out, HZE.out] at hc
    have HC := hidE (hc)
    go_wp2_with fail
    refine HC.out.mono ?_
    rintro e W2 ⟨rfl, hbx⟩
    clear HC f0 f1 f2 f3 hc
    have hb : Below W1.heap.size W1 W2 := hbx
    have BB2 : Hid (Below w.heap.size w W2) := hidE (BB1.out.trans (hb.mono BB1.out.size))
    have FF2 : Hid (FldAt W2 ⟨aS, cS, aL, cL, aP, cP, aV, cV⟩ F) := hidE (FF1.out.below hb)
    have YY2 : Hid (IntsAt W2 a y) := hidE (YY1.out.below hb (Nat.le_refl _))
    have XF2 : Hid (W2.heap[w.heap.size]? = some (.cells #[.slice aS F.sts.length cS, .slice aL F.lms.length cL, .slice aP F.prs.length cP, .slice aV F.vrs.length cV] 46 (0,0))) := hidE (blk_below hb (lt_of_block XF1.out) XF1.out)
    clear hb BB1 FF1 YY1 XF1
    clear hbx
    go_upto_region 4 with fail
    obtain ⟨W3, hW⟩ : ∃ W, W = W2.alloc (.cells #[.int .i64 0, .int .i64 0] 49) := ⟨_, rfl⟩
    rw [← hW]
    have hxw : W3.heap[W2.heap.size]? = some (.cells #[.int .i64 0, .int .i64 0] 49 (0,0)) := by rw [hW]; exact heap_alloc_new _ _
    have hb : Below W2.heap.size W2 W3 := by rw [hW]; exact (Below.refl _ _).alloc (Nat.le_refl _) _
    have BB3 : Hid (Below w.heap.size w W3) := hidE (BB2.out.trans (hb.mono BB2.out.size))
    have FF3 : Hid (FldAt W3 ⟨aS, cS, aL, cL, aP, cP, aV, cV⟩ F) := hidE (FF2.out.below hb)
    have YY3 : Hid (IntsAt W3 a y) := hidE (YY2.out.below hb (Nat.le_refl _))
    have XF3 : Hid (W3.heap[w.heap.size]? = some (.cells #[.slice aS F.sts.length cS, .slice aL F.lms.length cL, .slice aP F.prs.length cP, .slice aV F.vrs.length cV] 46 (0,0))) := hidE (blk_below hb (lt_of_block XF2.out) XF2.out)
    clear hb BB2 FF2 YY2 XF2
    have XA3 : Hid (W3.heap[W2.heap.size]? = some (.cells #[.int .i64 0, .int .i64 0] 49 (0,0))) := hidE hxw
    clear hW hxw
    go_wp2_with fail
    refine (HAL.out _).mono ?_
    rintro e w9 ⟨rfl, hb9⟩
    have B9 := hidE (BB3.out.trans (hb9.mono BB3.out.size))
    have xz := blk_below hb9 (lt_of_block XA3.out) XA3.out
    have f0 : w9.cell? ⟨W2.heap.size, 0, none⟩ = some (.int .i64 0) := by rw [cell_of_row _ _ _ _ _ _ xz]; rfl
    have f1 : w9.cell? ⟨W2.heap.size, 1, none⟩ = some (.int .i64 0) := by rw [cell_of_row _ _ _ _ _ _ xz]; rfl
    clear hb9 xz
    go_wp2_with fail
    go_ret
    exact ⟨by simp, B9.out⟩
end Go.Proofs.YthjmkmjojlfejaaGreat
