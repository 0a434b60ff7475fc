/- What the law LimitsMore needs beyond the base: Lm2, Lm7, Lm9, Lm14, E41, E48, Lp3, E49, E50, F8, Fr, Frf, Frq. No conditions beyond those stated. -/
import Derived.Test.YtkhemfnlflbniaaGreatDoorB09
import Derived.Test.YtkhemfnlflbniaaGreatDoorB08
import Derived.Test.YtkhemfnlflbniaaGreatDoorB05
import Derived.Test.YtkhemfnlflbniaaGreatDoorB01
import Derived.Test.YtkhemfnlflbniaaGreatDoorB07
import Derived.Test.YtkhemfnlflbniaaGreatDoorB06
import Derived.Test.YtkhemfnlflbniaaGreatDoorB04
import Derived.Shelf.Small.Bits
import Derived.Shelf.Small.Wraps
import Derived.Shelf.Strconv.Itoa0
import Derived.Shelf.Sort.Plain
import Derived.Shelf.Slices.Turned
import Derived.Ground.Names2Prog
import Derived.Shelf.Slices.CompactI
import Derived.Shelf.Slices.Cells
import Derived.Shelf.Slices.In.SortNone
import Derived.Test.YtkhemfnlflbniaaGreatDoorProg
import Derived.Test.YtkhemfnlflbniaaGreatDoorB03
import Derived.Test.YtkhemfnlflbniaaGreatDoorB02
import Derived.WalkKit
import Derived.Handy
import Derived.RangeFuncRecord
import Derived.Shelf.Abstract
import Derived.Deep.QuietTactic
import Derived.BigQuiet
import Derived.Laws.CopyOwn
import Derived.WalkSmall
import Derived.RangeFuncNested
import Derived.RangeFuncBound
import Derived.RangeFuncCalls
import Derived.RangeFuncLeaves
import Derived.Shelf.RegionOpen
import Derived.OwnWalkIn
import Derived.TacticsInMore
import Derived.LoopNIn
import Derived.LoopIn
import Derived.Maps.AppendAt
import Derived.Deep.Onto
import Derived.OrdersHeld
import Derived.Deep.LoopGhost
import Derived.Deep.WholeRow
import Derived.Deep.OwnRows
import Derived.StillTailTactics
import Derived.Great.Walk
import Derived.Great.BuildSlice
import Derived.WalkMore
import Derived.Deep.MidRow
import Derived.Deep.RegionHeld3
import Derived.Deep.DeepCutAuto
import Derived.Lib.OwnBridge
import Derived.Lib.SliceRun
import Derived.WalkSpells
import Derived.Deep.RegionWith
import Derived.Lib.AppendZerosOnto
import Derived.Deep.CutBlock
import Derived.IntWalk
import Derived.Test.YtkhemfnlflbniaaGreatDoorB10
import Derived.Test.YtkhemfnlflbniaaGreatDoorB12
import Derived.Test.YtkhemfnlflbniaaGreatDoorB15
import Derived.Test.YtkhemfnlflbniaaGreatDoorB14
import Derived.Laws.Rows
import Derived.Laws.Tables
import Derived.Deep.Cut
import Derived.Test.YtkhemfnlflbniaaGreatDoorB13
import Derived.Test.YtkhemfnlflbniaaGreatDoorB11
import Derived.Laws.StructEq
import Derived.OrdersIn
import Derived.RangeFuncBox
import Derived.Test.YtkhemfnlflbniaaGreatDoorRows
import Derived.ProofKit
import Derived.OpenShut
import Derived.Carry
import Derived.Lib.SmallJoins
import Derived.Deep.Slices
import Derived.ChangeMaps5
namespace Go.Proofs.YtkhemfnlflbniaaGreatDoor
theorem far_takes {N : Nat} {bs : List Bd} (T : Tied N bs) {a b : Nat} (ha : a < N) (hb : b < N) : (farV N bs a).getD b 0 - (farV N bs a).getD a 0 = distN N bs a b := by
 obtain ⟨t, ht, H⟩ := T.net
 rw [farV_get hb, farV_get ha, dist_self H ht ha]
 omega
theorem dist_fewer {N : Nat} {bs cs : List Bd} (T : Tied N bs) (U : Tied N cs) (h : ∀ y, Keeps N cs y → Keeps N bs y) {a b : Nat} (ha : a < N) (hb : b < N) : distN N cs a b ≤ distN N bs a b := by
 rw [← far_takes U ha hb]
 exact tied_dist T (h _ (far_keeps U ha)) ha hb
theorem more_narrow {F : Fld} {l m : List Rcd} (h : Good F l) (g : Good F m) (hs : ∀ r ∈ m, r ∈ l) (ha : agreeB F l = true) {a b : Nat} (h1 : a < ptN F) (h2 : b < ptN F) : distN (ptN F) (sysL F l) a b ≤ distN (ptN F) (sysL F m) a b :=
 dist_fewer (tied g (agree_sub h g hs ha)) (tied h ha) (fun _ => drw_sub hs) h1 h2
theorem flag_zero {b : Bool} : flagE b = 0 ↔ b = true := by cases b <;> simp [flagE]
theorem region_zero {F : Fld} {l : List Rcd} {i s : Int} (h : (regionE F l i s).2.2 = 0) : Good F l ∧ agreeB F l = true ∧ limB F i = true ∧ staB F s = true ∧ regionE F l i s = (lowE F l (ptS F i s), highE F l (ptS F i s), 0) := by
 unfold regionE at h ⊢
 by_cases k : matchE F l (flagE (cornB F i s)) ≠ 0
 ·rw [if_pos k] at h; exact absurd h k
 ·rw [if_neg k]
  have := match_zero.1 (Classical.not_not.1 k)
  have c := flag_zero.1 this.2.1
  unfold cornB at c
  rw [Bool.and_eq_true] at c
  exact ⟨this.1, this.2.2, c.1, c.2, rfl⟩
theorem region_of {F : Fld} {l : List Rcd} {i s : Int} (h : Good F l) (ha : agreeB F l = true) (hi : limB F i = true) (hs : staB F s = true) : regionE F l i s = (lowE F l (ptS F i s), highE F l (ptS F i s), 0) := by
 unfold regionE
 rw [if_neg]
 exact fun q => q (match_zero.2 ⟨h, flag_zero.2 (by unfold cornB; rw [hi, hs]; rfl), ha⟩)
theorem width_zero {F : Fld} {l : List Rcd} {i s j t : Int} (h : (widthE F l i s j t).2.2 = 0) : Good F l ∧ agreeB F l = true ∧ (limB F i = true ∧ staB F s = true) ∧ (limB F j = true ∧ staB F t = true) ∧ widthE F l i s j t = (-distN (ptN F) (sysL F l) (ptS F j t) (ptS F i s), distN (ptN F) (sysL F l) (ptS F i s) (ptS F j t), 0) := by
 unfold widthE at h ⊢
 by_cases k : matchE F l (flagE (cornB F i s && cornB F j t)) ≠ 0
 ·rw [if_pos k] at h; exact absurd h k
 ·rw [if_neg k]
  have := match_zero.1 (Classical.not_not.1 k)
  have c := flag_zero.1 this.2.1
  unfold cornB at c
  rw [Bool.and_eq_true, Bool.and_eq_true, Bool.and_eq_true] at c
  exact ⟨this.1, this.2.2, c.1, c.2, rfl⟩
theorem width_of {F : Fld} {l : List Rcd} {i s j t : Int} (h : Good F l) (ha : agreeB F l = true) (hi : limB F i = true) (hs : staB F s = true) (hj : limB F j = true) (ht : staB F t = true) : widthE F l i s j t = (-distN (ptN F) (sysL F l) (ptS F j t) (ptS F i s), distN (ptN F) (sysL F l) (ptS F i s) (ptS F j t), 0) := by
 unfold widthE
 rw [if_neg]
 exact fun q => q (match_zero.2 ⟨h, flag_zero.2 (by unfold cornB; rw [hi, hs, hj, ht]; rfl), ha⟩)
theorem narrows_law {F : Fld} {l m : List Rcd} (g : Good F m) (ha : agreeB F m = true) (hs : l.Sublist m) {i s j t : Int} :
 (regionE F l i s).2.2 = (regionE F m i s).2.2 ∧ ((regionE F l i s).2.2 = 0 → (regionE F l i s).1 ≤ (regionE F m i s).1 ∧ (regionE F m i s).2.1 ≤ (regionE F l i s).2.1) ∧
 (widthE F l i s j t).2.2 = (widthE F m i s j t).2.2 ∧ ((widthE F l i s j t).2.2 = 0 → (widthE F l i s j t).1 ≤ (widthE F m i s j t).1 ∧ (widthE F m i s j t).2.1 ≤ (widthE F l i s j t).2.1) := by
 have gl := good_sub g hs
 have al := agree_sub g gl (fun _ hr => hs.subset hr) ha
 have e : ∀ x, matchE F l x = matchE F m x := fun x => by
  unfold matchE
  rw [(check_iff F l).2 gl, (check_iff F m).2 g, al, ha]
 refine ⟨?_, fun h => ?_, ?_, fun h => ?_⟩
 ·unfold regionE
  rw [e]
  by_cases k : matchE F m (flagE (cornB F i s)) ≠ 0
  ·rw [if_pos k, if_pos k]
  ·rw [if_neg k, if_neg k]
 ·obtain ⟨_, _, hi, hs2, e1⟩ := region_zero h
  rw [e1, region_of g ha hi hs2]
  have p := ptS_bd hi hs2
  have a := more_narrow g gl (fun _ hr => hs.subset hr) ha p.2.1 (b := 0) (pt_le g.fld).1
  have b := more_narrow g gl (fun _ hr => hs.subset hr) ha (a := 0) (pt_le g.fld).1 p.2.1
  unfold lowE highE
  dsimp
  omega
 ·unfold widthE
  rw [e]
  by_cases k : matchE F m (flagE (cornB F i s && cornB F j t)) ≠ 0
  ·rw [if_pos k, if_pos k]
  ·rw [if_neg k, if_neg k]
 ·obtain ⟨_, _, hi, hj, e1⟩ := width_zero h
  rw [e1, width_of g ha hi.1 hi.2 hj.1 hj.2]
  have p := ptS_bd hi.1 hi.2
  have q := ptS_bd hj.1 hj.2
  have a := more_narrow g gl (fun _ hr => hs.subset hr) ha p.2.1 q.2.1
  have b := more_narrow g gl (fun _ hr => hs.subset hr) ha q.2.1 p.2.1
  dsimp
  omega
theorem award_of {F : Fld} {l : List Rcd} {i s a b : Int} (h : matchE F l (flagE (stripB F i s a b)) = 0) : awardE F l i s a b = (awardOf (lowE F l (ptS F i s)) (highE F l (ptS F i s)) a b, 0) ∧ partsE F l i s a b = (cutP (lowE F l (ptS F i s)) (highE F l (ptS F i s)) a b, 0) := by
 unfold awardE partsE
 rw [h]
 exact ⟨rfl, rfl⟩
theorem par_mem {F : Fld} {i : Nat} (h : i < F.prs.length) : parAt F i ∈ F.prs := by unfold parAt; rw [List.getD_eq_getElem?_getD, List.getElem?_eq_getElem h]; exact List.getElem_mem h
theorem sure_more {F : Fld} {l m : List Rcd} (g : Good F m) (ha : agreeB F m = true) (hs : l.Sublist m) (parcel s : Int) :
 (sureLE F l parcel s).2.2 = (sureLE F m parcel s).2.2 ∧ ((sureLE F l parcel s).1 = (sureLE F l parcel s).2.1 ∨ ((sureLE F m parcel s).1 ≤ (sureLE F l parcel s).1 ∧ (sureLE F l parcel s).2.1 ≤ (sureLE F m parcel s).2.1)) := by
 have gl := good_sub g hs
 have al := agree_sub g gl (fun _ hr => hs.subset hr) ha
 have e : ∀ x, matchE F l x = matchE F m x := fun x => by
  unfold matchE
  rw [(check_iff F l).2 gl, (check_iff F m).2 g, al, ha]
 unfold sureLE
 rw [e]
 by_cases k : matchE F m (flagE (inR parcel 0 ((F.prs.length : Int) - 1) && staB F s)) ≠ 0
 ·rw [if_pos k, if_pos k]
  exact ⟨rfl, .inl rfl⟩
 rw [if_neg k, if_neg k]
 by_cases t : thereB (parAt F parcel.toNat) s = false
 ·rw [if_pos t, if_pos t]
  exact ⟨rfl, .inl rfl⟩
 rw [if_neg t, if_neg t]
 have c := flag_zero.1 (match_zero.1 (Classical.not_not.1 k)).2.1
 rw [Bool.and_eq_true] at c
 have hp : parcel.toNat < F.prs.length := by
  have := c.1
  unfold inR at this
  simp only [Bool.and_eq_true, decide_eq_true_eq] at this
  omega
 have lm := par_lims g.fld (par_mem hp)
 have a := ptS_bd lm.1 c.2
 have b := ptS_bd lm.2 c.2
 have n1 := more_narrow g gl (fun _ hr => hs.subset hr) ha (a := 0) (pt_le g.fld).1 a.2.1
 have n2 := more_narrow g gl (fun _ hr => hs.subset hr) ha b.2.1 (b := 0) (pt_le g.fld).1
 unfold sureE lowE highE
 dsimp only
 split
 ·split <;> exact ⟨rfl, .inl rfl⟩
 ·split
  ·exfalso; omega
  ·exact ⟨rfl, .inr ⟨by dsimp only; omega, by dsimp only; omega⟩⟩
theorem award_more {F : Fld} {l m : List Rcd} (g : Good F m) (ha : agreeB F m = true) (hs : l.Sublist m) (i s a b : Int) : (awardE F l i s a b).2 = (awardE F m i s a b).2 ∧ ((awardE F l i s a b).1 = 0 ∨ (awardE F m i s a b).1 = (awardE F l i s a b).1) := by
 have gl := good_sub g hs
 have al := agree_sub g gl (fun _ hr => hs.subset hr) ha
 have e : ∀ x, matchE F l x = matchE F m x := fun x => by
  unfold matchE
  rw [(check_iff F l).2 gl, (check_iff F m).2 g, al, ha]
 by_cases k : matchE F m (flagE (stripB F i s a b)) = 0
 ·rw [(award_of k).1, (award_of (l := l) (by rw [e]; exact k)).1]
  refine ⟨rfl, ?_⟩
  have c := flag_zero.1 (match_zero.1 k).2.1
  unfold stripB cornB at c
  simp only [Bool.and_eq_true, decide_eq_true_eq] at c
  have p := ptS_bd c.1.1 c.1.2
  have n1 := more_narrow g gl (fun _ hr => hs.subset hr) ha (a := 0) (pt_le g.fld).1 p.2.1
  have n2 := more_narrow g gl (fun _ hr => hs.subset hr) ha p.2.1 (b := 0) (pt_le g.fld).1
  have bd := ends_bd g ha p.1 p.2.1
  unfold lowE highE at bd
  unfold awardOf lowE highE
  dsimp only
  split
  ·right; rw [if_pos (by omega)]
  ·split
   ·right; rw [if_neg (by omega), if_pos (by omega)]
   ·exact .inl rfl
 ·unfold awardE
  rw [if_pos (by rw [e]; exact k), if_pos k, e]
  exact ⟨rfl, .inl rfl⟩
def movedB (F : Fld) (l m : List Rcd) (i k : Nat) : Bool := !(decide (lowE F l (ptS F i k) = lowE F m (ptS F i k)) && decide (highE F l (ptS F i k) = highE F m (ptS F i k)))
def movedL (F : Fld) (l m : List Rcd) : List (Int × Int) := (List.range F.lms.length).flatMap fun i => ((List.range F.sts.length).filter (movedB F l m i)).map fun k : Nat => ((i : Int), (k : Int))
def narrowsE (F : Fld) (l : List Rcd) (r : Rcd) : List (Int × Int) × Int := if matchE F (l ++ [r]) 0 ≠ 0 then ([], matchE F (l ++ [r]) 0) else (movedL F l (l ++ [r]), 0)
theorem moved_mem {F : Fld} {l m : List Rcd} {i k : Int} : (i, k) ∈ movedL F l m ↔ (limB F i = true ∧ staB F k = true) ∧ (lowE F l (ptS F i k) ≠ lowE F m (ptS F i k) ∨ highE F l (ptS F i k) ≠ highE F m (ptS F i k)) := by
 unfold movedL
 rw [List.mem_flatMap, limB_iff, staB_iff]
 constructor
 ·rintro ⟨a, ha, h⟩
  rw [List.mem_range] at ha
  obtain ⟨b, hb, e⟩ := List.mem_map.1 h
  rw [List.mem_filter, List.mem_range] at hb
  obtain ⟨rfl, rfl⟩ := Prod.mk.inj e
  refine ⟨by omega, ?_⟩
  have := hb.2
  unfold movedB at this
  rw [Bool.not_eq_true', Bool.and_eq_false_iff, decide_eq_false_iff_not, decide_eq_false_iff_not] at this
  exact this
 ·rintro ⟨⟨h1, h2⟩, h3⟩
  have e1 : ((i.toNat : Nat) : Int) = i := Int.toNat_of_nonneg h1.1
  have e2 : ((k.toNat : Nat) : Int) = k := Int.toNat_of_nonneg h2.1
  refine ⟨i.toNat, List.mem_range.2 (by omega), List.mem_map.2 ⟨k.toNat, List.mem_filter.2 ⟨List.mem_range.2 (by omega), ?_⟩, by rw [e1, e2]⟩⟩
  unfold movedB
  rw [e1, e2, Bool.not_eq_true', Bool.and_eq_false_iff, decide_eq_false_iff_not, decide_eq_false_iff_not]
  exact h3
theorem narrows_zero {F : Fld} {l : List Rcd} {r : Rcd} (h : (narrowsE F l r).2 = 0) : Good F (l ++ [r]) ∧ agreeB F (l ++ [r]) = true ∧ Good F l ∧ agreeB F l = true ∧ narrowsE F l r = (movedL F l (l ++ [r]), 0) := by
 unfold narrowsE at h ⊢
 by_cases k : matchE F (l ++ [r]) 0 ≠ 0
 ·rw [if_pos k] at h; exact absurd h k
 ·rw [if_neg k]
  have z := match_zero.1 (Classical.not_not.1 k)
  have hs : l.Sublist (l ++ [r]) := List.sublist_append_left ..
  have g := good_sub z.1 hs
  exact ⟨z.1, z.2.2, g, agree_sub z.1 g (fun _ hr => hs.subset hr) z.2.2, rfl⟩
theorem narrows_none {F : Fld} {l : List Rcd} {r : Rcd} (h : (narrowsE F l r).2 ≠ 0) : (narrowsE F l r).1 = [] := by
 unfold narrowsE at h ⊢
 by_cases k : matchE F (l ++ [r]) 0 ≠ 0
 ·rw [if_pos k]
 ·rw [if_neg k] at h; exact absurd rfl h
theorem narrows_exact {F : Fld} {l : List Rcd} {r : Rcd} (h : (narrowsE F l r).2 = 0) {i k : Int} (hi : limB F i = true) (hk : staB F k = true) :
 (i, k) ∈ (narrowsE F l r).1 ↔ (regionE F l i k).1 ≠ (regionE F (l ++ [r]) i k).1 ∨ (regionE F l i k).2.1 ≠ (regionE F (l ++ [r]) i k).2.1 := by
 obtain ⟨g, a, gl, al, e⟩ := narrows_zero h
 rw [e, region_of g a hi hk, region_of gl al hi hk, moved_mem]
 constructor
 ·exact fun q => q.2
 ·exact fun q => ⟨⟨hi, hk⟩, q⟩
end Go.Proofs.YtkhemfnlflbniaaGreatDoor
namespace Go.Proofs.YtkhemfnlflbniaaGreatDoor
open Go Go.RowKit Go.Shelf
theorem built_rcd (r : Rcd) : Tryz.prog.builtSlice 50 1 [(0, .agg r.vals)] = some r.vals := by kernel_rfl
theorem flat18_len (l : List Rcd) : (l.flatMap Rcd.cells).length = l.length * 18 := by
 induction l with
 | nil => rfl
 | cons a l ih => rw [List.flatMap_cons, List.length_append, ih, List.length_cons]; show 18 + _ = _; omega
theorem recs_news {w : World} {b off : Nat} {l : List Rcd} (h : ∀ i (_ : i < l.length) j, j < 18 → w.cell? ⟨b, off + i * 18 + j, none⟩ = (Rcd.cells l[i])[j]?) : ∀ j u, (l.flatMap Rcd.cells)[j]? = some u → w.cell? ((⟨b, off, none⟩ : Addr).add j) = some u := by
 intro j u hj
 rw [show ((⟨b, off, none⟩ : Addr).add j) = ⟨b, off + j, none⟩ from by unfold Addr.add; split <;> simp_all]
 have hlt : j < l.length * 18 := by
  have := (List.getElem?_eq_some_iff.1 hj).1
  rwa [flat18_len] at this
 have hi : j / 18 < l.length := by omega
 have hg := flat18 l (j / 18) hi (j % 18) (by omega)
 rw [show j / 18 * 18 + j % 18 = j by omega, hj] at hg
 have := h (j / 18) hi (j % 18) (by omega)
 rw [show off + j / 18 * 18 + j % 18 = off + j by omega, ← hg] at this
 exact this
theorem run_copy (W : World) (a : Option Addr) (c : Nat) (l : List Rcd) (h : RcdsAt W a l) (hl : l.length ≤ 100000) :
 ∃ v' wa, (Builtin.append_ #[28, 28] 28 #[.slice (some ⟨W.heap.size, 0, none⟩) 0 0, .slice a l.length c]).run Tryz.prog (W.alloc (.cells #[] 50)) = .ok v' wa ∧ wa.ownsRow W.heap.size 50 18 v' l.length (l.flatMap Rcd.cells) ∧ Below W.heap.size W wa := by
 obtain ⟨i0, hi, hz0, hz1, hz2⟩ := info_parts info50
 have hown : (W.alloc (.cells #[] 50)).ownsRow W.heap.size 50 18 (.slice (some ⟨W.heap.size, 0, none⟩) 0 0) 0 [] := ⟨rfl, .inr ⟨W.heap.size, 0, #[], rfl, Nat.le_refl _, heap_alloc_new _ _, Nat.le_refl _, Nat.zero_le _, rfl, rfl⟩⟩
 cases a with
 | none =>
   have e : l = [] := by
    rcases h with e | ⟨b, off, e, _⟩
    ·exact e
    ·cases e
   subst e
   refine ⟨_, _, ?_, hown, (Below.refl _ _).alloc (Nat.le_refl _) _⟩
   simp [Builtin.append_, run_underlying Tryz.underlying28, sizeOf, typeInfo, hi, Builtin.lenOf, Builtin.firstCells, storeCells]
 | some ad =>
   have hnews : ∀ j u, (l.flatMap Rcd.cells)[j]? = some u → (W.alloc (.cells #[] 50)).cell? (ad.add j) = some u := by
    rcases h.below ((Below.refl W.heap.size W).alloc (Nat.le_refl _) (.cells #[] 50)) (Nat.le_refl _) with e | ⟨b, off, e, _, hc⟩
    ·subst e; intro j u hj; simp at hj
    ·cases e; exact recs_news hc
   have hone : ∀ u ∈ l.flatMap Rcd.cells, u.oneCell' = true := fun u hu => by
    obtain ⟨r, _, h2⟩ := List.mem_flatMap.1 hu
    exact rcd_one r u h2
   obtain ⟨v', wa, hrun, hown', hgrow, -, -⟩ := run_append_own_at (P := Tryz.prog) (W.alloc (.cells #[] 50)) W.heap.size 28 28 50 i0 _ 18 152 Tryz.underlying28 hi hz0 hz1 hz2 rfl (by decide) _ _ _
    hown ad l.length c (l.flatMap Rcd.cells) (flat18_len l) hnews hone (by unfold maxLen; omega) (by omega) (by simp)
   rw [Nat.zero_add, List.nil_append] at hown'
   exact ⟨v', wa, hrun, hown', ((Below.refl W.heap.size W).alloc (Nat.le_refl _) _).grown hgrow (by simp) (fun q e => by simp only [Value.ownBlock, Option.some.injEq] at e; omega)⟩
set_option maxRecDepth 100000 in
set_option maxHeartbeats 400000 in
theorem cloneRcds_any (w : World) (a : Option Addr) (c : Nat) (l : List Rcd) (h : RcdsAt w a l) (hl : l.length ≤ 100000) :
 Calls Tryz.prog 94 #[.slice a l.length c] w fun e w' => (∃ v, e = .returned v ∧ w'.ownsRow w.heap.size 50 18 v l.length (l.flatMap Rcd.cells)) ∧ Below w.heap.size w w' := by
 have heq := fun W => Lib.run_eql_slice_nil (P := Tryz.prog) (w := W)
 obtain ⟨v', wa, hrun, hown, hbl⟩ := run_copy w a c l h hl
 have HRUN := hidE hrun
 have HOW := hidE hown
 have HBL := hidE hbl
 have hno : a = none → l = [] := fun e => by
  rcases h with q | ⟨b, off, q, _⟩
  ·exact q
  ·rw [e] at q; cases q
 clear hrun hown hbl h
 cases a with
 | none =>
   obtain rfl := hno rfl
   clear HRUN HOW HBL hno
   go_enter Tryz.func94, Tryz.ntmps94
   go_wp2_with fail
   go_ret
   exact ⟨⟨_, rfl, World.ownsRow_nil _ _ _ _⟩, Below.refl _ _⟩
 | some ad =>
   clear hno
   go_enter Tryz.func94, Tryz.ntmps94
   go_upto_region 3 with fail
   refine wp_region_lit ?_
   go_wp2_with (at_builtin; refine wpList_op_append rfl (s := .tmp 5) (x := .tmp 6) (t := 28) rfl rfl rfl HRUN.out ?_)
   go_ret
   exact ⟨⟨_, rfl, HOW.out⟩, HBL.out⟩
def movA (F : Fld) (l m : List Rcd) (i k : Nat) : List (Int × Int) := ((List.range i).flatMap fun i => ((List.range F.sts.length).filter (movedB F l m i)).map fun k : Nat => ((i : Int), (k : Int))) ++ ((List.range k).filter (movedB F l m i)).map fun k : Nat => ((i : Int), (k : Int))
theorem movA_succ (F : Fld) (l m : List Rcd) (i k : Nat) : movA F l m i (k + 1) = movA F l m i k ++ (if movedB F l m i k = true then [((i : Int), (k : Int))] else []) := by
 unfold movA
 rw [List.append_assoc, List.range_succ, List.filter_append, List.map_append]
 congr 2
 by_cases h : movedB F l m i k = true
 ·rw [if_pos h, List.filter_cons, if_pos h]; rfl
 ·rw [if_neg h, List.filter_cons, if_neg h]; rfl
theorem movA_row (F : Fld) (l m : List Rcd) (i : Nat) : movA F l m i F.sts.length = movA F l m (i + 1) 0 := by
 unfold movA
 rw [List.range_succ, List.flatMap_append]
 simp
theorem movA_all (F : Fld) (l m : List Rcd) : movA F l m F.lms.length 0 = movedL F l m := by unfold movA movedL; simp
theorem movA_len (F : Fld) (l m : List Rcd) (i k : Nat) : (movA F l m i k).length ≤ i * F.sts.length + k := by
 unfold movA
 rw [List.length_append, List.length_map, List.length_flatMap]
 have h1 : (List.filter (movedB F l m i) (List.range k)).length ≤ k := Nat.le_trans (List.length_filter_le _ _) (by rw [List.length_range]; exact Nat.le_refl _)
 have h2 : ∀ L : List Nat, (L.map fun i => (((List.range F.sts.length).filter (movedB F l m i)).map fun k : Nat => ((i : Int), (k : Int))).length).sum ≤ L.length * F.sts.length := by
  intro L
  induction L with
  | nil => simp
  | cons a L ih =>
    rw [List.map_cons, List.sum_cons, List.length_cons, Nat.succ_mul]
    have : (((List.range F.sts.length).filter (movedB F l m a)).map fun k : Nat => ((a : Int), (k : Int))).length ≤ F.sts.length := by
     rw [List.length_map]
     exact Nat.le_trans (List.length_filter_le _ _) (by rw [List.length_range]; exact Nat.le_refl _)
    omega
 have := h2 (List.range i)
 rw [List.length_range] at this
 omega
def cnC (p : Int × Int) : List Value := [.int .i64 p.1, .int .i64 p.2]
theorem info30 : (Tryz.prog.info? 30).map (fun i => (i.zero, i.size, i.bytes)) = some (some (.agg #[.int .i64 0, .int .i64 0]), 2, 16) := by kernel_rfl
section
variable {P : Program} {Q : Exit → Act → World → Prop}
theorem wp_op_appendO {K : Act → World → Prop} {o : Oper} {a : Act} {w w' : World} {s x : Operand} {t : TypeId} {vs vx v : Value}
 (hop : o.op = Op.call { callee := Callee.builtin Builtin.append, args := #[s, x], argTypes := #[t, t] }) (hs : a.eval s = vs) (hx : a.eval x = vx) (hrun : (Builtin.append_ #[t, t] o.type #[vs, vx]).run P w = .ok v w') (h : K (a.put o.dst v) w') : o.wp P a w K Q := by
 unfold Oper.wp
 rw [run_op_append hop hs hx hrun]
 exact h
theorem wp_buildSliceO {K : Act → World → Prop} {o : Oper} {a : Act} {w : World} (t e : TypeId) (len : Nat) (parts : Array (Nat × Operand)) (ho : o.op = .buildSlice t len parts) (hu : P.underlying t = some (.slice e)) (cells : Array Value)
 (hf : P.builtSlice e len (parts.map fun (i, x) => (i, a.eval x)).toList = some cells)
 (h : K (a.put o.dst (.slice (some ⟨w.heap.size, 0, none⟩) len len)) (w.alloc (.cells cells e))) : o.wp P a w K Q := by
 unfold Program.builtSlice at hf
 cases hie : P.info? e with
 | none => simp [hie] at hf
 | some ie =>
   simp only [hie] at hf
   cases hz : ie.zero with
   | none => simp [hz] at hf
   | some z =>
     simp only [hz] at hf
     by_cases hc : len * ie.size > 2 ^ 24 ∨ len * ie.size = 0
     ·simp [hc] at hf
     ·rw [if_neg hc] at hf
      exact wp_buildSlice t e len parts ho cells ie z hu hie hz (fun h' => hc (Or.inl h')) (fun h' => hc (Or.inr h')) hf h
end
def NarCut (w0 : World) (_x : FV) (F : Fld) (m : List Rcd) (err : Int) (p e : Value) (wx : World) : Prop :=
 Below w0.heap.size w0 wx ∧ e = .int .i64 err ∧ (err = 0 → ∃ b y, p = .pointer (some ⟨b, 0, none⟩) ∧ WAt wx b y F m)
set_option maxRecDepth 10000 in
set_option maxHeartbeats 8000000 in
theorem narrows_any (w : World) (x : FV) (F : Fld) (ar : Option Addr) (cr : Nat) (l : List Rcd) (q : Rcd) (h : FldAt w x F) (hr : RcdsAt w ar l) (hn : l.length ≤ 1000) (hk : ∀ r ∈ l, (0 ≤ r.call.kind ∧ r.call.kind ≤ 255) ∧ r.deed.size ≤ 9223372036854775807) (hq : (0 ≤ q.call.kind ∧ q.call.kind ≤ 255) ∧ q.deed.size ≤ 9223372036854775807) :
 Calls Tryz.prog 35 #[x.val F, .slice ar l.length cr, .agg q.vals] w fun e w' => (∃ v, e = .returned (.tuple #[v, .int .i64 (narrowsE F l q).2]) ∧ w'.ownsRow w.heap.size 30 2 v (narrowsE F l q).1.length ((narrowsE F l q).1.flatMap cnC)) ∧ Below w.heap.size w w' := by
 obtain ⟨w0, hw0⟩ : ∃ W, W = (w.alloc (.cells (x.arr F) 27)).alloc (.cells q.vals 50) := ⟨_, rfl⟩
 have B0 := hidE (show Below w.heap.size w w0 by rw [hw0]; exact ((Below.refl _ _).alloc (Nat.le_refl _) _).alloc (by simp) _)
 have X0 := hidE (show Kb [(w.heap.size + 1, .cells q.vals 50), (w.heap.size, .cells (x.arr F) 27)] w0 by
  rw [hw0]
  have := Kb.alloc (o := .cells q.vals 50) (Kb.alloc (W := w) (o := .cells (x.arr F) 27) (L := []) trivial)
  simpa using this)
 have HF := hidE (fun W (hb : Below w0.heap.size w0 W) => (h.below B0.out).below hb)
 have HRR := hidE (fun W (hb : Below w0.heap.size w0 W) => (hr.below B0.out (Nat.le_refl _)).below hb (Nat.le_refl _))
 have HCL := hidE (fun W (hb : Below w0.heap.size w0 W) => cloneRcds_any W ar cr l (HRR.out W hb) (by omega))
 have HAG := hidE (fun W (hb : Below w0.heap.size w0 W) a9 c9 (z : List Rcd) (hz : z.length ≤ 100000) (hk9 : ∀ r ∈ z, (0 ≤ r.call.kind ∧ r.call.kind ≤ 255) ∧ r.deed.size ≤ 9223372036854775807) (hr9 : RcdsAt W a9 z) =>
  agreed_any W x F a9 c9 z (HF.out W hb) hr9 hz hk9 95 #[] true (enters_of Tryz.func95 (by kernel_rfl) rfl) (fun hg W b o c hw hb => anything_any W _))
 rw [show flagE true = 0 from rfl] at HAG
 have HKM := hidE (show ∀ r ∈ l ++ [q], (0 ≤ r.call.kind ∧ r.call.kind ≤ 255) ∧ r.deed.size ≤ 9223372036854775807 from fun r hr => by
  rcases List.mem_append.1 hr with h | h
  ·exact hk r h
  ·rw [List.mem_singleton] at h; rw [h]; exact hq)
 have HKL := hidE hk
 have HLN := hidE hn
 have HNZ := hidE (fun (z : (narrowsE F l q).2 = 0) => narrows_zero z)
 have HNN := hidE (fun (z : (narrowsE F l q).2 ≠ 0) => narrows_none z)
 have HM1 := hidE (show (narrowsE F l q).2 = matchE F (l ++ [q]) 0 by unfold narrowsE; by_cases z : matchE F (l ++ [q]) 0 ≠ 0; (· rw [if_pos z]); (· rw [if_neg z]; exact (Classical.not_not.1 z).symm))
 obtain ⟨⟨NL, NE⟩, hNE⟩ : ∃ p, narrowsE F l q = p := ⟨_, rfl⟩
 rw [hNE] at HNZ HNN HM1 ⊢
 dsimp only at HNZ HNN HM1 ⊢
 have HML := hidE (show l.length + 1 = (l ++ [q]).length by simp)
 have HMC := hidE (show l.flatMap Rcd.cells ++ q.cells = (l ++ [q]).flatMap Rcd.cells by simp)
 obtain ⟨m, hm⟩ : ∃ m, l ++ [q] = m := ⟨_, rfl⟩
 rw [hm] at HKM HNZ HM1 HML HMC
 clear hm
 have k0 := rowc X0.out.2.1
 unfold FV.arr at k0
 clear h hr hn hk hq hNE
 unfold FV.val FV.arr
 go_enter Tryz.func35, Tryz.ntmps35
 go_upto_region 1 with fail
 rw [show (w.alloc (.cells #[.slice x.aS F.sts.length x.cS, .slice x.aL F.lms.length x.cL, .slice x.aP F.prs.length x.cP, .slice x.aV F.vrs.length x.cV] 27)).alloc (.cells q.vals 50) = w0 from hw0.symm]
 clear hw0
 go_cut [8, 9] (fun p e wx => Hid (NarCut w0 x F m NE p e wx))
 case first =>
  have hS0 : Below w0.heap.size w0 w0.drew := (Below.refl _ _).drew
  refine wp_region_F (S := Below w0.heap.size w0) (last := 100) (by kernel_rfl) ?_
  refine tF 0 20 (.agg #[.slice x.aS F.sts.length x.cS, .slice x.aL F.lms.length x.cL, .slice x.aP F.prs.length x.cP, .slice x.aV F.vrs.length x.cV]) rfl (by kernel_rfl) rfl (fun _ _ _ h => h) (fun V hV => ?_) hS0 ?_
  ·exact yload rfl rfl (blk_below hV (lt_of_block X0.out.2.1) X0.out.2.1) Tryz.underlying27 rfl (by kernel_rfl)
  try simp only [sA, sB, sC]
  refine tF 1 21 (.slice ar l.length cr) rfl (by kernel_rfl) rfl (fun _ _ _ h => h) (fun V hV => ?_) hS0 ?_
  ·simp [go_sem, execOp]
  try simp only [sA, sB, sC]
  refine tF 3 23 (.agg q.vals) rfl (by kernel_rfl) rfl (fun _ _ _ h => h) (fun V hV => ?_) hS0 ?_
  ·exact yload rfl rfl (blk_below hV (lt_of_block X0.out.1) X0.out.1) Tryz.underlying50 rfl (by kernel_rfl)
  try simp only [sA, sB, sC]
  refine wpAnyF_two 2 4 rfl rfl (by kernel_rfl) (fun K hK => ?_) (fun K hK => ?_)
  ·refine Eq.mpr (if_pos (by kernel_rfl)) ?_
   go_simp
   go_at_call 94
   refine (HCL.out _ hS0).mono ?_
   rintro e wc ⟨⟨v, rfl, ho⟩, hbc⟩
   have hSc : Below w0.heap.size w0 wc := hS0.trans (hbc.mono hS0.size)
   have HO := hidE (ho.mono (show w0.heap.size ≤ w0.drew.heap.size from hS0.size))
   clear ho hbc
   go_wp2_with fail
   refine hK.out _ _ (.inr hSc) ?_
   clear hK K
   try simp only [Act.put, sA, sB, sC]
   refine wpAnyF_step 4 rfl (by kernel_rfl) (fun K hK => ?_)
   refine Eq.mpr (if_pos (by kernel_rfl)) ?_
   refine wp_buildSliceO 28 50 1 _ rfl Tryz.underlying28 q.vals (by simp [Act.eval]; exact built_rcd q) ?_
   obtain ⟨wb, hwb⟩ : ∃ Z, Z = (wc).alloc (.cells q.vals 50) := ⟨_, rfl⟩
   rw [← hwb]
   have hbb : Below (wc).heap.size (wc) wb := by rw [hwb]; exact (Below.refl _ _).alloc (Nat.le_refl _) _
   have hSb : Below w0.heap.size w0 wb := hSc.trans (hbb.mono hSc.size)
   have HG := hidE (show wb.heap[(wc).heap.size]? = some (.cells q.vals 50 (0,0)) by rw [hwb]; exact heap_alloc_new _ _)
   obtain ⟨g, hg⟩ : ∃ g, (wc).heap.size = g := ⟨_, rfl⟩
   rw [hg] at HG ⊢
   have HO2 := hidE (show wb.ownsRow w0.heap.size 50 18 v l.length (l.flatMap Rcd.cells) by rw [hwb]; exact HO.out.alloc _)
   clear hwb hbb hg
   refine hK.out _ _ (.inr hSb) ?_
   clear hK K
   try simp only [Act.put, sA]
   obtain ⟨v5, w5, hrun, ho5, hb5, -⟩ := append_rec (w := wb) (base := w0.heap.size) (tE := 50) Tryz.underlying28 info50 rfl (by decide) (by decide) HO2.out (b := g) (news := q.cells) rfl HG.out (rcd_one q) (by have := HLN.out; omega) hSb.size 28
   have hS5 : Below w0.heap.size w0 w5 := hSb.trans hb5
   rw [HML.out, HMC.out] at ho5
   obtain ⟨a5, c5, rfl, hr5⟩ := rcds_owned ho5
   have HR5 := hidE hr5
   have HRUN := hidE hrun
   clear hrun ho5 hb5 hr5
   refine wpAnyF_step 5 rfl (by kernel_rfl) (fun K hK => ?_)
   refine Eq.mpr (if_pos (by kernel_rfl)) ?_
   refine wp_op_appendO (s := .tmp 22) (x := .tmp 24) (t := 28) rfl rfl rfl HRUN.out ?_
   refine hK.out _ _ (.inr hS5) ?_
   clear hK K HRUN
   try simp only [Act.put]
   have HA := hidE (HAG.out w5 hS5 a5 c5 m (by have := HLN.out; have := HML.out; omega) HKM.out HR5.out)
   unfold FV.val FV.arr at HA
   refine wpAnyF_step 6 rfl (by kernel_rfl) (fun K hK => ?_)
   refine Eq.mpr (if_pos (by kernel_rfl)) ?_
   go_simp
   go_at_call 73
   refine HA.out.mono ?_
   rintro e w6 ⟨hp, hb6⟩
   have hS6 : Below w0.heap.size w0 w6 := hS5.trans (hb6.mono hS5.size)
   obtain ⟨pv, rfl, hcut⟩ : ∃ pv, e = .returned (.tuple #[pv, .int .i64 NE]) ∧ NarCut w0 x F m NE pv (.int .i64 NE) w6 := by
    unfold AgreedPost at hp
    rw [← HM1.out] at hp
    by_cases z : NE = 0
    ·rw [if_pos z] at hp
     obtain ⟨b, o, c, e1, e2, -, -⟩ := hp
     exact ⟨_, by rw [e1, z], hS6, rfl, fun _ => ⟨b, _, rfl, e2⟩⟩
    ·rw [if_neg z] at hp
     obtain ⟨v, e1⟩ := hp
     exact ⟨v, e1, hS6, rfl, fun q => absurd q z⟩
   have HCUT := hidE hcut
   clear hp hb6 hcut HA
   go_wp2_with fail
   refine hK.out _ _ (.inr hS6) ?_
   clear hK K
   try simp only [Act.put, sA, sB, sC]
   refine tF 7 19 (.tuple #[pv, .int .i64 NE]) rfl (by kernel_rfl) rfl (fun _ _ _ h => h) (fun V hV => ?_) hS6 ?_
   ·simp [go_sem, execOp]
   try simp only [sA, sB, sC]
   refine tF 8 27 (pv) rfl (by kernel_rfl) rfl (fun _ _ _ h => h) (fun V hV => ?_) hS6 ?_
   ·simp [go_sem, execOp]
   try simp only [sA, sB, sC]
   refine tF 9 28 (.int .i64 NE) rfl (by kernel_rfl) rfl (fun _ _ _ h => h) (fun V hV => ?_) hS6 ?_
   ·simp [go_sem, execOp]
   try simp only [sA, sB, sC]
   refine tF 10 8 (pv) rfl (by kernel_rfl) rfl (fun _ _ _ h => h) (fun V hV => ?_) hS6 ?_
   ·simp [go_sem, execOp]
   try simp only [sA, sB, sC]
   refine tF 11 9 (.int .i64 NE) rfl (by kernel_rfl) rfl (fun _ _ _ h => h) (fun V hV => ?_) hS6 ?_
   ·simp [go_sem, execOp]
   try simp only [sA, sB, sC]
   refine wpAnyF_done (by kernel_rfl) ?_ _
   go_wp2_with fail
   go_meet
   exact hidE HCUT.out
  ·refine Eq.mpr (if_pos (by kernel_rfl)) ?_
   refine wp_buildSliceO 28 50 1 _ rfl Tryz.underlying28 q.vals (by simp [Act.eval]; exact built_rcd q) ?_
   obtain ⟨wb, hwb⟩ : ∃ Z, Z = (w0.drew).alloc (.cells q.vals 50) := ⟨_, rfl⟩
   rw [← hwb]
   have hbb : Below (w0.drew).heap.size (w0.drew) wb := by rw [hwb]; exact (Below.refl _ _).alloc (Nat.le_refl _) _
   have hSb : Below w0.heap.size w0 wb := hS0.trans (hbb.mono hS0.size)
   have HG := hidE (show wb.heap[(w0.drew).heap.size]? = some (.cells q.vals 50 (0,0)) by rw [hwb]; exact heap_alloc_new _ _)
   obtain ⟨g, hg⟩ : ∃ g, (w0.drew).heap.size = g := ⟨_, rfl⟩
   rw [hg] at HG ⊢
   clear hwb hbb hg
   refine hK.out _ _ (.inr hSb) ?_
   clear hK K
   try simp only [Act.put, sA]
   refine wpAnyF_step 2 rfl (by kernel_rfl) (fun K hK => ?_)
   refine Eq.mpr (if_pos (by kernel_rfl)) ?_
   go_simp
   go_at_call 94
   refine (HCL.out _ hSb).mono ?_
   rintro e wc ⟨⟨v, rfl, ho⟩, hbc⟩
   have hSc : Below w0.heap.size w0 wc := hSb.trans (hbc.mono hSb.size)
   have HO := hidE (ho.mono (show w0.heap.size ≤ wb.heap.size from hSb.size))
   have HG2 := hidE (blk_below hbc (lt_of_block HG.out) HG.out)
   clear HG
   have HG := HG2
   clear ho hbc
   go_wp2_with fail
   refine hK.out _ _ (.inr hSc) ?_
   clear hK K
   try simp only [Act.put, sA, sB, sC]
   obtain ⟨v5, w5, hrun, ho5, hb5, -⟩ := append_rec (w := wc) (base := w0.heap.size) (tE := 50) Tryz.underlying28 info50 rfl (by decide) (by decide) HO.out (b := g) (news := q.cells) rfl HG.out (rcd_one q) (by have := HLN.out; omega) hSc.size 28
   have hS5 : Below w0.heap.size w0 w5 := hSc.trans hb5
   rw [HML.out, HMC.out] at ho5
   obtain ⟨a5, c5, rfl, hr5⟩ := rcds_owned ho5
   have HR5 := hidE hr5
   have HRUN := hidE hrun
   clear hrun ho5 hb5 hr5
   refine wpAnyF_step 5 rfl (by kernel_rfl) (fun K hK => ?_)
   refine Eq.mpr (if_pos (by kernel_rfl)) ?_
   refine wp_op_appendO (s := .tmp 22) (x := .tmp 24) (t := 28) rfl rfl rfl HRUN.out ?_
   refine hK.out _ _ (.inr hS5) ?_
   clear hK K HRUN
   try simp only [Act.put, sA]
   have HA := hidE (HAG.out w5 hS5 a5 c5 m (by have := HLN.out; have := HML.out; omega) HKM.out HR5.out)
   unfold FV.val FV.arr at HA
   refine wpAnyF_step 6 rfl (by kernel_rfl) (fun K hK => ?_)
   refine Eq.mpr (if_pos (by kernel_rfl)) ?_
   go_simp
   go_at_call 73
   refine HA.out.mono ?_
   rintro e w6 ⟨hp, hb6⟩
   have hS6 : Below w0.heap.size w0 w6 := hS5.trans (hb6.mono hS5.size)
   obtain ⟨pv, rfl, hcut⟩ : ∃ pv, e = .returned (.tuple #[pv, .int .i64 NE]) ∧ NarCut w0 x F m NE pv (.int .i64 NE) w6 := by
    unfold AgreedPost at hp
    rw [← HM1.out] at hp
    by_cases z : NE = 0
    ·rw [if_pos z] at hp
     obtain ⟨b, o, c, e1, e2, -, -⟩ := hp
     exact ⟨_, by rw [e1, z], hS6, rfl, fun _ => ⟨b, _, rfl, e2⟩⟩
    ·rw [if_neg z] at hp
     obtain ⟨v, e1⟩ := hp
     exact ⟨v, e1, hS6, rfl, fun q => absurd q z⟩
   have HCUT := hidE hcut
   clear hp hb6 hcut HA
   go_wp2_with fail
   refine hK.out _ _ (.inr hS6) ?_
   clear hK K
   try simp only [Act.put, sA, sB, sC]
   refine tF 7 19 (.tuple #[pv, .int .i64 NE]) rfl (by kernel_rfl) rfl (fun _ _ _ h => h) (fun V hV => ?_) hS6 ?_
   ·simp [go_sem, execOp]
   try simp only [sA, sB, sC]
   refine tF 8 27 (pv) rfl (by kernel_rfl) rfl (fun _ _ _ h => h) (fun V hV => ?_) hS6 ?_
   ·simp [go_sem, execOp]
   try simp only [sA, sB, sC]
   refine tF 9 28 (.int .i64 NE) rfl (by kernel_rfl) rfl (fun _ _ _ h => h) (fun V hV => ?_) hS6 ?_
   ·simp [go_sem, execOp]
   try simp only [sA, sB, sC]
   refine tF 10 8 (pv) rfl (by kernel_rfl) rfl (fun _ _ _ h => h) (fun V hV => ?_) hS6 ?_
   ·simp [go_sem, execOp]
   try simp only [sA, sB, sC]
   refine tF 11 9 (.int .i64 NE) rfl (by kernel_rfl) rfl (fun _ _ _ h => h) (fun V hV => ?_) hS6 ?_
   ·simp [go_sem, execOp]
   try simp only [sA, sB, sC]
   refine wpAnyF_done (by kernel_rfl) ?_ _
   go_wp2_with fail
   go_meet
   exact hidE HCUT.out
 case rest =>
 obtain ⟨hcb, rfl, hpz⟩ := hcut.out
 obtain ⟨w1, rfl⟩ : ∃ z : World, z = wc := ⟨wc, rfl⟩
 have BB1 := hidE hcb
 have X1 := hidE (X0.out.next hcb)
 have HPZ := hidE hpz
 clear hcut hcb hpz X0 HCL
 by_cases h0 : NE = 0
 rotate_left
 ·have hzb : (NE != 0) = true := by simpa using h0
  have hnil := HNN.out h0
  subst hnil
  clear h0 k0 HPZ HNZ HNN HM1 HAG
  go_wp2_with fail
  refine bodyPost_ret (v := .tuple #[.slice none 0 0, .int .i64 NE]) (by simp [results, Tryz.results35, go_sem]) rfl ⟨⟨_, rfl, World.ownsRow_nil _ _ _ _⟩, B0.out.trans (BB1.out.mono B0.out.size)⟩
 subst h0
 obtain ⟨b8, y8, rfl, hw8⟩ := HPZ.out rfl
 obtain ⟨gm, am, gl, al, en⟩ := HNZ.out rfl
 have el : NL = movedL F l m := congrArg Prod.fst en
 subst el
 have HA := hidE (HAG.out w1 BB1.out ar cr l (by have := HLN.out; omega) HKL.out (HRR.out w1 BB1.out))
 rw [match_zero.2 ⟨gl, rfl, al⟩] at HA
 unfold AgreedPost at HA
 simp only [if_true] at HA
 unfold FV.val FV.arr at HA
 have HW8 := hidE hw8
 have HGM := hidE (And.intro gm am)
 have HGL := hidE (And.intro gl al)
 have pl := pt_le gl.fld
 have HFF := hidE (fld_facts gl.fld)
 have HPL := hidE pl
 have k0 := rowc X1.out.2.1
 unfold FV.arr at k0
 clear hw8 gm am gl al en pl HPZ HNZ HNN HM1 HAG HKL HRR
 go_wp2_with fail
 refine HA.out.mono ?_
 rintro e w2 ⟨⟨b10, o10, c10, rfl, hw10, -, -⟩, hb2⟩
 have BB2 := hidE (BB1.out.trans (hb2.mono BB1.out.size))
 have X2 := hidE (X1.out.next hb2)
 have W8 := hidE (HW8.out.next hb2)
 have W10 := hidE hw10
 clear hb2 hw10 HW8 X1 k0 HA
 have k0 := rowc X2.out.2.1
 unfold FV.arr at k0
 go_wp2_with fail
 go_loopw [11, 44] (fun v p wr => ∃ i : Nat, i ≤ F.lms.length ∧ p = .int .i64 (i : Int) ∧ Hid (wr.ownsRow w2.heap.size 30 2 v (movA F l m i 0).length ((movA F l m i 0).flatMap cnC)) ∧ Hid (Below w2.heap.size w2 wr)) (fun _ p _ => F.lms.length - (intOf p).toNat)
 case atStart => exact ⟨0, Nat.zero_le _, rfl, hidE (World.ownsRow_nil _ _ _ _), hidE (Below.refl _ _)⟩
 case round =>
  obtain ⟨i, hi, rfl, HO, HB⟩ := hrel
  obtain ⟨w3, rfl⟩ : ∃ z : World, z = wr := ⟨wr, rfl⟩
  by_cases hlt : i < F.lms.length
  rotate_left
  ·obtain rfl : i = F.lms.length := by omega
   have HO2 := hidE (show w3.ownsRow w2.heap.size 30 2 _ (movedL F l m).length ((movedL F l m).flatMap cnC) from (by have := HO.out; rw [movA_all] at this; exact this))
   go_wp2_with fail
   refine bodyPost_ret (by simp [results, Tryz.results35, go_sem]) rfl ⟨⟨_, rfl, HO2.out.mono (by have := B0.out.size; have := BB2.out.size; omega)⟩, B0.out.trans ((BB2.out.trans (HB.out.mono BB2.out.size)).mono B0.out.size)⟩
  have k0 := rowc (X2.out.next HB.out).2.1
  unfold FV.arr at k0
  have q0 : (i : Int) < (F.lms.length : Int) := by omega
  have HBI := hidE HB.out
  have HLI := hidE hlt
  clear HB
  go_wp2_with fail
  go_loopw [11, 50] (fun v p wr => ∃ k : Nat, k ≤ F.sts.length ∧ p = .int .i64 (k : Int) ∧ Hid (wr.ownsRow w2.heap.size 30 2 v (movA F l m i k).length ((movA F l m i k).flatMap cnC)) ∧ Hid (Below w2.heap.size w2 wr)) (fun _ p _ => F.sts.length - (intOf p).toNat)
  case atStart => exact ⟨0, Nat.zero_le _, rfl, HO, HBI⟩
  case round =>
   obtain ⟨k, hk, rfl, HO3, HB3⟩ := hrel
   obtain ⟨w4, rfl⟩ : ∃ z : World, z = wr := ⟨wr, rfl⟩
   by_cases hlk : k < F.sts.length
   rotate_left
   ·obtain rfl : k = F.sts.length := by omega
    have HO4 := hidE (show w4.ownsRow w2.heap.size 30 2 _ (movA F l m (i + 1) 0).length ((movA F l m (i + 1) 0).flatMap cnC) from (by have := HO3.out; rw [movA_row] at this; exact this))
    have hw1 : IntKind.i64.wrap ((i : Int) + 1) = (i : Int) + 1 := IntWalk.i64_in _ (by have := HFF.out.2.1; omega)
    go_wp2_with fail
    go_roundw
    case rel => exact ⟨i + 1, by omega, by go_num, HO4, HB3⟩
    case measure => simp [intOf]; omega
   have HLK := hidE hlk
   have hli : limB F (i : Int) = true := limB_iff.2 (by omega)
   have hsk : staB F (k : Int) = true := staB_iff.2 (by omega)
   have HG1 := hidE (fun W (hb : Below w2.heap.size w2 W) => regionW_any W b10 _ F l (i : Int) (k : Int) (W10.out.next hb) HGL.out.1 HGL.out.2 hli hsk)
   have HG2 := hidE (fun W (hb : Below w2.heap.size w2 W) => regionW_any W b8 _ F m (i : Int) (k : Int) (W8.out.next hb) HGM.out.1 HGM.out.2 hli hsk)
   have HMS := hidE (movA_succ F l m i k)
   have HML := hidE (show (movA F l m i k).length ≤ 1000 from by have := movA_len F l m i k; have := mul_len HGL.out.1.fld; have h1 := Nat.mul_le_mul_right F.sts.length (show i + 1 ≤ F.lms.length from HLI.out); rw [Nat.succ_mul] at h1; have := HLK.out; have := Nat.mul_comm F.lms.length F.sts.length; omega)
   obtain ⟨mb, hmb⟩ : ∃ b, movedB F l m i k = b := ⟨_, rfl⟩
   rw [hmb] at HMS
   unfold movedB at hmb
   obtain ⟨lo1, e1⟩ : ∃ v, lowE F l (ptS F i k) = v := ⟨_, rfl⟩
   obtain ⟨hi1, e2⟩ : ∃ v, highE F l (ptS F i k) = v := ⟨_, rfl⟩
   obtain ⟨lo2, e3⟩ : ∃ v, lowE F m (ptS F i k) = v := ⟨_, rfl⟩
   obtain ⟨hi2, e4⟩ : ∃ v, highE F m (ptS F i k) = v := ⟨_, rfl⟩
   rw [e1, e2] at HG1
   rw [e3, e4] at HG2
   rw [e1, e2, e3, e4] at hmb
   have HMB := hidE hmb
   have q1 : (k : Int) < (F.sts.length : Int) := by omega
   have HBK := hidE HB3.out
   clear e1 e2 e3 e4 hmb hli hsk HB3
   go_wp2_with fail
   obtain ⟨w5, hw5⟩ : ∃ Z, Z = w4.alloc (.cells #[.int .i64 (i : Int), .int .i64 (k : Int)] 30) := ⟨_, rfl⟩
   rw [← hw5]
   have hb5 : Below w4.heap.size w4 w5 := by rw [hw5]; exact (Below.refl _ _).alloc (Nat.le_refl _) _
   have hg5 : w5.heap[w4.heap.size]? = some (.cells #[.int .i64 (i : Int), .int .i64 (k : Int)] 30 (0,0)) := by rw [hw5]; exact heap_alloc_new _ _
   obtain ⟨g, hg⟩ : ∃ g, w4.heap.size = g := ⟨_, rfl⟩
   have HB5 := hidE (HBK.out.trans (hb5.mono HBK.out.size))
   have HS5 := hidE hb5
   rw [hg] at hg5 ⊢
   have HC5 := hidE hg5
   clear hw5 hb5 hg5 hg
   refine (HG1.out w5 HB5.out).mono ?_
   rintro e w6 ⟨rfl, hb6⟩
   have HB6 := hidE (HB5.out.trans (hb6.mono HB5.out.size))
   have HS6 := hidE (HS5.out.trans (hb6.mono HS5.out.size))
   have HC6 := hidE (blk_below hb6 (lt_of_block HC5.out) HC5.out)
   have kc := rowc HC6.out
   clear hb6 HC5 HS5 HG1
   go_wp2_with fail
   refine (HG2.out w6 HB6.out).mono ?_
   rintro e w7 ⟨rfl, hb7⟩
   have HB7 := hidE (HB6.out.trans (hb7.mono HB6.out.size))
   have HS7 := hidE (HS6.out.trans (hb7.mono HS6.out.size))
   have HC7 := hidE (blk_below hb7 (lt_of_block HC6.out) HC6.out)
   clear hb7 HC6 HS6 HG2 kc k0
   have kc := rowc HC7.out
   have HO7 := hidE (ownsRow_kept0 HO3.out HS7.out)
   have hw1 : IntKind.i64.wrap ((k : Int) + 1) = (k : Int) + 1 := IntWalk.i64_in _ (by have := HFF.out.1; omega)
   by_cases hc : lo1 = lo2 ∧ hi1 = hi2
   ·obtain ⟨rfl, rfl⟩ := hc
    have hmb := HMB.out
    have h2 : mb = false := by rw [← hmb]; simp
    subst h2
    have hms := HMS.out
    rw [if_neg (by simp), List.append_nil] at hms
    have HO8 := hidE (show w7.ownsRow w2.heap.size 30 2 _ (movA F l m i (k + 1)).length ((movA F l m i (k + 1)).flatMap cnC) from (by rw [hms]; exact HO7.out))
    clear hmb hms
    go_wp2_with fail
    go_roundw
    case rel => exact ⟨k + 1, by omega, by go_num, HO8, HB7⟩
    case measure => simp [intOf]; omega
   ·have hmb := HMB.out
    have h2 : mb = true := by
     rw [← hmb]
     by_cases a : lo1 = lo2
     ·by_cases b : hi1 = hi2
      ·exact absurd ⟨a, b⟩ hc
      ·simp [b]
     ·simp [a]
    subst h2
    have hms := HMS.out
    rw [if_pos rfl] at hms
    obtain ⟨v', w8, hrun, ho8, hb8, -⟩ := append_rec (w := w7.alloc (.cells (cnC ((i : Int), (k : Int))).toArray 30)) (base := w2.heap.size) (tS := 66) (tE := 30) Tryz.underlying66 info30 rfl (by decide) (by decide) (HO7.out.alloc _) (b := w7.heap.size) (news := cnC ((i : Int), (k : Int))) rfl (heap_alloc_new _ _) (by intro u hu; simp [cnC] at hu; rcases hu with rfl | rfl <;> rfl) (by have := HML.out; omega) (by have := HB7.out.size; simp; omega) 66
    have HO8 := hidE (show w8.ownsRow w2.heap.size 30 2 v' (movA F l m i (k + 1)).length ((movA F l m i (k + 1)).flatMap cnC) from (by rw [hms, List.length_append, List.flatMap_append]; simpa using ho8))
    have HB8 := hidE (HB7.out.trans (((Below.refl _ _).alloc HB7.out.size _).trans hb8))
    simp only [cnC] at hrun
    have HRUN := hidE hrun
    clear hmb hms hrun ho8 hb8
    by_cases a : lo1 = lo2
    ·have b : ¬ hi1 = hi2 := fun z => hc ⟨a, z⟩
     subst a
     have d2 : (hi1 != hi2) = true := by simpa using b
     clear hc b
     go_wp2_with (at_builtin; refine wpList_op_append rfl (s := .tmp 76) (x := .tmp 78) (t := 66) rfl rfl rfl HRUN.out ?_)
     go_roundw
     case rel => exact ⟨k + 1, by omega, by go_num, HO8, HB8⟩
     case measure => simp [intOf]; omega
    ·have d1 : (lo1 != lo2) = true := by simpa using a
     clear hc a
     go_wp2_with (at_builtin; refine wpList_op_append rfl (s := .tmp 76) (x := .tmp 78) (t := 66) rfl rfl rfl HRUN.out ?_)
     go_roundw
     case rel => exact ⟨k + 1, by omega, by go_num, HO8, HB8⟩
     case measure => simp [intOf]; omega
theorem run_copy2 {W : World} {B g : Nat} (hg : W.heap[g]? = some (.cells #[] 50 (0,0))) (hB : B ≤ g) (a : Option Addr) (c : Nat) (l : List Rcd) (h : RcdsAt W a l) (hl : l.length ≤ 100000) :
 ∃ v' wa, (Builtin.append_ #[28, 28] 28 #[.slice (some ⟨g, 0, none⟩) 0 0, .slice a l.length c]).run Tryz.prog W = .ok v' wa ∧ wa.ownsRow B 50 18 v' l.length (l.flatMap Rcd.cells) ∧ Below B W wa ∧ (∀ q, q < W.heap.size → g ≠ q → wa.heap[q]? = W.heap[q]?) := by
 obtain ⟨i0, hi, hz0, hz1, hz2⟩ := info_parts info50
 have hown : W.ownsRow B 50 18 (.slice (some ⟨g, 0, none⟩) 0 0) 0 [] := ⟨rfl, .inr ⟨g, 0, #[], rfl, hB, hg, Nat.le_refl _, Nat.zero_le _, rfl, rfl⟩⟩
 have hlt := lt_of_block hg
 cases a with
 | none =>
   have e : l = [] := by
    rcases h with e | ⟨b, off, e, _⟩
    ·exact e
    ·cases e
   subst e
   refine ⟨_, _, ?_, hown, Below.refl _ _, fun _ _ _ => rfl⟩
   simp [Builtin.append_, run_underlying Tryz.underlying28, sizeOf, typeInfo, hi, Builtin.lenOf, Builtin.firstCells, storeCells]
 | some ad =>
   have hnews : ∀ j u, (l.flatMap Rcd.cells)[j]? = some u → W.cell? (ad.add j) = some u := by
    rcases h with e | ⟨b, off, e, _, hc⟩
    ·subst e; intro j u hj; simp at hj
    ·cases e; exact recs_news hc
   have hone : ∀ u ∈ l.flatMap Rcd.cells, u.oneCell' = true := fun u hu => by
    obtain ⟨r, _, h2⟩ := List.mem_flatMap.1 hu
    exact rcd_one r u h2
   obtain ⟨v', wa, hrun, hown', hgrow, -, -⟩ := run_append_own_at (P := Tryz.prog) W B 28 28 50 i0 _ 18 152 Tryz.underlying28 hi hz0 hz1 hz2 rfl (by decide) _ _ _
    hown ad l.length c (l.flatMap Rcd.cells) (flat18_len l) hnews hone (by unfold maxLen; omega) (by omega) (by omega)
   rw [Nat.zero_add, List.nil_append] at hown'
   exact ⟨v', wa, hrun, hown', (Below.refl B W).grown hgrow (by omega) (fun q e => by simp only [Value.ownBlock, Option.some.injEq] at e; omega), fun q hq hne => hgrow.block q hq (fun e => hne (by simpa [Value.ownBlock] using e.symm))⟩
theorem flatC_get : ∀ (l : List (Int × Int)) (i : Nat) (hi : i < l.length) (j : Nat), j < 2 → (l.flatMap cnC)[i * 2 + j]? = (cnC l[i])[j]?
 | a :: l, 0, _, j, hj => by
   rw [List.flatMap_cons, List.getElem?_append_left (by simp [cnC]; omega)]
   simp
 | a :: l, i + 1, hi, j, hj => by
   rw [List.flatMap_cons, List.getElem?_append_right (by simp [cnC]; omega)]
   have := flatC_get l i (by simpa using hi) j hj
   rw [show (i + 1) * 2 + j - (cnC a).length = i * 2 + j by simp [cnC]; omega]
   simpa using this
theorem corns_owned {W : World} {B : Nat} {v : Value} {l : List (Int × Int)} (h : W.ownsRow B 30 2 v l.length (l.flatMap cnC)) : ∃ a c, v = .slice a l.length c ∧ RecsAt 2 cnC W a l := by
 obtain ⟨-, ⟨rfl, z⟩ | ⟨g, c, cur, rfl, -, hh, -, -, -, htk⟩⟩ := h
 ·have : l = [] := List.length_eq_zero_iff.1 z
  subst this
  exact ⟨none, 0, rfl, .inl rfl⟩
 ·refine ⟨_, c, rfl, .inr ⟨g, 0, rfl, lt_of_block hh, fun i hi j hj => ?_⟩⟩
  rw [cell_of_row _ _ _ _ _ _ hh, Nat.zero_add, ← flatC_get l i hi j hj, ← htk, List.getElem?_take_of_lt (by have := Nat.mul_le_mul_right 2 (show i + 1 ≤ l.length by omega); omega)]
  simp
section
variable {P : Program} {Q : Exit → Act → World → Prop}
theorem wp_op_appendD {K : Act → World → Prop} {o : Oper} {a : Act} {w w' : World} {s x : Operand} {t : TypeId} {vs vx v : Value} (d : Nat) (hd : o.dst = some d)
 (hop : o.op = Op.call { callee := Callee.builtin Builtin.append, args := #[s, x], argTypes := #[t, t] }) (hs : a.eval s = vs) (hx : a.eval x = vx) (hrun : (Builtin.append_ #[t, t] o.type #[vs, vx]).run P w = .ok v w') (h : K { a with tmps := a.tmps.setIfInBounds d v } w') : o.wp P a w K Q :=
 wp_op_appendO hop hs hx hrun (by rw [hd]; exact h)
theorem wp_buildSliceD {K : Act → World → Prop} {o : Oper} {a : Act} {w : World} (d : Nat) (hd : o.dst = some d) (t e : TypeId) (len : Nat) (parts : Array (Nat × Operand)) (ho : o.op = .buildSlice t len parts) (hu : P.underlying t = some (.slice e)) (cells : Array Value)
 (hf : P.builtSlice e len (parts.map fun (i, x) => (i, a.eval x)).toList = some cells)
 (h : K { a with tmps := a.tmps.setIfInBounds d (.slice (some ⟨w.heap.size, 0, none⟩) len len) } (w.alloc (.cells cells e))) : o.wp P a w K Q :=
 wp_buildSliceO t e len parts ho hu cells hf (by rw [hd]; exact h)
end
theorem ht30 : Tryz.prog.underlying 30 = some (.struct (Tryz.prog.fieldsOf 30)) := by kernel_rfl
theorem sh30 : Tryz.prog.stoodInHeld 30 = false := by kernel_rfl
theorem guard30 (op : BinOp) (x y : Operand) (xs ys : Array Value) (w : World) : (eqGuard op 30 x y (.agg xs) (.agg ys)).run Tryz.prog w = .ok () w := run_eqGuard_agg w op 30 x y xs ys (by kernel_rfl)
theorem eql30b (a b c e : Int) (w : World) : (binOp .eql 30 (.agg #[.int .i64 a, .int .i64 b]) (.agg #[.int .i64 c, .int .i64 e])).run Tryz.prog w = .ok (.bool (decide (a = c) && decide (b = e))) w := by
 rw [run_eql_struct, run_equalIn_agg w 9999 30 _ _ ht30 sh30]
 simp [Program.fieldsOf, Tryz.underlying30, Op.eqFields, go_sem, part]
 by_cases h1 : a = c <;> by_cases h2 : b = e <;> simp [h1, h2]
theorem corn_at {W : World} {a : Option Addr} {l : List (Int × Int)} (h : RecsAt 2 cnC W a l) {k : Nat} (hk : k < l.length) : ∃ b off, a = some ⟨b, off, none⟩ ∧ W.cell? ⟨b, off + k * 2, none⟩ = some (.int .i64 l[k].1) ∧ W.cell? ⟨b, off + k * 2 + 1, none⟩ = some (.int .i64 l[k].2) := by
 obtain ⟨b, off, e, _, hc⟩ := RecsAt.at h hk
 exact ⟨b, off, e, (hc 0 (by decide)).trans rfl, (hc 1 (by decide)).trans rfl⟩
theorem take_all {l : List (Int × Int)} {q : Int × Int} {cb : Bool} {n : Nat} (h : cb = (l.take n).contains q) (hn : l.length ≤ n) : cb = l.contains q := by rw [h, List.take_of_length_le hn]
theorem take_more {l : List (Int × Int)} {q : Int × Int} {cb : Bool} {k : Nat} (hk : k < l.length) (h : cb = (l.take k).contains q) : (cb || (decide (l[k].1 = q.1) && decide (l[k].2 = q.2))) = (l.take (k + 1)).contains q := by
 rw [List.take_succ_eq_append_getElem hk, h, Bool.eq_iff_iff]
 simp only [Bool.or_eq_true, Bool.and_eq_true, decide_eq_true_eq, List.contains_iff_mem, List.mem_append, List.mem_singleton]
 constructor
 ·rintro (z | ⟨z1, z2⟩)
  ·exact .inl z
  ·exact .inr (Prod.ext z1.symm z2.symm)
 ·rintro (z | z)
  ·exact .inl z
  ·exact .inr (by rw [z]; exact ⟨rfl, rfl⟩)
theorem narrows_len {F : Fld} {l : List Rcd} {q : Rcd} : (narrowsE F l q).1.length ≤ F.lms.length * F.sts.length := by
 by_cases h : (narrowsE F l q).2 = 0
 ·obtain ⟨_, _, _, _, e⟩ := narrows_zero h
  rw [e]
  have := movA_len F l (l ++ [q]) F.lms.length 0
  rw [movA_all] at this
  simpa using this
 ·rw [narrows_none h]
  exact Nat.zero_le _
theorem more_at {w3 : World} {args : Array Value} {R : Int × Int × Int} {a b : Int} (h : ∀ W, Below w3.heap.size w3 W → Calls Tryz.prog 24 args W fun e w' => e = .returned (.tuple #[.int .i64 R.1, .int .i64 R.2.1, .int .i64 R.2.2]) ∧ Below W.heap.size W w') (e : R = (a, b, 0)) : ∀ W, Below w3.heap.size w3 W → Calls Tryz.prog 24 args W fun e w' => e = .returned (.tuple #[.int .i64 a, .int .i64 b, .int .i64 0]) ∧ Below W.heap.size W w' := by
 subst e; exact h
theorem more_spec {F : Fld} {l : List Rcd} {q : Rcd} (h : (narrowsE F l q).2 = 0) :
 (Good F l ∧ Good F (l ++ [q])) ∧ (∀ i k : Int, limB F i = true → staB F k = true → ∃ a b c d, regionE F l i k = (a, b, 0) ∧ regionE F (l ++ [q]) i k = (c, d, 0) ∧ a ≤ c ∧ d ≤ b ∧ (narrowsE F l q).1.contains (i, k) = (c != a || d != b)) ∧
  (∀ i s j t, (widthE F l i s j t).2.2 = (widthE F (l ++ [q]) i s j t).2.2 ∧ ((widthE F l i s j t).2.2 = 0 → (widthE F l i s j t).1 ≤ (widthE F (l ++ [q]) i s j t).1 ∧ (widthE F (l ++ [q]) i s j t).2.1 ≤ (widthE F l i s j t).2.1)) ∧
  (∀ i s a b, (awardE F l i s a b).2 = (awardE F (l ++ [q]) i s a b).2 ∧ ((awardE F l i s a b).1 = 0 ∨ (awardE F (l ++ [q]) i s a b).1 = (awardE F l i s a b).1)) ∧
  (∀ p s, (sureLE F l p s).2.2 = (sureLE F (l ++ [q]) p s).2.2 ∧ ((sureLE F l p s).1 = (sureLE F l p s).2.1 ∨ ((sureLE F (l ++ [q]) p s).1 ≤ (sureLE F l p s).1 ∧ (sureLE F l p s).2.1 ≤ (sureLE F (l ++ [q]) p s).2.1))) := by
 obtain ⟨g, ha, gl, al, -⟩ := narrows_zero h
 have hs : l.Sublist (l ++ [q]) := List.sublist_append_left l [q]
 refine ⟨⟨gl, g⟩, fun i k hi hk => ?_, fun i s j t => ?_, fun i s a b => award_more g ha hs i s a b, fun p s => sure_more g ha hs p s⟩
 ·have n := narrows_law g ha hs (i := i) (s := k) (j := i) (t := k)
  have r1 := region_of gl al hi hk
  have r2 := region_of g ha hi hk
  have nx := narrows_exact h hi hk
  have n2 := n.2.1 (by rw [r1])
  rw [r1, r2] at n2 nx
  refine ⟨_, _, _, _, r1, r2, n2.1, n2.2, ?_⟩
  dsimp only at nx
  rw [Bool.eq_iff_iff, List.contains_iff_mem, nx, Bool.or_eq_true, bne_iff_ne, bne_iff_ne]
  exact ⟨fun z => z.imp (fun e => e ∘ Eq.symm) (fun e => e ∘ Eq.symm), fun z => z.imp (fun e => e ∘ Eq.symm) (fun e => e ∘ Eq.symm)⟩
 ·have n := narrows_law g ha hs (i := i) (s := s) (j := j) (t := t)
  exact ⟨n.2.2.1, n.2.2.2⟩
set_option maxRecDepth 10000 in
set_option maxHeartbeats 8000000 in
theorem limitsMore_any (w : World) (x : FV) (F : Fld) (ar : Option Addr) (cr : Nat) (l : List Rcd) (r0 : Rcd) (i s : Int) (j t : Int) (si ss sa sb : Int) (kk : Int) (h : FldAt w x F) (hr : RcdsAt w ar l) (hn : l.length ≤ 9223372036854775807) (hd : ∀ r ∈ l, r.deed.size ≤ 9223372036854775807) (hk : ∀ r ∈ l, 0 ≤ r.call.kind ∧ r.call.kind ≤ 255) (hq0 : r0.deed.size ≤ 9223372036854775807) (hq1 : 0 ≤ r0.call.kind ∧ r0.call.kind ≤ 255) :
 Calls Tryz.prog 8 #[x.val F, .slice ar l.length cr, .agg r0.vals, .agg #[.int .i64 i, .int .i64 s], .agg #[.int .i64 j, .int .i64 t], .agg #[.int .i64 si, .int .i64 ss, .int .i64 sa, .int .i64 sb], .int .i64 kk] w fun e w' => e = .returned (.bool true) ∧ Below w.heap.size w w' := by
 obtain ⟨w0, hw0⟩ : ∃ W, W = ((((w.alloc (.cells (x.arr F) 27)).alloc (.cells r0.vals 50)).alloc (.cells #[.int .i64 i, .int .i64 s] 30)).alloc (.cells #[.int .i64 j, .int .i64 t] 30)).alloc (.cells #[.int .i64 si, .int .i64 ss, .int .i64 sa, .int .i64 sb] 40) := ⟨_, rfl⟩
 have B0 := hidE (show Below w.heap.size w w0 by rw [hw0]; exact (((((Below.refl _ _).alloc (Nat.le_refl _) _).alloc (by simp) _).alloc (by simp; omega) _).alloc (by simp; omega) _).alloc (by simp; omega) _)
 have X0 := hidE (show Kb [(w.heap.size + 1 + 1 + 1 + 1, .cells #[.int .i64 si, .int .i64 ss, .int .i64 sa, .int .i64 sb] 40), (w.heap.size + 1 + 1 + 1, .cells #[.int .i64 j, .int .i64 t] 30), (w.heap.size + 1 + 1, .cells #[.int .i64 i, .int .i64 s] 30), (w.heap.size + 1, .cells r0.vals 50), (w.heap.size, .cells (x.arr F) 27)] w0 by
  rw [hw0]
  have := Kb.alloc (o := .cells #[.int .i64 si, .int .i64 ss, .int .i64 sa, .int .i64 sb] 40) (Kb.alloc (o := .cells #[.int .i64 j, .int .i64 t] 30) (Kb.alloc (o := .cells #[.int .i64 i, .int .i64 s] 30) (Kb.alloc (o := .cells r0.vals 50) (Kb.alloc (W := w) (o := .cells (x.arr F) 27) (L := []) trivial))))
  simpa using this)
 have HF := hidE (fun W (hb : Below w0.heap.size w0 W) => (h.below B0.out).below hb)
 have HRR := hidE (fun W (hb : Below w0.heap.size w0 W) => (hr.below B0.out (Nat.le_refl _)).below hb (Nat.le_refl _))
 have HSM := hidE (smallL_any w0 x F ar cr l (h.below B0.out) (hr.below B0.out (Nat.le_refl _)) hn hd)
 have HSV := hidE (fun W => surveyed_any W)
 have HRC := hidE (fun (q : smallB F l = true) => And.intro (small_facts q) (small_recs q hk))
 obtain ⟨sm, hsm⟩ : ∃ b, smallB F l = b := ⟨_, rfl⟩
 rw [hsm] at HSM HRC
 have HQ := hidE (And.intro hq1 hq0)
 have k0 := rowc X0.out.2.2.2.2.1
 have k2 := rowc X0.out.2.2.1
 have k3 := rowc X0.out.2.1
 have k4 := rowc X0.out.1
 unfold FV.arr at k0
 unfold FV.val FV.arr at HSM
 clear h hr hn hd hk hsm hq0 hq1
 go_enter Tryz.func8, Tryz.ntmps8
 go_upto_region 1 with fail
 try unfold FV.val FV.arr
 rw [show ((((w.alloc (.cells #[.slice x.aS F.sts.length x.cS, .slice x.aL F.lms.length x.cL, .slice x.aP F.prs.length x.cP, .slice x.aV F.vrs.length x.cV] 27)).alloc (.cells r0.vals 50)).alloc (.cells #[.int .i64 i, .int .i64 s] 30)).alloc (.cells #[.int .i64 j, .int .i64 t] 30)).alloc (.cells #[.int .i64 si, .int .i64 ss, .int .i64 sa, .int .i64 sb] 40) = w0 from hw0.symm]
 clear hw0
 go_wp2_with fail
 refine HSM.out.mono ?_
 rintro e w1 ⟨rfl, hb1⟩
 have BB1 := hidE hb1
 have X1 := hidE (X0.out.next hb1)
 clear hb1 k0 k2 k3 k4 HSM X0
 cases sm
 ·go_wp2_with fail
  refine (HSV.out _).mono ?_
  rintro e wz ⟨rfl, hbz⟩
  have BZ := hidE (B0.out.trans ((BB1.out.trans (hbz.mono BB1.out.size)).mono B0.out.size))
  clear hbz
  go_wp2_with fail
  go_ret
  exact ⟨rfl, BZ.out⟩
 obtain ⟨⟨⟨f1, f2, f3⟩, f4, f5⟩, hn5, hk5⟩ := HRC.out (by trivial)
 have hde : w1.cell? ⟨w.heap.size + 1, 2, none⟩ = some (.string r0.deed) := rowc X1.out.2.2.2.1 2
 by_cases hy2 : r0.deed.size ≤ 100
 rotate_left
 ·have dy : decide (100 < (r0.deed.size : Int)) = true := by simp; omega
  go_wp2_with fail
  refine (HSV.out _).mono ?_
  rintro e wz ⟨rfl, hbz⟩
  have BZ := hidE (B0.out.trans ((BB1.out.trans (hbz.mono BB1.out.size)).mono B0.out.size))
  clear hbz
  go_wp2_with fail
  go_ret
  exact ⟨rfl, BZ.out⟩
 have dy : decide (100 < (r0.deed.size : Int)) = false := by simp; omega
 have HNA := hidE (fun W (hb : Below w0.heap.size w0 W) => narrows_any W x F ar cr l r0 (HF.out W hb) (HRR.out W hb) (by omega) hk5 HQ.out)
 have HRL := hidE (fun W (hb : Below w0.heap.size w0 W) a9 c9 (z : List Rcd) (hz : z.length ≤ 100000) (hk9 : ∀ r ∈ z, (0 ≤ r.call.kind ∧ r.call.kind ≤ 255) ∧ r.deed.size ≤ 9223372036854775807) (hr9 : RcdsAt W a9 z) i k => regionL_any W x F a9 c9 z i k (HF.out W hb) hr9 hz hk9)
 have HWI := hidE (fun W (hb : Below w0.heap.size w0 W) a9 c9 (z : List Rcd) (hz : z.length ≤ 100000) (hk9 : ∀ r ∈ z, (0 ≤ r.call.kind ∧ r.call.kind ≤ 255) ∧ r.deed.size ≤ 9223372036854775807) (hr9 : RcdsAt W a9 z) => widthL_any W x F a9 c9 z i s j t (HF.out W hb) hr9 hz hk9)
 have HAW := hidE (fun W (hb : Below w0.heap.size w0 W) a9 c9 (z : List Rcd) (hz : z.length ≤ 100000) (hk9 : ∀ r ∈ z, (0 ≤ r.call.kind ∧ r.call.kind ≤ 255) ∧ r.deed.size ≤ 9223372036854775807) (hr9 : RcdsAt W a9 z) => awardL_any W x F a9 c9 z si ss sa sb (HF.out W hb) hr9 hz hk9)
 have HSU := hidE (fun W (hb : Below w0.heap.size w0 W) a9 c9 (z : List Rcd) (hz : z.length ≤ 100000) (hk9 : ∀ r ∈ z, (0 ≤ r.call.kind ∧ r.call.kind ≤ 255) ∧ r.deed.size ≤ 9223372036854775807) (hr9 : RcdsAt W a9 z) => sureL_any W x F a9 c9 z kk ss (HF.out W hb) hr9 hz hk9)
 have HKM := hidE (show ∀ r ∈ l ++ [r0], (0 ≤ r.call.kind ∧ r.call.kind ≤ 255) ∧ r.deed.size ≤ 9223372036854775807 from fun r hr => by
  rcases List.mem_append.1 hr with h | h
  ·exact hk5 r h
  ·rw [List.mem_singleton] at h; rw [h]; exact HQ.out)
 have HKL := hidE hk5
 have HRR2 := hidE HRR.out
 have HLN := hidE f4
 have HSL := hidE (And.intro f1 f2)
 have HNB0 := hidE (Nat.le_trans (narrows_len (F := F) (l := l) (q := r0)) (Nat.mul_le_mul (show F.lms.length ≤ 1000 by omega) (show F.sts.length ≤ 1000 by omega)))
 have HSP := hidE (fun (z : (narrowsE F l r0).2 = 0) => more_spec z)
 have HNN := hidE (fun (z : (narrowsE F l r0).2 ≠ 0) => narrows_none z)
 obtain ⟨⟨NL, NE⟩, hp⟩ : ∃ p, narrowsE F l r0 = p := ⟨_, rfl⟩
 rw [hp] at HNA HSP HNN HNB0
 dsimp only at HSP HNN
 have HML := hidE (show l.length + 1 = (l ++ [r0]).length by simp)
 have HMC := hidE (show l.flatMap Rcd.cells ++ r0.cells = (l ++ [r0]).flatMap Rcd.cells by simp)
 obtain ⟨m, hm⟩ : ∃ m, l ++ [r0] = m := ⟨_, rfl⟩
 rw [hm] at HKM HSP HML HMC
 obtain ⟨nn, hnn⟩ : ∃ n, NL.length = n := ⟨_, rfl⟩
 have HNL := hidE hnn
 have HNB := hidE (show nn ≤ 1000 * 1000 by rw [← hnn]; exact HNB0.out)
 clear HNB0
 clear hm hp hnn f1 f2 f3 f4 f5 hn5 hk5 HRC hy2
 have k0 := rowc X1.out.2.2.2.2.1
 have k2 := rowc X1.out.2.2.1
 have k3 := rowc X1.out.2.1
 have k4 := rowc X1.out.1
 unfold FV.arr at k0
 have HC := hidE (HNA.out w1 BB1.out)
 try unfold FV.val FV.arr at HC
 go_wp2_with (refine wpList_load_rowG rfl 50 _ rfl _ rfl (w.heap.size + 1) rfl 50 _ (0,0) _ X1.out.2.2.2.1 Tryz.underlying50 rfl (by kernel_rfl) ?_)
 refine HC.out.mono ?_
 rintro e w2 ⟨⟨v1, rfl, o1⟩, hb⟩
 have BB2 := hidE (BB1.out.trans (hb.mono BB1.out.size))
 have X2 := hidE (X1.out.next hb)
 obtain ⟨a3, c3, rfl, hi1⟩ := corns_owned o1
 have LA2 := hidE hi1
 simp only [HNL.out]
 clear hb k0 k2 k3 k4 HC BB1 X1 HNA o1 hi1 dy hde
 by_cases h0 : NE = 0
 rotate_left
 ·have hzb : (NE != 0) = true := by simpa using h0
  have hz3 : nn = 0 := by rw [← HNL.out, HNN.out h0]; rfl
  subst hz3
  clear h0 HSP HNN HRL HWI HAW HSU
  go_wp2_with fail
  refine (HSV.out _).mono ?_
  rintro e wz ⟨rfl, hbz⟩
  have BZ := hidE (B0.out.trans ((BB2.out.trans (hbz.mono BB2.out.size)).mono B0.out.size))
  clear hbz
  go_wp2_with fail
  go_ret
  exact ⟨rfl, BZ.out⟩
 subst h0
 obtain ⟨⟨gl, gm⟩, hsp1, hsp2, hsp3, hsp4⟩ := HSP.out (by trivial)
 have HGL := hidE gl
 have HS1 := hidE hsp1
 have HS2 := hidE (hsp2 i s j t)
 have HS3 := hidE (hsp3 si ss sa sb)
 have HS4 := hidE (hsp4 kk ss)
 clear gl gm hsp1 hsp2 hsp3 hsp4 HSP HNN
 go_upto_region 6 with fail
 go_cut [17] (fun p wx => Hid (∃ a c, p = .slice a m.length c ∧ RcdsAt wx a m ∧ Below w2.heap.size w2 wx))
 case first =>
  as_aux_lemma =>
  have LR2 := hidE (HRR2.out w2 BB2.out)
  refine wp_region_F (S := Below w2.heap.size w2) (last := 100) (by kernel_rfl) ?_
  obtain ⟨W0, hW0⟩ : ∃ W, W = w2.drew := ⟨_, rfl⟩
  have hS0 : Below w2.heap.size w2 W0 := by rw [hW0]; exact (Below.refl _ _).drew
  rw [← hW0]
  clear hW0
  refine tF 1 72 (.slice ar l.length cr) rfl (by kernel_rfl) rfl (fun _ _ _ h => h) (fun V hV => ?_) hS0 ?_
  ·simp [go_sem, execOp]
  try simp only [sA, sB, sC]
  refine tF 3 74 (.agg r0.vals) rfl (by kernel_rfl) rfl (fun _ _ _ h => h) (fun V hV => ?_) hS0 ?_
  ·exact yload rfl rfl (blk_below hV (lt_of_block X2.out.2.2.2.1) X2.out.2.2.2.1) Tryz.underlying50 rfl (by kernel_rfl)
  try simp only [sA, sB, sC]
  refine wpAnyF_two 0 4 rfl rfl (by kernel_rfl) (fun K hK => ?_) (fun K hK => ?_)
  ·refine Eq.mpr (if_pos (by kernel_rfl)) ?_
   go_simp
   obtain ⟨wa, hwa⟩ : ∃ Z, Z = (W0).alloc (.cells #[] 50) := ⟨_, rfl⟩
   rw [← hwa]
   have hba : Below (W0).heap.size (W0) wa := by rw [hwa]; exact (Below.refl _ _).alloc (Nat.le_refl _) _
   have hSa : Below w2.heap.size w2 wa := hS0.trans (hba.mono hS0.size)
   have HA := hidE (show wa.heap[(W0).heap.size]? = some (.cells #[] 50 (0,0)) by rw [hwa]; exact heap_alloc_new _ _)
   have HAG := hidE (show w2.heap.size ≤ (W0).heap.size from hS0.size)
   have HAS := hidE (show (W0).heap.size < wa.heap.size from lt_of_block HA.out)
   obtain ⟨ga, hga⟩ : ∃ g, (W0).heap.size = g := ⟨_, rfl⟩
   rw [hga] at HA HAG HAS ⊢
   clear hwa hba hga
   refine hK.out _ _ (.inr hSa) ?_
   clear hK K
   try simp only [Act.put, sA, sB, sC]
   refine wpAnyF_two 2 4 rfl rfl (by kernel_rfl) (fun K hK => ?_) (fun K hK => ?_)
   ·refine Eq.mpr (if_pos (by kernel_rfl)) ?_
    obtain ⟨v, wc, hrun, ho, hbc, hst⟩ := run_copy2 (B := w2.heap.size) HA.out HAG.out ar cr l (LR2.out.below hSa (Nat.le_refl _)) (by have := HLN.out; omega)
    have hSc : Below w2.heap.size w2 wc := hSa.trans hbc
    have HO := hidE ho
    have HRUN := hidE hrun
    clear hrun ho hbc hst
    refine wp_op_appendD 73 rfl (s := .tmp 71) (x := .tmp 72) (t := 28) rfl rfl rfl HRUN.out ?_
    refine hK.out _ _ (.inr hSc) ?_
    clear hK K HRUN
    try simp only [sA, sB, sC]
    refine wpAnyF_step 4 rfl (by kernel_rfl) (fun K hK => ?_)
    refine Eq.mpr (if_pos (by kernel_rfl)) ?_
    refine wp_buildSliceD 75 rfl 28 50 1 _ rfl Tryz.underlying28 r0.vals (by simp [Act.eval]; exact built_rcd r0) ?_
    obtain ⟨wb, hwb⟩ : ∃ Z, Z = (wc).alloc (.cells r0.vals 50) := ⟨_, rfl⟩
    rw [← hwb]
    have hbb : Below (wc).heap.size (wc) wb := by rw [hwb]; exact (Below.refl _ _).alloc (Nat.le_refl _) _
    have hSb : Below w2.heap.size w2 wb := hSc.trans (hbb.mono hSc.size)
    have HG := hidE (show wb.heap[(wc).heap.size]? = some (.cells r0.vals 50 (0,0)) by rw [hwb]; exact heap_alloc_new _ _)
    obtain ⟨g, hg⟩ : ∃ g, (wc).heap.size = g := ⟨_, rfl⟩
    have HO2 := hidE (show wb.ownsRow w2.heap.size 50 18 v l.length (l.flatMap Rcd.cells) by rw [hwb]; exact HO.out.alloc _)
    rw [hg] at HG ⊢
    clear hwb hbb hg
    refine hK.out _ _ (.inr hSb) ?_
    clear hK K
    try simp only [sA, sB, sC]
    obtain ⟨v5, w5, hrun, ho5, hb5, -⟩ := append_rec (w := wb) (base := w2.heap.size) (tE := 50) Tryz.underlying28 info50 rfl (by decide) (by decide) HO2.out (b := g) (news := r0.cells) rfl HG.out (rcd_one r0) (by have := HLN.out; omega) hSb.size 28
    have hS5 : Below w2.heap.size w2 w5 := hSb.trans hb5
    rw [HML.out, HMC.out] at ho5
    obtain ⟨a5, c5, rfl, hr5⟩ := rcds_owned ho5
    have HR5 := hidE hr5
    have HRUN := hidE hrun
    clear hrun ho5 hb5 hr5
    refine wpAnyF_step 5 rfl (by kernel_rfl) (fun K hK => ?_)
    refine Eq.mpr (if_pos (by kernel_rfl)) ?_
    refine wp_op_appendD 76 rfl (s := .tmp 73) (x := .tmp 75) (t := 28) rfl rfl rfl HRUN.out ?_
    refine hK.out _ _ (.inr hS5) ?_
    clear hK K HRUN
    try simp only [sA, sB, sC]
    refine tF 6 17 (.slice (a5) m.length c5) rfl (by kernel_rfl) rfl (fun _ _ _ h => h) (fun V hV => ?_) hS5 ?_
    ·simp [go_sem, execOp]
    try simp only [sA, sB, sC]
    refine wpAnyF_done (by kernel_rfl) ?_ _
    go_wp2_with fail
    go_meet
    exact hidE ⟨_, _, rfl, HR5.out, hS5⟩
   ·refine Eq.mpr (if_pos (by kernel_rfl)) ?_
    refine wp_buildSliceD 75 rfl 28 50 1 _ rfl Tryz.underlying28 r0.vals (by simp [Act.eval]; exact built_rcd r0) ?_
    obtain ⟨wb, hwb⟩ : ∃ Z, Z = (wa).alloc (.cells r0.vals 50) := ⟨_, rfl⟩
    rw [← hwb]
    have hbb : Below (wa).heap.size (wa) wb := by rw [hwb]; exact (Below.refl _ _).alloc (Nat.le_refl _) _
    have hSb : Below w2.heap.size w2 wb := hSa.trans (hbb.mono hSa.size)
    have HG := hidE (show wb.heap[(wa).heap.size]? = some (.cells r0.vals 50 (0,0)) by rw [hwb]; exact heap_alloc_new _ _)
    obtain ⟨g, hg⟩ : ∃ g, (wa).heap.size = g := ⟨_, rfl⟩
    have HA2 := hidE (blk_below hbb HAS.out HA.out)
    have HNE := hidE (show ga ≠ g by have := HAS.out; omega)
    clear HA
    have HA := HA2
    rw [hg] at HG ⊢
    clear hwb hbb hg
    refine hK.out _ _ (.inr hSb) ?_
    clear hK K
    try simp only [sA, sB, sC]
    refine wpAnyF_step 2 rfl (by kernel_rfl) (fun K hK => ?_)
    refine Eq.mpr (if_pos (by kernel_rfl)) ?_
    obtain ⟨v, wc, hrun, ho, hbc, hst⟩ := run_copy2 (B := w2.heap.size) HA.out HAG.out ar cr l (LR2.out.below hSb (Nat.le_refl _)) (by have := HLN.out; omega)
    have hSc : Below w2.heap.size w2 wc := hSb.trans hbc
    have HO := hidE ho
    have HRUN := hidE hrun
    have HG2 := hidE ((hst g (lt_of_block HG.out) HNE.out).trans HG.out)
    clear HG
    have HG := HG2
    clear hrun ho hbc hst
    refine wp_op_appendD 73 rfl (s := .tmp 71) (x := .tmp 72) (t := 28) rfl rfl rfl HRUN.out ?_
    refine hK.out _ _ (.inr hSc) ?_
    clear hK K HRUN
    try simp only [sA, sB, sC]
    obtain ⟨v5, w5, hrun, ho5, hb5, -⟩ := append_rec (w := wc) (base := w2.heap.size) (tE := 50) Tryz.underlying28 info50 rfl (by decide) (by decide) HO.out (b := g) (news := r0.cells) rfl HG.out (rcd_one r0) (by have := HLN.out; omega) hSc.size 28
    have hS5 : Below w2.heap.size w2 w5 := hSc.trans hb5
    rw [HML.out, HMC.out] at ho5
    obtain ⟨a5, c5, rfl, hr5⟩ := rcds_owned ho5
    have HR5 := hidE hr5
    have HRUN := hidE hrun
    clear hrun ho5 hb5 hr5
    refine wpAnyF_step 5 rfl (by kernel_rfl) (fun K hK => ?_)
    refine Eq.mpr (if_pos (by kernel_rfl)) ?_
    refine wp_op_appendD 76 rfl (s := .tmp 73) (x := .tmp 75) (t := 28) rfl rfl rfl HRUN.out ?_
    refine hK.out _ _ (.inr hS5) ?_
    clear hK K HRUN
    try simp only [sA, sB, sC]
    refine tF 6 17 (.slice (a5) m.length c5) rfl (by kernel_rfl) rfl (fun _ _ _ h => h) (fun V hV => ?_) hS5 ?_
    ·simp [go_sem, execOp]
    try simp only [sA, sB, sC]
    refine wpAnyF_done (by kernel_rfl) ?_ _
    go_wp2_with fail
    go_meet
    exact hidE ⟨_, _, rfl, HR5.out, hS5⟩
  ·refine Eq.mpr (if_pos (by kernel_rfl)) ?_
   refine wp_buildSliceD 75 rfl 28 50 1 _ rfl Tryz.underlying28 r0.vals (by simp [Act.eval]; exact built_rcd r0) ?_
   obtain ⟨wb, hwb⟩ : ∃ Z, Z = (W0).alloc (.cells r0.vals 50) := ⟨_, rfl⟩
   rw [← hwb]
   have hbb : Below (W0).heap.size (W0) wb := by rw [hwb]; exact (Below.refl _ _).alloc (Nat.le_refl _) _
   have hSb : Below w2.heap.size w2 wb := hS0.trans (hbb.mono hS0.size)
   have HG := hidE (show wb.heap[(W0).heap.size]? = some (.cells r0.vals 50 (0,0)) by rw [hwb]; exact heap_alloc_new _ _)
   obtain ⟨g, hg⟩ : ∃ g, (W0).heap.size = g := ⟨_, rfl⟩
   rw [hg] at HG ⊢
   clear hwb hbb hg
   refine hK.out _ _ (.inr hSb) ?_
   clear hK K
   try simp only [sA, sB, sC]
   refine wpAnyF_step 0 rfl (by kernel_rfl) (fun K hK => ?_)
   refine Eq.mpr (if_pos (by kernel_rfl)) ?_
   go_simp
   obtain ⟨wa, hwa⟩ : ∃ Z, Z = (wb).alloc (.cells #[] 50) := ⟨_, rfl⟩
   rw [← hwa]
   have hba : Below (wb).heap.size (wb) wa := by rw [hwa]; exact (Below.refl _ _).alloc (Nat.le_refl _) _
   have hSa : Below w2.heap.size w2 wa := hSb.trans (hba.mono hSb.size)
   have HA := hidE (show wa.heap[(wb).heap.size]? = some (.cells #[] 50 (0,0)) by rw [hwa]; exact heap_alloc_new _ _)
   have HAG := hidE (show w2.heap.size ≤ (wb).heap.size from hSb.size)
   have HG2 := hidE (blk_below hba (lt_of_block HG.out) HG.out)
   have HNE := hidE (show wb.heap.size ≠ g by have := lt_of_block HG.out; omega)
   clear HG
   have HG := HG2
   have HAS := hidE (show (wb).heap.size < wa.heap.size from lt_of_block HA.out)
   obtain ⟨ga, hga⟩ : ∃ g, (wb).heap.size = g := ⟨_, rfl⟩
   rw [hga] at HA HAG HAS ⊢
   rw [hga] at HNE
   clear hwa hba hga
   refine hK.out _ _ (.inr hSa) ?_
   clear hK K
   try simp only [Act.put, sA, sB, sC]
   refine wpAnyF_step 2 rfl (by kernel_rfl) (fun K hK => ?_)
   refine Eq.mpr (if_pos (by kernel_rfl)) ?_
   obtain ⟨v, wc, hrun, ho, hbc, hst⟩ := run_copy2 (B := w2.heap.size) HA.out HAG.out ar cr l (LR2.out.below hSa (Nat.le_refl _)) (by have := HLN.out; omega)
   have hSc : Below w2.heap.size w2 wc := hSa.trans hbc
   have HO := hidE ho
   have HRUN := hidE hrun
   have HG3 := hidE ((hst g (lt_of_block HG.out) HNE.out).trans HG.out)
   clear HG
   have HG := HG3
   clear hrun ho hbc hst
   refine wp_op_appendD 73 rfl (s := .tmp 71) (x := .tmp 72) (t := 28) rfl rfl rfl HRUN.out ?_
   refine hK.out _ _ (.inr hSc) ?_
   clear hK K HRUN
   try simp only [sA, sB, sC]
   obtain ⟨v5, w5, hrun, ho5, hb5, -⟩ := append_rec (w := wc) (base := w2.heap.size) (tE := 50) Tryz.underlying28 info50 rfl (by decide) (by decide) HO.out (b := g) (news := r0.cells) rfl HG.out (rcd_one r0) (by have := HLN.out; omega) hSc.size 28
   have hS5 : Below w2.heap.size w2 w5 := hSc.trans hb5
   rw [HML.out, HMC.out] at ho5
   obtain ⟨a5, c5, rfl, hr5⟩ := rcds_owned ho5
   have HR5 := hidE hr5
   have HRUN := hidE hrun
   clear hrun ho5 hb5 hr5
   refine wpAnyF_step 5 rfl (by kernel_rfl) (fun K hK => ?_)
   refine Eq.mpr (if_pos (by kernel_rfl)) ?_
   refine wp_op_appendD 76 rfl (s := .tmp 73) (x := .tmp 75) (t := 28) rfl rfl rfl HRUN.out ?_
   refine hK.out _ _ (.inr hS5) ?_
   clear hK K HRUN
   try simp only [sA, sB, sC]
   refine tF 6 17 (.slice (a5) m.length c5) rfl (by kernel_rfl) rfl (fun _ _ _ h => h) (fun V hV => ?_) hS5 ?_
   ·simp [go_sem, execOp]
   try simp only [sA, sB, sC]
   refine wpAnyF_done (by kernel_rfl) ?_ _
   go_wp2_with fail
   go_meet
   exact hidE ⟨_, _, rfl, HR5.out, hS5⟩
 case rest =>
 obtain ⟨a4, c4, rfl, hr4, hb4⟩ := hcut.out
 obtain ⟨w3, rfl⟩ : ∃ z : World, z = wc := ⟨wc, rfl⟩
 have BB3 := hidE (BB2.out.trans (hb4.mono BB2.out.size))
 have X3 := hidE (X2.out.next hb4)
 have LA3 := hidE (LA2.out.below hb4 (Nat.le_refl _))
 have LM3 := hidE hr4
 have HR1 := hidE (fun W (hb : Below w3.heap.size w3 W) i k => HRL.out W (BB3.out.trans (hb.mono BB3.out.size)) ar cr l (by have := HLN.out; omega) HKL.out (HRR2.out W (BB3.out.trans (hb.mono BB3.out.size))) i k)
 have HR2 := hidE (fun W (hb : Below w3.heap.size w3 W) i k => HRL.out W (BB3.out.trans (hb.mono BB3.out.size)) a4 c4 m (by have := HLN.out; have := HML.out; omega) HKM.out (LM3.out.below hb (Nat.le_refl _)) i k)
 obtain ⟨mn, hmn⟩ : ∃ n, m.length = n := ⟨_, rfl⟩
 rw [hmn] at HR2 ⊢
 have HMN := hidE hmn
 clear hcut hr4 hb4 hmn BB2 X2 LA2 HRL
 go_upto_block 0 with fail
 go_cut [] (fun wx => Hid (Below w3.heap.size w3 wx))
 case first =>
  as_aux_lemma =>
  clear HSV HWI HAW HSU HS2 HS3 HS4 HKM HKL HGL
  have k0 := rowc X3.out.2.2.2.2.1
  unfold FV.arr at k0
  go_wp2_with fail
  go_loopw [18] (fun p wr => ∃ i9 : Nat, i9 ≤ F.lms.length ∧ p = .int .i64 (i9 : Int) ∧ Hid (Below w3.heap.size w3 wr)) (fun p _ => F.lms.length - (intOf p).toNat)
  case atStart => exact ⟨0, Nat.zero_le _, rfl, hidE (Below.refl _ _)⟩
  case round =>
   obtain ⟨i9, hi9, rfl, HB⟩ := hrel
   obtain ⟨w4, rfl⟩ : ∃ z : World, z = wr := ⟨wr, rfl⟩
   clear k0
   have k0 := rowc (X3.out.next HB.out).2.2.2.2.1
   unfold FV.arr at k0
   by_cases hlt : i9 < F.lms.length
   rotate_left
   ·obtain rfl : i9 = F.lms.length := by omega
    go_wp2_with fail
    go_meet
    exact HB
   have q0 : (i9 : Int) < (F.lms.length : Int) := by omega
   have q0b : decide ((i9 : Int) < (F.lms.length : Int)) = true := by simpa using q0
   have hw9 : IntKind.i64.wrap ((i9 : Int) + 1) = (i9 : Int) + 1 := IntWalk.i64_in _ (by have := HSL.out.1; have := HSL.out.2; omega)
   have HLI := hidE hlt
   have HBI := hidE HB.out
   clear HB hlt
   go_wp2_with fail
   go_loopw [19] (fun p wr => ∃ k9 : Nat, k9 ≤ F.sts.length ∧ p = .int .i64 (k9 : Int) ∧ Hid (Below w3.heap.size w3 wr)) (fun p _ => F.sts.length - (intOf p).toNat)
   case atStart => exact ⟨0, Nat.zero_le _, rfl, HBI⟩
   case round =>
    obtain ⟨k9, hk9, rfl, HB3⟩ := hrel
    obtain ⟨w5, rfl⟩ : ∃ z : World, z = wr := ⟨wr, rfl⟩
    clear k0 HBI
    have k0 := rowc (X3.out.next HB3.out).2.2.2.2.1
    unfold FV.arr at k0
    by_cases hlk : k9 < F.sts.length
    rotate_left
    ·obtain rfl : k9 = F.sts.length := by omega
     go_wp2_with fail
     go_roundw
     case rel => exact ⟨i9 + 1, by omega, by go_num, HB3⟩
     case measure => simp [intOf]; omega
    have q1 : (k9 : Int) < (F.sts.length : Int) := by omega
    have q1b : decide ((k9 : Int) < (F.sts.length : Int)) = true := by simpa using q1
    have hwk9 : IntKind.i64.wrap ((k9 : Int) + 1) = (k9 : Int) + 1 := IntWalk.i64_in _ (by have := HSL.out.1; have := HSL.out.2; omega)
    have hla : limB F (i9 : Int) = true := limB_iff.2 (by omega)
    have hsa : staB F (k9 : Int) = true := staB_iff.2 (by omega)
    have hs1 := HS1.out (i9 : Int) (k9 : Int) hla hsa
    clear hla hsa
    obtain ⟨ea, eb, ec, ed, e1, e2, e3, e4, e5⟩ := hs1
    have HE1 : Hid (∀ W, Below w3.heap.size w3 W → Calls Tryz.prog 24 #[x.val F, .slice ar l.length cr, .agg #[.int .i64 (i9 : Int), .int .i64 (k9 : Int)]] W fun e w' => e = .returned (.tuple #[.int .i64 ea, .int .i64 eb, .int .i64 0]) ∧ Below W.heap.size W w') := hidE (more_at (fun W hb => HR1.out W hb (i9 : Int) (k9 : Int)) e1)
    have HE2 : Hid (∀ W, Below w3.heap.size w3 W → Calls Tryz.prog 24 #[x.val F, .slice a4 mn c4, .agg #[.int .i64 (i9 : Int), .int .i64 (k9 : Int)]] W fun e w' => e = .returned (.tuple #[.int .i64 ec, .int .i64 ed, .int .i64 0]) ∧ Below W.heap.size W w') := hidE (more_at (fun W hb => HR2.out W hb (i9 : Int) (k9 : Int)) e2)
    have HE5 := hidE e5
    have HBK := hidE HB3.out
    have HLK := hidE hlk
    have hx3 : ¬ ec < ea := by omega
    have hx4 : ¬ eb < ed := by omega
    clear e1 e2 e3 e4 e5 HB3 hlk
    unfold FV.val FV.arr at HE1 HE2
    go_upto_region 14 with fail
    refine wp_nm ?_
    intro w6 hW6
    have hb6 : Below w5.heap.size w5 w6 := by rw [hW6]; exact (Below.refl _ _).alloc (Nat.le_refl _) _
    have XC6 := hidE (show w6.heap[w5.heap.size]? = some (.cells #[.int .i64 (i9 : Int), .int .i64 (k9 : Int)] 30 (0,0)) by rw [hW6]; exact heap_alloc_new _ _)
    have B6 := hidE (HBK.out.trans (hb6.mono HBK.out.size))
    obtain ⟨G, hG9⟩ : ∃ G, w5.heap.size = G := ⟨_, rfl⟩
    rw [hG9] at XC6 ⊢
    clear hW6 hb6 k0 hG9
    have k0 := rowc (X3.out.next B6.out).2.2.2.2.1
    have kg := rowc XC6.out
    unfold FV.arr at k0
    go_wp2_with fail
    refine (HE1.out w6 B6.out).mono ?_
    rintro e w7 ⟨rfl, hb7⟩
    have B7 := hidE (B6.out.trans (hb7.mono B6.out.size))
    have XC7 := hidE (blk_below hb7 (lt_of_block XC6.out) XC6.out)
    clear hb7 k0 kg B6 XC6 HE1
    have k0 := rowc (X3.out.next B7.out).2.2.2.2.1
    have kg := rowc XC7.out
    unfold FV.arr at k0
    go_wp2_with fail
    refine (HE2.out w7 B7.out).mono ?_
    rintro e w8 ⟨rfl, hb8⟩
    have B8 := hidE (B7.out.trans (hb8.mono B7.out.size))
    have XC8 := hidE (blk_below hb8 (lt_of_block XC7.out) XC7.out)
    clear hb8 k0 kg B7 XC7 HE2
    go_upto_block 4 with fail
    go_cut [27] (fun c wx => c = .bool (NL.contains ((i9 : Int), (k9 : Int))) ∧ Hid (Below w8.heap.size w8 wx))
    case first =>
     have LA8 := hidE (LA3.out.below B8.out (Nat.le_refl _))
     have HQN := hidE (HNL.out)
     clear B8 HE5 LA3
     go_wp2_with fail
     go_loopw [27, 28] (fun c p wr => ∃ (j : Nat) (cb : Bool), j ≤ nn ∧ p = .int .i64 (j : Int) ∧ c = .bool cb ∧ Hid (cb = (NL.take j).contains ((i9 : Int), (k9 : Int))) ∧ Hid (Below w8.heap.size w8 wr)) (fun _ p _ => nn - (intOf p).toNat)
     case atStart => exact ⟨0, false, Nat.zero_le _, rfl, rfl, hidE (by simp), hidE (Below.refl _ _)⟩
     case round =>
      obtain ⟨j9, cb, hj, rfl, rfl, HCB, HBj⟩ := hrel
      obtain ⟨w10, rfl⟩ : ∃ z : World, z = wr := ⟨wr, rfl⟩
      by_cases hlj : j9 < nn
      rotate_left
      ·obtain rfl : j9 = nn := by omega
       have hfin : cb = NL.contains ((i9 : Int), (k9 : Int)) := take_all HCB.out (Nat.le_of_eq HQN.out)
       have HFN := hidE hfin
       clear hfin
       go_wp2_with fail
       go_meet
       exact ⟨by rw [HFN.out], HBj⟩
      have hjN : j9 < NL.length := by rw [HQN.out]; exact hlj
      have tq := corn_at (LA8.out.below HBj.out (Nat.le_refl _)) hjN
      have HTS := hidE (take_more (q := ((i9 : Int), (k9 : Int))) hjN HCB.out)
      obtain ⟨⟨y1, y2⟩, hy⟩ : ∃ y, NL[j9] = y := ⟨_, rfl⟩
      rw [hy] at tq HTS
      dsimp only at tq HTS
      obtain ⟨rb, ro, e1, c0, c1⟩ := tq
      subst e1
      have XE := fun (W : World) => eql30b y1 y2 (i9 : Int) (k9 : Int) W
      have XG := fun (op : BinOp) (x y : Operand) (xs ys : Array Value) (W : World) => guard30 op x y xs ys W
      obtain ⟨qb, hqb⟩ : ∃ q, (decide (y1 = (i9 : Int)) && decide (y2 = (k9 : Int))) = q := ⟨_, rfl⟩
      rw [hqb] at XE HTS
      have kg := rowc (blk_below HBj.out (lt_of_block XC8.out) XC8.out)
      have hwj : IntKind.i64.wrap ((j9 : Int) + 1) = (j9 : Int) + 1 := IntWalk.i64_in _ (by have := HNB.out; omega)
      have hjb : (j9 : Int) < (nn : Int) := by omega
      have hj0 : (0 : Int) ≤ (j9 : Int) := by omega
      have HBJ := HBj
      clear hy hqb HCB hjN HBj
      cases cb
      ·go_wp2_with fail
       go_quiet (fail)
       go_wp2_with fail
       go_roundw
       case rel => exact ⟨j9 + 1, qb, by omega, by go_num, rfl, hidE (by rw [← HTS.out]; rfl), hidE (HBJ.out.trans ((below_drewN' _ _).mono HBJ.out.size))⟩
       case measure => simp [intOf]; omega
      ·go_wp2_with fail
       go_quiet (fail)
       go_wp2_with fail
       go_roundw
       case rel => exact ⟨j9 + 1, true, by omega, by go_num, rfl, hidE (by rw [← HTS.out]; rfl), hidE (HBJ.out.trans ((below_drewN' _ _).mono HBJ.out.size))⟩
       case measure => simp [intOf]; omega
    case rest =>
    obtain ⟨rfl, HB9⟩ := hcut
    obtain ⟨w9, rfl⟩ : ∃ z : World, z = wc := ⟨wc, rfl⟩
    have B9 := hidE (B8.out.trans (HB9.out.mono B8.out.size))
    rw [HE5.out]
    obtain ⟨p1, hp1⟩ : ∃ b, (ec != ea) = b := ⟨_, rfl⟩
    obtain ⟨p2, hp2⟩ : ∃ b, (ed != eb) = b := ⟨_, rfl⟩
    rw [hp1, hp2]
    clear HE5 HB9 B8 XC8
    cases p1
    ·cases p2
     ·go_wp2_with fail
      go_roundw
      case rel => exact ⟨k9 + 1, HLK.out, by go_num, B9⟩
      case measure => have := HLK.out; simp [intOf]; omega
     ·go_wp2_with fail
      go_roundw
      case rel => exact ⟨k9 + 1, HLK.out, by go_num, B9⟩
      case measure => have := HLK.out; simp [intOf]; omega
    ·go_wp2_with fail
     go_roundw
     case rel => exact ⟨k9 + 1, HLK.out, by go_num, B9⟩
     case measure => have := HLK.out; simp [intOf]; omega
 case rest =>
 obtain ⟨w4, rfl⟩ : ∃ z : World, z = wc := ⟨wc, rfl⟩
 have BB4 := hidE (BB3.out.trans (hcut.out.mono BB3.out.size))
 have X4 := hidE (X3.out.next hcut.out)
 have LM4 := hidE (LM3.out.below hcut.out (Nat.le_refl _))
 have HM1 := hidE (show m.length ≤ 100000 by have := HLN.out; have := HML.out; omega)
 have HW1 := hidE (fun W hb => HWI.out W hb ar cr l (by have := HLN.out; omega) HKL.out (HRR.out W hb))
 have HW2 := hidE (fun W hb a9 c9 hr9 => HWI.out W hb a9 c9 m HM1.out HKM.out hr9)
 have HA1 := hidE (fun W hb => HAW.out W hb ar cr l (by have := HLN.out; omega) HKL.out (HRR.out W hb))
 have HA2 := hidE (fun W hb a9 c9 hr9 => HAW.out W hb a9 c9 m HM1.out HKM.out hr9)
 have HU1 := hidE (fun W hb => HSU.out W hb ar cr l (by have := HLN.out; omega) HKL.out (HRR.out W hb))
 have HU2 := hidE (fun W hb a9 c9 hr9 => HSU.out W hb a9 c9 m HM1.out HKM.out hr9)
 rw [HMN.out] at HW2 HA2 HU2
 obtain ⟨⟨r1, r2, r3⟩, hr⟩ : ∃ q, widthE F l i s j t = q := ⟨_, rfl⟩
 obtain ⟨⟨r4, r5, r6⟩, hr'⟩ : ∃ q, widthE F m i s j t = q := ⟨_, rfl⟩
 obtain ⟨⟨z1, z2⟩, hz⟩ : ∃ q, awardE F l si ss sa sb = q := ⟨_, rfl⟩
 obtain ⟨⟨z3, z4⟩, hz'⟩ : ∃ q, awardE F m si ss sa sb = q := ⟨_, rfl⟩
 obtain ⟨⟨y1, y2, y3⟩, hy⟩ : ∃ q, sureLE F l kk ss = q := ⟨_, rfl⟩
 obtain ⟨⟨y4, y5, y6⟩, hy'⟩ : ∃ q, sureLE F m kk ss = q := ⟨_, rfl⟩
 rw [hr] at HW1 HS2
 rw [hr'] at HW2 HS2
 rw [hz] at HA1 HS3
 rw [hz'] at HA2 HS3
 rw [hy] at HU1 HS4
 rw [hy'] at HU2 HS4
 dsimp only at HW1 HW2 HA1 HA2 HU1 HU2 HS2 HS3 HS4
 obtain ⟨d1, d2⟩ := HS2.out
 obtain ⟨d3, d4⟩ := HS3.out
 obtain ⟨d5, d6⟩ := HS4.out
 clear HS2 HS3 HS4
 subst d1 d3 d5
 have HD2 := hidE d2
 have HD4 := hidE d4
 have HD6 := hidE d6
 clear hr hr' hz hz' hy hy' d2 d4 d6 HWI HAW HSU HS1 HR1 HR2 HM1 HKM HKL HGL HML HNB HNL HSL BB3 X3 LM3 LA3 hcut
 have k0 := rowc X4.out.2.2.2.2.1
 have k2 := rowc X4.out.2.2.1
 have k3 := rowc X4.out.2.1
 have k4 := rowc X4.out.1
 unfold FV.arr at k0
 have HC := hidE (HW1.out w4 BB4.out)
 try unfold FV.val FV.arr at HC
 go_wp2_with fail
 refine HC.out.mono ?_
 rintro e w5 ⟨rfl, hb⟩
 have BB5 := hidE (BB4.out.trans (hb.mono BB4.out.size))
 have X5 := hidE (X4.out.next hb)
 have LM5 := hidE (LM4.out.below hb (Nat.le_refl _))
 clear hb k0 k2 k3 k4 HC BB4 X4 LM4 HW1
 have k0 := rowc X5.out.2.2.2.2.1
 have k2 := rowc X5.out.2.2.1
 have k3 := rowc X5.out.2.1
 have k4 := rowc X5.out.1
 unfold FV.arr at k0
 have HC := hidE (HW2.out w5 BB5.out _ c4 LM5.out)
 try unfold FV.val FV.arr at HC
 go_wp2_with fail
 refine HC.out.mono ?_
 rintro e w6 ⟨rfl, hb⟩
 have BB6 := hidE (BB5.out.trans (hb.mono BB5.out.size))
 have X6 := hidE (X5.out.next hb)
 have LM6 := hidE (LM5.out.below hb (Nat.le_refl _))
 clear hb k0 k2 k3 k4 HC BB5 X5 LM5 HW2
 have k0 := rowc X6.out.2.2.2.2.1
 have k2 := rowc X6.out.2.2.1
 have k3 := rowc X6.out.2.1
 have k4 := rowc X6.out.1
 unfold FV.arr at k0
 go_upto_region 25 with fail
 go_cut [187] (fun v wx => v = .bool false ∧ Hid (Below w6.heap.size w6 wx))
 case first =>
  as_aux_lemma =>
  clear k0 k2 k3 k4 BB6 X6 LM6
  by_cases hz9 : r3 = 0
  ·subst hz9
   have hd1 := (HD2.out (by trivial)).1
   have hd2 := (HD2.out (by trivial)).2
   have hx1 : decide (r4 < r1) = false := by simp; omega
   have hx2 : decide (r2 < r5) = false := by simp; omega
   clear HD2 hd1 hd2
   go_wp2_with fail
   go_meet
   exact ⟨rfl, hidE (Below.refl _ _)⟩
  ·have hx0 : (r3 == 0) = false := by simpa using hz9
   clear hz9 HD2
   go_wp2_with fail
   go_meet
   exact ⟨rfl, hidE (Below.refl _ _)⟩
 case rest =>
 obtain ⟨rfl, hcb⟩ := hcut
 obtain ⟨w7, rfl⟩ : ∃ z : World, z = wc := ⟨wc, rfl⟩
 have BB7 := hidE (BB6.out.trans (hcb.out.mono BB6.out.size))
 have X7 := hidE (X6.out.next hcb.out)
 have LM7 := hidE (LM6.out.below hcb.out (Nat.le_refl _))
 clear hcb k0 k2 k3 k4 BB6 X6 LM6
 have k0 := rowc X7.out.2.2.2.2.1
 have k2 := rowc X7.out.2.2.1
 have k3 := rowc X7.out.2.1
 have k4 := rowc X7.out.1
 unfold FV.arr at k0
 have HC := hidE (HA1.out w7 BB7.out)
 try unfold FV.val FV.arr at HC
 go_wp2_with fail
 refine HC.out.mono ?_
 rintro e w8 ⟨rfl, hb⟩
 have BB8 := hidE (BB7.out.trans (hb.mono BB7.out.size))
 have X8 := hidE (X7.out.next hb)
 have LM8 := hidE (LM7.out.below hb (Nat.le_refl _))
 clear hb k0 k2 k3 k4 HC BB7 X7 LM7 HA1 HD2
 have k0 := rowc X8.out.2.2.2.2.1
 have k2 := rowc X8.out.2.2.1
 have k3 := rowc X8.out.2.1
 have k4 := rowc X8.out.1
 unfold FV.arr at k0
 have HC := hidE (HA2.out w8 BB8.out _ c4 LM8.out)
 try unfold FV.val FV.arr at HC
 go_wp2_with fail
 refine HC.out.mono ?_
 rintro e w9 ⟨rfl, hb⟩
 have BB9 := hidE (BB8.out.trans (hb.mono BB8.out.size))
 have X9 := hidE (X8.out.next hb)
 have LM9 := hidE (LM8.out.below hb (Nat.le_refl _))
 clear hb k0 k2 k3 k4 HC BB8 X8 LM8 HA2
 have k0 := rowc X9.out.2.2.2.2.1
 have k2 := rowc X9.out.2.2.1
 have k3 := rowc X9.out.2.1
 have k4 := rowc X9.out.1
 unfold FV.arr at k0
 go_upto_region 29 with fail
 go_cut [213] (fun v wx => v = .bool false ∧ Hid (Below w9.heap.size w9 wx))
 case first =>
  as_aux_lemma =>
  clear k0 k2 k3 k4 BB9 X9 LM9
  by_cases hz9 : z1 = 0
  ·subst hz9
   clear HD4
   go_wp2_with fail
   go_meet
   exact ⟨rfl, hidE (Below.refl _ _)⟩
  ·have hx0 : (z1 != 0) = true := by simpa using hz9
   obtain rfl : z3 = z1 := HD4.out.resolve_left hz9
   clear hz9 HD4
   go_wp2_with fail
   go_meet
   exact ⟨rfl, hidE (Below.refl _ _)⟩
 case rest =>
 obtain ⟨rfl, hcb⟩ := hcut
 obtain ⟨w10, rfl⟩ : ∃ z : World, z = wc := ⟨wc, rfl⟩
 have BB10 := hidE (BB9.out.trans (hcb.out.mono BB9.out.size))
 have X10 := hidE (X9.out.next hcb.out)
 have LM10 := hidE (LM9.out.below hcb.out (Nat.le_refl _))
 clear hcb k0 k2 k3 k4 BB9 X9 LM9
 have k0 := rowc X10.out.2.2.2.2.1
 have k2 := rowc X10.out.2.2.1
 have k3 := rowc X10.out.2.1
 have k4 := rowc X10.out.1
 unfold FV.arr at k0
 have HC := hidE (HU1.out w10 BB10.out)
 try unfold FV.val FV.arr at HC
 go_wp2_with fail
 refine HC.out.mono ?_
 rintro e w11 ⟨rfl, hb⟩
 have BB11 := hidE (BB10.out.trans (hb.mono BB10.out.size))
 have X11 := hidE (X10.out.next hb)
 have LM11 := hidE (LM10.out.below hb (Nat.le_refl _))
 clear hb k0 k2 k3 k4 HC BB10 X10 LM10 HU1 HD4
 have k0 := rowc X11.out.2.2.2.2.1
 have k2 := rowc X11.out.2.2.1
 have k3 := rowc X11.out.2.1
 have k4 := rowc X11.out.1
 unfold FV.arr at k0
 have HC := hidE (HU2.out w11 BB11.out _ c4 LM11.out)
 try unfold FV.val FV.arr at HC
 go_wp2_with fail
 refine HC.out.mono ?_
 rintro e w12 ⟨rfl, hb⟩
 have BB12 := hidE (BB11.out.trans (hb.mono BB11.out.size))
 have X12 := hidE (X11.out.next hb)
 have LM12 := hidE (LM11.out.below hb (Nat.le_refl _))
 clear hb k0 k2 k3 k4 HC BB11 X11 LM11 HU2
 by_cases hz9 : y1 = y2
 ·subst hz9
  clear HD6
  go_wp2_with fail
  refine (HSV.out _).mono ?_
  rintro e wz ⟨rfl, hbz⟩
  have BZ := hidE (B0.out.trans ((BB12.out.trans (hbz.mono BB12.out.size)).mono B0.out.size))
  clear hbz
  go_wp2_with fail
  go_ret
  exact ⟨rfl, BZ.out⟩
 ·have hx0 : (y1 == y2) = false := by simpa using hz9
  have hd1 := (HD6.out.resolve_left hz9).1
  have hd2 := (HD6.out.resolve_left hz9).2
  have hx1 : decide (y4 ≤ y1) = true := by simpa using hd1
  have hx2 : decide (y2 ≤ y5) = true := by simpa using hd2
  clear hz9 HD6 hd1 hd2
  go_wp2_with fail
  refine (HSV.out _).mono ?_
  rintro e wz ⟨rfl, hbz⟩
  have BZ := hidE (B0.out.trans ((BB12.out.trans (hbz.mono BB12.out.size)).mono B0.out.size))
  clear hbz
  go_wp2_with fail
  go_ret
  exact ⟨rfl, BZ.out⟩
end Go.Proofs.YtkhemfnlflbniaaGreatDoor
namespace Go.Proofs.YtkhemfnlflbniaaGreatDoor
open Go Go.ChangeShapes Go.WideShapes Go.ChangeAt Go.RowKit Go.Joins Go.Deep
theorem argOk3 : ArgOk 3 := ⟨by kernel_rfl, of_decide_eq_true (by kernel_rfl)⟩
section
variable {H : Type} {enc : TypeId × Value → H}
theorem trodAll_below {W W' : World} (hb : Below W.heap.size W W') : ∀ (ts : List TypeId) (vs : List Value) (ds : List (DataW H)) (ps : List MemPlace), (∀ t ∈ ts, ArgOk t) → DataW.TrodAll enc Tryz.prog W 0 (fun _ => true) true ts vs ds ps →
 (∀ x ∈ ps, x.block < W.heap.size) → DataW.TrodAll enc Tryz.prog W' 0 (fun b => decide (b < W.heap.size)) true ts vs ds ps
 | [], vs, ds, ps, _, h, _ => by
   obtain ⟨rfl, rfl, rfl⟩ := trodAll_nil h
   exact trodAll_mk0
 | t :: ts, vs, ds, ps, hT, h, hs => by
   obtain ⟨v, vs', d, ds', p, q, rfl, rfl, rfl, h1, h2⟩ := trodAll_cons h
   have ht := hT t (List.mem_cons_self ..)
   exact trodAll_cons_mk (Below.trod Tryz.laidOut ht.1 ht.2 h1 hb (fun x hx => hs x (List.mem_append_left _ hx))) (trodAll_below hb ts vs' ds' q (fun x hx => hT x (List.mem_cons_of_mem _ hx)) h2 (fun x hx => hs x (List.mem_append_right _ hx)))
theorem law_post {f : Func} {s : ChangeSpec} {W W' : World} {args : Array Value} {ds gs : List (DataW H)} {before : List MemPlace}
 (hW : DataW.Whole enc Tryz.prog f.params.toList s.vars false W args.toList ds gs before) (hb : Below W.heap.size W W') (hrt : f.resultTypes = #[4])
 (hts : ∀ t ∈ f.params.toList, ArgOk t) (hsv : s.vars = []) (hfn : s.fn H (ds ++ []) = { results := [.lit (.bool true)], args := ds }) :
 s.post enc Tryz.prog f false true false false W args (.bool true) W' := by
 have hW' := hW
 obtain ⟨p, q, hA, hV, rfl, hfz, hnd⟩ := hW
 have hV' := hV
 rw [hsv] at hV'
 obtain ⟨rfl, rfl⟩ := trodVars_none hV'
 have hlt : ∀ x ∈ p, x.block < W.heap.size := fun x hx => by
  have := hW'.lt x
  exact this (List.mem_append_left _ hx)
 refine ⟨ds, [], p ++ [], [], p, [], hW', ?_, ?_, ?_, hb.frame _, fun h => by cases h⟩
 ·rw [hfn, hrt]
  exact trodAll_cons_mk (shut_bool Tryz.underlying4 _) trodAll_mk0
 ·rw [hfn]
  exact trodAll_below hb _ _ _ _ hts hA hlt
 ·rw [hfn, hsv]
  rfl
set_option maxRecDepth 100000 in
theorem open_num {b0 : Nat} {W : World} {v : Value} {d : DataW H} {p : List MemPlace} (hv : Value.okWide Tryz.prog W .any b0 3 v) (h : DataW.Trod enc Tryz.prog W 0 (fun _ => true) true 3 v d p) : ∃ n : Int, v = .int .i64 n ∧ i64ok n := by
 obtain ⟨n, rfl, _, _, hw⟩ := open_int Tryz.underlying3 hv h
 refine ⟨n, rfl, ?_⟩
 have : IntKind.min .i64 ≤ n ∧ n ≤ IntKind.max .i64 := by simpa [Lit.wf] using hw
 simpa [i64ok, IntKind.min, IntKind.max, IntKind.signed, IntKind.bits] using this
end
theorem argOk46 : ArgOk 27 := ⟨by kernel_rfl, of_decide_eq_true (by kernel_rfl)⟩
section
variable {H : Type} {enc : TypeId × Value → H}
theorem sta_trod {W : World} {n : Nat} {cs : List Value} {y : DataW H × List MemPlace} (hl : cs.length = 2) (h : DataW.trod enc Tryz.prog W 0 (fun _ => true) true n 131 cs = some y) : ∃ s : Sta, cs = s.cells ∧ s.name.size ≤ 9223372036854775807 ∧ i64ok s.x := by
 have c9 : Tryz.prog.cellsOf 9 = 1 := by kernel_rfl
 have c3 : Tryz.prog.cellsOf 3 = 1 := by kernel_rfl
 match cs, hl with
 | [u0, u1], _ =>
   obtain ⟨ys, n2, _, _, _, hyl, hf⟩ := DataW.trod_struct Tryz.underlying131 h
   match ys, hyl with
   | [y0, y1], _ =>
     have f0 : DataW.trod enc Tryz.prog W 0 (fun _ => true) true n2 9 (([u0, u1].drop 0).take (Tryz.prog.cellsOf 9)) = some y0 := hf 0 _ rfl
     have f1 : DataW.trod enc Tryz.prog W 0 (fun _ => true) true n2 3 (([u0, u1].drop 1).take (Tryz.prog.cellsOf 3)) = some y1 := hf 1 _ rfl
     rw [c9] at f0
     rw [c3] at f1
     obtain ⟨k0, rfl, o0⟩ := str_cell (v := u0) (y := y0) f0
     obtain ⟨k1, rfl, o1⟩ := int_cell (v := u1) (y := y1) f1
     exact ⟨⟨k0, k1⟩, rfl, o0, o1⟩
theorem par_trod {W : World} {n : Nat} {cs : List Value} {y : DataW H × List MemPlace} (hl : cs.length = 4) (h : DataW.trod enc Tryz.prog W 0 (fun _ => true) true n 133 cs = some y) : ∃ s : Par, cs = s.cells ∧ s.name.size ≤ 9223372036854775807 ∧ i64ok s.south ∧ i64ok s.wst ∧ i64ok s.est := by
 have c9 : Tryz.prog.cellsOf 9 = 1 := by kernel_rfl
 have c3 : Tryz.prog.cellsOf 3 = 1 := by kernel_rfl
 match cs, hl with
 | [u0, u1, u2, u3], _ =>
   obtain ⟨ys, n2, _, _, _, hyl, hf⟩ := DataW.trod_struct Tryz.underlying133 h
   match ys, hyl with
   | [y0, y1, y2, y3], _ =>
     have f0 : DataW.trod enc Tryz.prog W 0 (fun _ => true) true n2 9 (([u0, u1, u2, u3].drop 0).take (Tryz.prog.cellsOf 9)) = some y0 := hf 0 _ rfl
     have f1 : DataW.trod enc Tryz.prog W 0 (fun _ => true) true n2 3 (([u0, u1, u2, u3].drop 1).take (Tryz.prog.cellsOf 3)) = some y1 := hf 1 _ rfl
     have f2 : DataW.trod enc Tryz.prog W 0 (fun _ => true) true n2 3 (([u0, u1, u2, u3].drop 2).take (Tryz.prog.cellsOf 3)) = some y2 := hf 2 _ rfl
     have f3 : DataW.trod enc Tryz.prog W 0 (fun _ => true) true n2 3 (([u0, u1, u2, u3].drop 3).take (Tryz.prog.cellsOf 3)) = some y3 := hf 3 _ rfl
     rw [c9] at f0
     rw [c3] at f1 f2 f3
     obtain ⟨k0, rfl, o0⟩ := str_cell (v := u0) (y := y0) f0
     obtain ⟨k1, rfl, o1⟩ := int_cell (v := u1) (y := y1) f1
     obtain ⟨k2, rfl, o2⟩ := int_cell (v := u2) (y := y2) f2
     obtain ⟨k3, rfl, o3⟩ := int_cell (v := u3) (y := y3) f3
     exact ⟨⟨k0, k1, k2, k3⟩, rfl, o0, o1, o2, o3⟩
theorem vrn_trod {W : World} {n : Nat} {cs : List Value} {y : DataW H × List MemPlace} (hl : cs.length = 2) (h : DataW.trod enc Tryz.prog W 0 (fun _ => true) true n 253 cs = some y) : ∃ s : Vrn, cs = s.cells ∧ i64ok s.year ∧ i64ok s.east := by
 have c3 : Tryz.prog.cellsOf 3 = 1 := by kernel_rfl
 match cs, hl with
 | [u0, u1], _ =>
   obtain ⟨ys, n2, _, _, _, hyl, hf⟩ := DataW.trod_struct Tryz.underlying253 h
   match ys, hyl with
   | [y0, y1], _ =>
     have f0 : DataW.trod enc Tryz.prog W 0 (fun _ => true) true n2 3 (([u0, u1].drop 0).take (Tryz.prog.cellsOf 3)) = some y0 := hf 0 _ rfl
     have f1 : DataW.trod enc Tryz.prog W 0 (fun _ => true) true n2 3 (([u0, u1].drop 1).take (Tryz.prog.cellsOf 3)) = some y1 := hf 1 _ rfl
     rw [c3] at f0 f1
     obtain ⟨k0, rfl, o0⟩ := int_cell (v := u0) (y := y0) f0
     obtain ⟨k1, rfl, o1⟩ := int_cell (v := u1) (y := y1) f1
     exact ⟨⟨k0, k1⟩, rfl, o0, o1⟩
set_option maxRecDepth 100000 in
theorem open_fld {b0 : Nat} {W : World} {v : Value} {d : DataW H} {p : List MemPlace} (hv : Value.okWide Tryz.prog W .any b0 27 v) (h : DataW.Trod enc Tryz.prog W 0 (fun _ => true) true 27 v d p) :
 ∃ (x : FV) (F : Fld), v = x.val F ∧ FldAt W x F := by
 obtain ⟨v0, v1, v2, v3, y0, y1, y2, y3, n, rfl, _, _, h0, h1, h2, h3⟩ := open_agg4 Tryz.underlying27 (by kernel_rfl) (by kernel_rfl) hv h
 obtain ⟨aS, cS, sts, e0, r0, l0, k0⟩ := recs_trod (k := 2) (f := Sta.cells) (by omega) Tryz.underlying22 (by kernel_rfl) (fun n cs y hl hh => sta_trod hl hh) h0
 obtain ⟨aL, cL, lms, e1, r1, l1, k1⟩ := recs_trod (k := 1) (f := strCells) (by omega) Tryz.underlying23 (by kernel_rfl) (fun n cs y hl hh => by
  match cs, hl with
  | [u], _ =>
    obtain ⟨s, rfl, hs⟩ := str_cell hh
    exact ⟨s, rfl, hs⟩) h1
 obtain ⟨aP, cP, prs, e2, r2, l2, k2⟩ := recs_trod (k := 4) (f := Par.cells) (by omega) Tryz.underlying24 (by kernel_rfl) (fun n cs y hl hh => par_trod hl hh) h2
 obtain ⟨aV, cV, vrs, e3, r3, l3, k3⟩ := recs_trod (k := 2) (f := Vrn.cells) (by omega) Tryz.underlying25 (by kernel_rfl) (fun n cs y hl hh => vrn_trod hl hh) h3
 simp only [List.cons.injEq, and_true] at e0 e1 e2 e3
 subst e0 e1 e2 e3
 refine ⟨⟨aS, cS, aL, cL, aP, cP, aV, cV⟩, ⟨sts, lms, prs, vrs⟩, rfl, r0, r1, r2, r3, l0, l1, l2, l3, ?_, fun s hs => (k0 s hs).2, fun s hs => (k2 s hs).2, k3⟩
 intro l hl s hs
 simp only [Fld.names, List.mem_cons, List.not_mem_nil, or_false] at hl
 rcases hl with rfl | rfl | rfl
 ·obtain ⟨t, ht, rfl⟩ := List.mem_map.1 hs
  exact (k0 t ht).1
 ·exact k1 s hs
 ·obtain ⟨t, ht, rfl⟩ := List.mem_map.1 hs
  exact (k2 t ht).1
end
end Go.Proofs.YtkhemfnlflbniaaGreatDoor
namespace Go.Proofs.YtkhemfnlflbniaaGreatDoor
open Go Go.RowKit Go.Shelf
open Go.ChangeShapes Go.WideShapes Go.ChangeAt Go.Joins Go.Deep
section
variable {H : Type} {enc : TypeId × Value → H}
set_option maxRecDepth 100000 in
theorem open_rcd {b0 : Nat} {W : World} {v : Value} {d : DataW H} {p : List MemPlace} (hv : Value.okWide Tryz.prog W .any b0 50 v) (h : DataW.Trod enc Tryz.prog W 0 (fun _ => true) true 50 v d p) : ∃ r : Rcd, v = .agg r.vals ∧ r.deed.size ≤ 9223372036854775807 ∧ 0 ≤ r.call.kind ∧ r.call.kind ≤ 255 := by
 obtain ⟨cs, rfl, hsz⟩ := okWide_struct Tryz.underlying50 hv
 obtain ⟨n, hn⟩ := h
 have hC : Tryz.prog.cellsOf 50 = 18 := by kernel_rfl
 obtain ⟨r, e, h2, h3, h4⟩ := rcd_trod (cs := cs.toList) (by rw [Array.length_toList, hsz, hC]) (by simpa [Value.cells] using hn)
 refine ⟨r, ?_, h2, h3, h4⟩
 congr 1
 rw [← Array.toArray_toList (xs := cs), e]
 rfl
end
end Go.Proofs.YtkhemfnlflbniaaGreatDoor
