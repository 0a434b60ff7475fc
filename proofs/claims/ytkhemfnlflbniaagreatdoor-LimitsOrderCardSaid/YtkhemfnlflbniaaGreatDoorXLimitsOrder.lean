/- What the law LimitsOrder needs beyond the base: Lm2, Lm4, Lm7, Lm8, E1, E41, F9, Fr, Frf. No conditions beyond those stated. -/
import Derived.Test.YtkhemfnlflbniaaGreatDoorB09
import Derived.Test.YtkhemfnlflbniaaGreatDoorB08
import Derived.Test.YtkhemfnlflbniaaGreatDoorB05
import Derived.Test.YtkhemfnlflbniaaGreatDoorB01
import Derived.Test.YtkhemfnlflbniaaGreatDoorB07
import Derived.Test.YtkhemfnlflbniaaGreatDoorB06
import Derived.Test.YtkhemfnlflbniaaGreatDoorB04
import Derived.Shelf.Small.Bits
import Derived.Shelf.Small.Wraps
import Derived.Shelf.Strconv.Itoa0
import Derived.Shelf.Sort.Plain
import Derived.Shelf.Slices.Turned
import Derived.Ground.Names2Prog
import Derived.Shelf.Slices.CompactI
import Derived.Shelf.Slices.Cells
import Derived.Shelf.Slices.In.SortNone
import Derived.Test.YtkhemfnlflbniaaGreatDoorProg
import Derived.Test.YtkhemfnlflbniaaGreatDoorB03
import Derived.Test.YtkhemfnlflbniaaGreatDoorB02
import Derived.WalkKit
import Derived.Handy
import Derived.RangeFuncRecord
import Derived.Shelf.Abstract
import Derived.Deep.QuietTactic
import Derived.BigQuiet
import Derived.Laws.CopyOwn
import Derived.WalkSmall
import Derived.RangeFuncNested
import Derived.RangeFuncBound
import Derived.RangeFuncCalls
import Derived.RangeFuncLeaves
import Derived.Shelf.RegionOpen
import Derived.OwnWalkIn
import Derived.TacticsInMore
import Derived.LoopNIn
import Derived.LoopIn
import Derived.Maps.AppendAt
import Derived.Deep.Onto
import Derived.OrdersHeld
import Derived.Deep.LoopGhost
import Derived.Deep.WholeRow
import Derived.Deep.OwnRows
import Derived.StillTailTactics
import Derived.Great.Walk
import Derived.Great.BuildSlice
import Derived.WalkMore
import Derived.Deep.MidRow
import Derived.Deep.RegionHeld3
import Derived.Deep.DeepCutAuto
import Derived.Lib.OwnBridge
import Derived.Lib.SliceRun
import Derived.WalkSpells
import Derived.Deep.RegionWith
import Derived.Lib.AppendZerosOnto
import Derived.Deep.CutBlock
import Derived.IntWalk
import Derived.Test.YtkhemfnlflbniaaGreatDoorB10
import Derived.Test.YtkhemfnlflbniaaGreatDoorB12
import Derived.Test.YtkhemfnlflbniaaGreatDoorB11
import Derived.Deep.Cut
import Derived.Laws.Rows
import Derived.Laws.Tables
import Derived.Laws.StructEq
import Derived.OrdersIn
import Derived.RangeFuncBox
import Derived.Test.YtkhemfnlflbniaaGreatDoorB15
import Derived.Test.YtkhemfnlflbniaaGreatDoorB14
import Derived.Test.YtkhemfnlflbniaaGreatDoorB13
import Derived.Test.YtkhemfnlflbniaaGreatDoorRows
import Derived.ProofKit
import Derived.OpenShut
import Derived.Carry
import Derived.Lib.SmallJoins
import Derived.Deep.Slices
import Derived.ChangeMaps5
namespace Go.Proofs.YtkhemfnlflbniaaGreatDoor
theorem far_takes {N : Nat} {bs : List Bd} (T : Tied N bs) {a b : Nat} (ha : a < N) (hb : b < N) : (farV N bs a).getD b 0 - (farV N bs a).getD a 0 = distN N bs a b := by
 obtain ⟨t, ht, H⟩ := T.net
 rw [farV_get hb, farV_get ha, dist_self H ht ha]
 omega
theorem dist_fewer {N : Nat} {bs cs : List Bd} (T : Tied N bs) (U : Tied N cs) (h : ∀ y, Keeps N cs y → Keeps N bs y) {a b : Nat} (ha : a < N) (hb : b < N) : distN N cs a b ≤ distN N bs a b := by
 rw [← far_takes U ha hb]
 exact tied_dist T (h _ (far_keeps U ha)) ha hb
theorem dist_alike {N : Nat} {bs cs : List Bd} (T : Tied N bs) (U : Tied N cs) (h : ∀ y, Keeps N cs y ↔ Keeps N bs y) {a b : Nat} (ha : a < N) (hb : b < N) : distN N cs a b = distN N bs a b :=
 Int.le_antisymm (dist_fewer T U (fun y => (h y).1) ha hb) (dist_fewer U T (fun y => (h y).2) ha hb)
theorem sys_mem {F : Fld} {l : List Rcd} {b : Bd} : b ∈ sysL F l ↔ b ∈ natF F ∨ ∃ r ∈ l, b ∈ callBs F r.call r.id := by
 unfold sysL Rcd.bs
 rw [List.mem_append, List.mem_flatMap]
theorem pair_map {p q lo hi r : Int} : pairB p q lo hi r = (pairB p q lo hi 0).map fun b => { b with rcd := r } := rfl
theorem call_map (F : Fld) (c : Cll) (r : Int) : callBs F c r = (callBs F c 0).map fun b => { b with rcd := r } := by
 unfold callBs
 by_cases k1 : c.kind = 1
 ·rw [if_pos k1, if_pos k1]; exact pair_map
 rw [if_neg k1, if_neg k1]
 by_cases k2 : c.kind = 2
 ·rw [if_pos k2, if_pos k2]; exact pair_map
 rw [if_neg k2, if_neg k2]
 by_cases k3 : c.kind = 3
 ·rw [if_pos k3, if_pos k3]; exact pair_map
 rw [if_neg k3, if_neg k3]
 by_cases k4 : c.kind = 4
 ·rw [if_pos k4, if_pos k4]
  unfold alongG
  rw [List.map_flatMap]
  rfl
 rw [if_neg k4, if_neg k4]
 by_cases k5 : c.kind = 5
 ·rw [if_pos k5, if_pos k5]; exact pair_map
 rw [if_neg k5, if_neg k5]
 rfl
theorem drw_calls {F : Fld} {l : List Rcd} {y : List Int} : Drw F l y ↔ (y.length = ptN F ∧ y.getD 0 0 = 0 ∧ (∀ v ∈ y, -400000000 ≤ v ∧ v ≤ 400000000) ∧ Pot y (natF F)) ∧ ∀ r ∈ l, Pot y (callBs F r.call 0) := by
 constructor
 ·intro k
  refine ⟨⟨k.len, k.zero, k.bd, fun b hb => k.pot b (sys_mem.2 (.inl hb))⟩, fun r hr b hb => ?_⟩
  have : ({ b with rcd := r.id } : Bd) ∈ sysL F l := sys_mem.2 (.inr ⟨r, hr, by rw [call_map]; exact List.mem_map.2 ⟨b, hb, rfl⟩⟩)
  have z := k.pot ({ b with rcd := r.id } : Bd) this
  exact z
 ·rintro ⟨⟨h1, h2, h3, h4⟩, h5⟩
  refine ⟨h1, h2, h3, fun b hb => ?_⟩
  rcases sys_mem.1 hb with k | ⟨r, hr, k⟩
  ·exact h4 b k
  ·rw [call_map] at k
   obtain ⟨c, hc, rfl⟩ := List.mem_map.1 k
   exact h5 r hr c hc
theorem drw_order {F : Fld} {l m : List Rcd} (h : ∀ r ∈ m, ∃ s ∈ l, s.call = r.call) {y : List Int} (k : Drw F l y) : Drw F m y := by
 rw [drw_calls] at k ⊢
 refine ⟨k.1, fun r hr => ?_⟩
 obtain ⟨s, hs, e⟩ := h r hr
 rw [← e]
 exact k.2 s hs
theorem order_alike {F : Fld} {l m : List Rcd} (h : Good F l) (g : Good F m) (h1 : ∀ r ∈ m, ∃ s ∈ l, s.call = r.call) (h2 : ∀ r ∈ l, ∃ s ∈ m, s.call = r.call) :
 agreeB F l = agreeB F m ∧ (agreeB F l = true → ∀ a b, a < ptN F → b < ptN F → distN (ptN F) (sysL F l) a b = distN (ptN F) (sysL F m) a b) := by
 have e : agreeB F l = agreeB F m := by
  rw [Bool.eq_iff_iff]
  exact ⟨fun q => drw_agree g (drw_order h1 (last_drw h q).1), fun q => drw_agree h (drw_order h2 (last_drw g q).1)⟩
 refine ⟨e, fun q a b ha hb => ?_⟩
 exact dist_alike (tied g (by rw [← e]; exact q)) (tied h q) (fun y => ⟨drw_order h1, drw_order h2⟩) ha hb
theorem call_len {F : Fld} (hf : F.check = 0) {c : Cll} {r : Int} (hc : callE F c = 0) : (callBs F c r).length ≤ 24 := by
 have g := fld_facts hf
 unfold callE at hc
 by_cases h0 : rightB F c = false
 ·rw [if_pos h0] at hc; exact absurd hc (by decide)
 have h0 : rightB F c = true := by simpa using h0
 unfold rightB at h0
 unfold callBs
 by_cases k1 : c.kind = 1
 ·rw [if_pos k1]; simp [pairB]
 rw [if_neg k1] at h0 ⊢
 by_cases k2 : c.kind = 2
 ·rw [if_pos k2]; simp [pairB]
 rw [if_neg k2] at h0 ⊢
 by_cases k3 : c.kind = 3
 ·rw [if_pos k3]; simp [pairB]
 rw [if_neg k3] at h0 ⊢
 by_cases k4 : c.kind = 4
 ·rw [if_pos k4] at h0 ⊢
  rw [along_len]
  unfold alongB staB inR at h0
  simp only [Bool.and_eq_true, decide_eq_true_eq] at h0
  omega
 rw [if_neg k4] at h0 ⊢
 by_cases k5 : c.kind = 5
 ·rw [if_pos k5]; simp [pairB]
 rw [if_neg k5]
 simp
theorem err_call {F : Fld} {r : Rcd} (h : r.err F = 0) : callE F r.call = 0 := by
 unfold Rcd.err at h
 by_cases q : callE F r.call ≠ 0
 ·rw [if_pos q] at h; exact absurd h q
 ·exact Classical.not_not.1 q
theorem few_good {F : Fld} (hf : F.check = 0) {l : List Rcd} (hl : l.length ≤ 60) (h : ∀ r ∈ l, r.right = true ∧ r.err F = 0) (ha : l.Pairwise fun a b => a.id < b.id) : Good F l := by
 refine ⟨hf, by omega, h, ha, .inl ?_⟩
 unfold sysL
 rw [List.length_append, nat_len]
 have m := mul_len hf
 have : (F.lms.length - 1) * F.sts.length ≤ F.lms.length * F.sts.length := Nat.mul_le_mul_right _ (by omega)
 have k : ∀ (l : List Rcd), (∀ r ∈ l, r.right = true ∧ r.err F = 0) → (l.flatMap (Rcd.bs F)).length ≤ 24 * l.length := by
  intro l
  induction l with
  | nil => intro _; exact Nat.le_refl _
  | cons r l ih =>
    intro h
    rw [List.flatMap_cons, List.length_append, List.length_cons]
    have := ih fun x hx => h x (List.mem_cons_of_mem _ hx)
    have : (r.bs F).length ≤ 24 := call_len hf (err_call (h r (List.mem_cons_self ..)).2)
    omega
 have := k l h
 omega
theorem flag_zero {b : Bool} : flagE b = 0 ↔ b = true := by cases b <;> simp [flagE]
theorem region_of {F : Fld} {l : List Rcd} {i s : Int} (h : Good F l) (ha : agreeB F l = true) (hi : limB F i = true) (hs : staB F s = true) : regionE F l i s = (lowE F l (ptS F i s), highE F l (ptS F i s), 0) := by
 unfold regionE
 rw [if_neg]
 exact fun q => q (match_zero.2 ⟨h, flag_zero.2 (by unfold cornB; rw [hi, hs]; rfl), ha⟩)
theorem width_of {F : Fld} {l : List Rcd} {i s j t : Int} (h : Good F l) (ha : agreeB F l = true) (hi : limB F i = true) (hs : staB F s = true) (hj : limB F j = true) (ht : staB F t = true) : widthE F l i s j t = (-distN (ptN F) (sysL F l) (ptS F j t) (ptS F i s), distN (ptN F) (sysL F l) (ptS F i s) (ptS F j t), 0) := by
 unfold widthE
 rw [if_neg]
 exact fun q => q (match_zero.2 ⟨h, flag_zero.2 (by unfold cornB; rw [hi, hs, hj, ht]; rfl), ha⟩)
theorem award_of {F : Fld} {l : List Rcd} {i s a b : Int} (h : matchE F l (flagE (stripB F i s a b)) = 0) : awardE F l i s a b = (awardOf (lowE F l (ptS F i s)) (highE F l (ptS F i s)) a b, 0) ∧ partsE F l i s a b = (cutP (lowE F l (ptS F i s)) (highE F l (ptS F i s)) a b, 0) := by
 unfold awardE partsE
 rw [h]
 exact ⟨rfl, rfl⟩
def turnL (l : List Rcd) (k : Nat) (day : Int) : List Rcd := (List.range l.length).map fun (i : Nat) => { l.getD ((i + k) % l.length) rcd0 with id := 3 * (i : Int) + 2, day := day }
def backL (l : List Rcd) : List Rcd := (List.range l.length).map fun (i : Nat) => { l.getD (l.length - 1 - i) rcd0 with id := (i : Int) + 1 }
theorem getD_in {l : List Rcd} {i : Nat} (h : i < l.length) : l.getD i rcd0 ∈ l := by rw [List.getD_eq_getElem?_getD, List.getElem?_eq_getElem h]; exact List.getElem_mem h
theorem right_iff {r : Rcd} : r.right = true ↔ (1 ≤ r.id ∧ r.id ≤ 1000000) ∧ (0 ≤ r.day ∧ r.day ≤ 100000) ∧ isNameB r.deed = true ∧ (1 ≤ r.year ∧ r.year ≤ 3000) ∧ 0 ≤ r.rank ∧ r.rank ≤ 1000 := by
 unfold Rcd.right inR
 simp only [Bool.and_eq_true, decide_eq_true_eq, and_assoc]
theorem asc_map {n : Nat} {f : Nat → Rcd} (h : ∀ i j, i < j → (f i).id < (f j).id) : ((List.range n).map f).Pairwise fun a b => a.id < b.id := by
 rw [List.pairwise_map]
 exact List.pairwise_lt_range.imp fun {a b} hab => h a b hab
theorem turn_good {F : Fld} {l : List Rcd} (h : Good F l) (hl : l.length ≤ 60) {k : Nat} {day : Int} (d0 : 0 ≤ day) (d1 : day ≤ 100000) : Good F (turnL l k day) := by
 refine few_good h.fld (by simpa [turnL] using hl) (fun r hr => ?_) (asc_map fun i j hij => by dsimp; omega)
 unfold turnL at hr
 obtain ⟨i, hi, rfl⟩ := List.mem_map.1 hr
 rw [List.mem_range] at hi
 have hm := getD_in (l := l) (i := (i + k) % l.length) (Nat.mod_lt _ (by omega))
 have e := h.each _ hm
 have a := right_iff.1 e.1
 exact ⟨right_iff.2 ⟨by dsimp; omega, ⟨d0, d1⟩, a.2.2⟩, e.2⟩
theorem back_good {F : Fld} {l : List Rcd} (h : Good F l) (hl : l.length ≤ 60) : Good F (backL l) := by
 refine few_good h.fld (by simpa [backL] using hl) (fun r hr => ?_) (asc_map fun i j hij => by dsimp; omega)
 unfold backL at hr
 obtain ⟨i, hi, rfl⟩ := List.mem_map.1 hr
 rw [List.mem_range] at hi
 have hm := getD_in (l := l) (i := l.length - 1 - i) (by omega)
 have e := h.each _ hm
 have a := right_iff.1 e.1
 exact ⟨right_iff.2 ⟨by dsimp; omega, a.2.1, a.2.2⟩, e.2⟩
theorem turn_same {_F : Fld} {l : List Rcd} {k : Nat} {day : Int} (hk : k < l.length) : (∀ r ∈ turnL l k day, ∃ s ∈ l, s.call = r.call) ∧ ∀ r ∈ l, ∃ s ∈ turnL l k day, s.call = r.call := by
 constructor
 ·intro r hr
  unfold turnL at hr
  obtain ⟨i, hi, rfl⟩ := List.mem_map.1 hr
  rw [List.mem_range] at hi
  exact ⟨_, getD_in (l := l) (i := (i + k) % l.length) (Nat.mod_lt _ (by omega)), rfl⟩
 ·intro r hr
  obtain ⟨j, hj, rfl⟩ := List.getElem_of_mem hr
  obtain ⟨i, hi, e⟩ : ∃ i, i < l.length ∧ (i + k) % l.length = j := by
   by_cases q : k ≤ j
   ·exact ⟨j - k, by omega, by rw [Nat.sub_add_cancel q, Nat.mod_eq_of_lt hj]⟩
   ·refine ⟨j + l.length - k, by omega, ?_⟩
    rw [show j + l.length - k + k = j + l.length by omega, Nat.add_mod_right, Nat.mod_eq_of_lt hj]
  refine ⟨_, List.mem_map.2 ⟨i, List.mem_range.2 hi, rfl⟩, ?_⟩
  rw [e, List.getD_eq_getElem?_getD, List.getElem?_eq_getElem hj]
  rfl
theorem back_same {_F : Fld} {l : List Rcd} : (∀ r ∈ backL l, ∃ s ∈ l, s.call = r.call) ∧ ∀ r ∈ l, ∃ s ∈ backL l, s.call = r.call := by
 constructor
 ·intro r hr
  unfold backL at hr
  obtain ⟨i, hi, rfl⟩ := List.mem_map.1 hr
  rw [List.mem_range] at hi
  exact ⟨_, getD_in (l := l) (i := l.length - 1 - i) (by omega), rfl⟩
 ·intro r hr
  obtain ⟨j, hj, rfl⟩ := List.getElem_of_mem hr
  refine ⟨_, List.mem_map.2 ⟨l.length - 1 - j, List.mem_range.2 (by omega), rfl⟩, ?_⟩
  rw [show l.length - 1 - (l.length - 1 - j) = j by omega, List.getD_eq_getElem?_getD, List.getElem?_eq_getElem hj]
  rfl
theorem order_law {F : Fld} {l m : List Rcd} (h : Good F l) (g : Good F m) (h1 : ∀ r ∈ m, ∃ s ∈ l, s.call = r.call) (h2 : ∀ r ∈ l, ∃ s ∈ m, s.call = r.call) :
 agreeB F l = agreeB F m ∧ (∀ i s, regionE F l i s = regionE F m i s) ∧ (∀ i s j t, widthE F l i s j t = widthE F m i s j t) ∧ ∀ i s a b, awardE F l i s a b = awardE F m i s a b := by
 have o := order_alike h g h1 h2
 have e : ∀ x, matchE F l x = matchE F m x := fun x => by
  unfold matchE
  rw [(check_iff F l).2 h, (check_iff F m).2 g, o.1]
 have en : ∀ i s, agreeB F l = true → limB F i = true → staB F s = true → lowE F l (ptS F i s) = lowE F m (ptS F i s) ∧ highE F l (ptS F i s) = highE F m (ptS F i s) := fun i s ha hi hs => by
  have p := ptS_bd hi hs
  unfold lowE highE
  rw [o.2 ha _ 0 p.2.1 (pt_le h.fld).1, o.2 ha 0 _ (pt_le h.fld).1 p.2.1]
  exact ⟨rfl, rfl⟩
 refine ⟨o.1, fun i s => ?_, fun i s j t => ?_, fun i s a b => ?_⟩
 ·by_cases k : matchE F l (flagE (cornB F i s)) = 0
  ·have z := match_zero.1 k
   have c := flag_zero.1 z.2.1
   unfold cornB at c
   rw [Bool.and_eq_true] at c
   rw [region_of h z.2.2 c.1 c.2, region_of g (by rw [← o.1]; exact z.2.2) c.1 c.2, (en i s z.2.2 c.1 c.2).1, (en i s z.2.2 c.1 c.2).2]
  ·unfold regionE
   rw [if_pos k, if_pos (by rw [← e]; exact k), e]
 ·by_cases k : matchE F l (flagE (cornB F i s && cornB F j t)) = 0
  ·have z := match_zero.1 k
   have c := flag_zero.1 z.2.1
   unfold cornB at c
   rw [Bool.and_eq_true, Bool.and_eq_true, Bool.and_eq_true] at c
   have p := ptS_bd c.1.1 c.1.2
   have q := ptS_bd c.2.1 c.2.2
   rw [width_of h z.2.2 c.1.1 c.1.2 c.2.1 c.2.2, width_of g (by rw [← o.1]; exact z.2.2) c.1.1 c.1.2 c.2.1 c.2.2, o.2 z.2.2 _ _ p.2.1 q.2.1, o.2 z.2.2 _ _ q.2.1 p.2.1]
  ·unfold widthE
   rw [if_pos k, if_pos (by rw [← e]; exact k), e]
 ·by_cases k : matchE F l (flagE (stripB F i s a b)) = 0
  ·have z := match_zero.1 k
   have c := flag_zero.1 z.2.1
   unfold stripB cornB at c
   simp only [Bool.and_eq_true] at c
   rw [(award_of k).1, (award_of (by rw [← e]; exact k)).1, (en i s z.2.2 c.1.1 c.1.2).1, (en i s z.2.2 c.1.1 c.1.2).2]
  ·unfold awardE
   rw [if_pos k, if_pos (by rw [← e]; exact k), e]
end Go.Proofs.YtkhemfnlflbniaaGreatDoor
namespace Go.Proofs.YtkhemfnlflbniaaGreatDoor
open Go Go.RowKit Go.Shelf
set_option maxRecDepth 10000 in
set_option maxHeartbeats 2000000 in
theorem checkR_any (w : World) (x : FV) (F : Fld) (ar : Option Addr) (cr : Nat) (l : List Rcd) (h : FldAt w x F) (hr : RcdsAt w ar l) (hn : l.length ≤ 100000) (hk : ∀ r ∈ l, (0 ≤ r.call.kind ∧ r.call.kind ≤ 255) ∧ r.deed.size ≤ 9223372036854775807) :
 Calls Tryz.prog 28 #[x.val F, .slice ar l.length cr] w fun e w' => e = .returned (.tuple #[.int .i64 (checkE F l).1, .int .i64 (checkE F l).2]) ∧ Below w.heap.size w w' := by
 obtain ⟨w0, hw0⟩ : ∃ W, W = w.alloc (.cells (x.arr F) 27) := ⟨_, rfl⟩
 have B0 := hidE (show Below w.heap.size w w0 by rw [hw0]; exact (Below.refl _ _).alloc (Nat.le_refl _) _)
 have X0 := hidE (show Kb [(w.heap.size, .cells (x.arr F) 27)] w0 by rw [hw0]; exact Kb.alloc trivial)
 have HC := hidE (checkedR_any w0 x F ar cr l (h.below B0.out) (hr.below B0.out (Nat.le_refl _)) hn hk)
 obtain ⟨⟨r1, r2⟩, hR⟩ : ∃ R, checkE F l = R := ⟨_, rfl⟩
 rw [hR] at HC ⊢
 clear hR h hr hn hk
 have kk := rowc X0.out.1
 unfold FV.val FV.arr at *
 go_enter Tryz.func28, Tryz.ntmps28
 go_upto_region 1 with fail
 rw [← hw0]
 clear hw0
 go_wp2_with fail
 refine HC.out.mono ?_
 rintro e w1 ⟨⟨v, rfl, hv⟩, hb1⟩
 have B1 := hidE (B0.out.trans (hb1.mono B0.out.size))
 clear hb1 HC X0 kk hv
 go_wp2_with fail
 go_ret2
 exact ⟨rfl, B1.out⟩
theorem built_rcd (r : Rcd) : Tryz.prog.builtSlice 50 1 [(0, .agg r.vals)] = some r.vals := by kernel_rfl
theorem below_cells9 {B : Nat} {w W : World} (h : Below B w W) {g : Nat} (hg : B ≤ g) : ∀ (vs : List Value) (o : Nat), Below B w (W.setCells g o vs)
 | [], _ => h
 | v :: vs, o => below_cells9 (W := W.setCell ⟨g, o, none⟩ v) (h.setCell hg v) hg vs (o + 1)
theorem setCells_size (g : Nat) : ∀ (vs : List Value) (o : Nat) (W : World), (W.setCells g o vs).heap.size = W.heap.size
 | [], _, _ => rfl
 | v :: vs, o, W => (setCells_size g vs (o + 1) (W.setCell ⟨g, o, none⟩ v)).trans (by simp)
theorem setCells_blk9 (g : Nat) (t : TypeId) : ∀ (vs : List Value) (o : Nat) (W : World), (∃ cur, W.heap[g]? = some (.cells cur t (0,0))) → ∃ cur, (W.setCells g o vs).heap[g]? = some (.cells cur t (0,0))
 | [], _, _, h => h
 | v :: vs, o, W, ⟨_, h⟩ => setCells_blk9 g t vs (o + 1) (W.setCell ⟨g, o, none⟩ v) ⟨_, Go.heap_setCell_same _ _ o _ _ v h⟩
structure OJ (g : Nat) (m : List Rcd) (W : World) : Prop where
 r : RcdsAt W (some ⟨g, 0, none⟩) m
 z : ∃ cur, W.heap[g]? = some (.cells cur 50 (0,0))
theorem OJ.there {W : World} {g : Nat} {m : List Rcd} (h : OJ g m W) {k : Nat} (hk : k < m.length) : W.there g (k * 18) 18 := fun j hj => by
 obtain ⟨b, off, e, _, hc⟩ := RecsAt.at h.r hk
 cases e
 obtain ⟨cur, hz⟩ := h.z
 have := hc j hj
 rw [Nat.zero_add] at this
 rw [this]
 refine ⟨?_, frozen_of_row _ _ _ _ _ hz⟩
 show ((m[k]).vals.toList[j]?).isSome = true
 rw [List.getElem?_eq_getElem (show j < 18 from hj)]
 rfl
theorem OJ.put {W : World} {g : Nat} {m : List Rcd} (h : OJ g m W) {k : Nat} (hk : k < m.length) (x : Rcd) : OJ g (m.set k x) (W.setCells g (k * 18) x.vals.toList) := by
 refine ⟨?_, setCells_blk9 g 50 _ _ _ h.z⟩
 have ht := h.there hk
 obtain ⟨b, off, e, hb, _⟩ := RecsAt.at h.r hk
 cases e
 refine .inr ⟨g, 0, rfl, by rw [setCells_size]; exact hb, fun i hi j hj => ?_⟩
 have hi2 : i < m.length := by simpa using hi
 rw [Nat.zero_add]
 by_cases e : k = i
 ·subst e
  rw [List.getElem_set_self]
  have := World.rangeAt_setCells_same W g (k * 18) x.vals.toList ht j
  show _ = x.vals.toList[j]?
  rw [List.getElem?_eq_getElem (show j < 18 from hj)]
  exact this _ (List.getElem?_eq_getElem (show j < 18 from hj))
 ·rw [List.getElem_set_ne e]
  obtain ⟨b2, o2, e2, _, hc⟩ := RecsAt.at h.r hi2
  cases e2
  have hr : W.rangeAt g (i * 18) m[i].vals.toList := by
   have := range_of_recs (W := W) (b := g) (off := 0) (k := i) (r := m[i]) hc
   rwa [Nat.zero_add] at this
  have := World.rangeAt_setCells_apart hr g (k * 18) x.vals.toList (.inr (by
   show i * 18 + 18 ≤ k * 18 ∨ k * 18 + 18 ≤ i * 18
   omega)) j
  show _ = m[i].vals.toList[j]?
  rw [List.getElem?_eq_getElem (show j < 18 from hj)]
  exact this _ (List.getElem?_eq_getElem (show j < 18 from hj))
theorem OJ.next {W W' : World} {g : Nat} {m : List Rcd} (h : OJ g m W) (hb : Below W.heap.size W W') : OJ g m W' :=
 ⟨h.r.below hb (Nat.le_refl _), by obtain ⟨c, z⟩ := h.z; exact ⟨c, blk_below hb (lt_of_block z) z⟩⟩
theorem oj_owned {W : World} {B : Nat} {v : Value} {l : List Rcd} (h : W.ownsRow B 50 18 v l.length (l.flatMap Rcd.cells)) (hn : 0 < l.length) : ∃ g c, v = .slice (some ⟨g, 0, none⟩) l.length c ∧ B ≤ g ∧ OJ g l W := by
 obtain ⟨-, ⟨-, z⟩ | ⟨g, c, cur, e, hB, hh, -, -, -, htk⟩⟩ := h
 ·omega
 ·exact ⟨g, c, e, hB, rcds_row hh htk, cur, hh⟩
theorem run_cells9 {W : World} {g o : Nat} (x : Rcd) (ht : W.there g o 18) : Sem.run Tryz.prog (storeCells ⟨g, o, none⟩ x.vals.toList) W = .ok () (W.setCells g o x.vals.toList) := by
 have := run_storeCells_cells (P := Tryz.prog) g o x.vals.toList 0 W (fun j hj => by simpa using (ht j hj).1) (fun j hj => by simpa using (ht j hj).2) (fun v hv => rcd_one x v hv)
 simpa only [Nat.add_zero] using this
def turnF (l : List Rcd) (k : Nat) (day : Int) (i : Nat) : Rcd := { l.getD ((i + k) % l.length) rcd0 with id := 3 * (i : Int) + 2, day := day }
def backF (l : List Rcd) (i : Nat) : Rcd := { l.getD (l.length - 1 - i) rcd0 with id := (i : Int) + 1 }
def mixL (l : List Rcd) (k : Nat) (day : Int) (n : Nat) : List Rcd := (List.range l.length).map fun i => if i < n then backF l i else turnF l k day i
theorem mix_zero (l : List Rcd) (k : Nat) (day : Int) : mixL l k day 0 = turnL l k day := by unfold mixL turnL; simp; intro i _; rfl
theorem mix_all (l : List Rcd) (k : Nat) (day : Int) : mixL l k day l.length = backL l := by
 unfold mixL backL
 refine List.map_congr_left fun i hi => ?_
 rw [if_pos (List.mem_range.1 hi)]
 rfl
theorem mix_len (l : List Rcd) (k : Nat) (day : Int) (n : Nat) : (mixL l k day n).length = l.length := by simp [mixL]
theorem mix_get (l : List Rcd) (k : Nat) (day : Int) (n : Nat) {i : Nat} (h : i < (mixL l k day n).length) : (mixL l k day n)[i] = if i < n then backF l i else turnF l k day i := by simp [mixL]
theorem mix_set (l : List Rcd) (k : Nat) (day : Int) (n : Nat) : (mixL l k day n).set n (backF l n) = mixL l k day (n + 1) := by
 refine List.ext_getElem (by simp [mixL]) fun i h1 h2 => ?_
 rw [List.getElem_set]
 rw [mix_get, mix_get]
 by_cases e : n = i
 ·rw [if_pos e, if_pos (by omega), e]
 ·rw [if_neg e]
  by_cases q : i < n
  ·rw [if_pos q, if_pos (by omega)]
  ·rw [if_neg q, if_neg (by omega)]
def turnT (l : List Rcd) (k : Nat) (day : Int) (n : Nat) : List Rcd := (List.range n).map (turnF l k day)
theorem turnT_snoc (l : List Rcd) (k : Nat) (day : Int) (n : Nat) : turnT l k day n ++ [turnF l k day n] = turnT l k day (n + 1) := by unfold turnT; rw [List.range_succ, List.map_append]; rfl
theorem turnT_len (l : List Rcd) (k : Nat) (day : Int) (n : Nat) : (turnT l k day n).length = n := by simp [turnT]
theorem turn_from {l : List Rcd} {k : Nat} {day : Int} : ∀ r ∈ turnL l k day, ∃ s ∈ l, s.deed = r.deed ∧ s.call = r.call := fun r hr => by
 unfold turnL at hr
 obtain ⟨i, hi, rfl⟩ := List.mem_map.1 hr
 have hn : 0 < l.length := by have := List.mem_range.1 hi; omega
 exact ⟨_, getD_in (Nat.mod_lt _ hn), rfl, rfl⟩
theorem back_from {l : List Rcd} : ∀ r ∈ backL l, ∃ s ∈ l, s.deed = r.deed ∧ s.call = r.call := fun r hr => by
 unfold backL at hr
 obtain ⟨i, hi, rfl⟩ := List.mem_map.1 hr
 have hn := List.mem_range.1 hi
 exact ⟨_, getD_in (by omega), rfl, rfl⟩
structure Ord (F : Fld) (l m : List Rcd) : Prop where
 len : m.length = l.length
 g : Good F m
 h1 : ∀ r ∈ m, ∃ s ∈ l, s.call = r.call
 h2 : ∀ r ∈ l, ∃ s ∈ m, s.call = r.call
 dd : ∀ r ∈ m, ∃ s ∈ l, s.deed = r.deed ∧ s.call = r.call
theorem ord_turn {F : Fld} {l : List Rcd} (h : Good F l) (hl : l.length ≤ 60) {k : Nat} {day : Int} (d0 : 0 ≤ day) (d1 : day ≤ 100000) (hk : k < l.length) : Ord F l (turnL l k day) :=
 ⟨by simp [turnL], turn_good h hl d0 d1, (turn_same (_F := F) hk).1, (turn_same (_F := F) hk).2, turn_from⟩
theorem ord_back {F : Fld} {l : List Rcd} (h : Good F l) (hl : l.length ≤ 60) : Ord F l (backL l) :=
 ⟨by simp [backL], back_good h hl, (back_same (_F := F)).1, (back_same (_F := F)).2, back_from⟩
theorem ord_kd {F : Fld} {l m : List Rcd} (o : Ord F l m) (hk : ∀ r ∈ l, (0 ≤ r.call.kind ∧ r.call.kind ≤ 255) ∧ r.deed.size ≤ 9223372036854775807) : ∀ r ∈ m, (0 ≤ r.call.kind ∧ r.call.kind ≤ 255) ∧ r.deed.size ≤ 9223372036854775807 := fun r hr => by
 obtain ⟨s, hs, e1, e2⟩ := o.dd r hr
 have := hk s hs
 rw [e1, e2] at this
 exact this
theorem conflict_good {F : Fld} {l : List Rcd} (h : Good F l) : (conflictE F l).2 = (!agreeB F l, 0) := by
 unfold conflictE
 rw [if_neg (by rw [(check_iff F l).2 h]; simp)]
 cases q : agreeB F l
 ·rw [if_neg (by simp)]; rfl
 ·rw [if_pos rfl]; rfl
theorem order_spec {F : Fld} {l m : List Rcd} (h : Good F l) (o : Ord F l m) :
 (conflictE F l).2 = ((conflictE F m).2.1, 0) ∧ (conflictE F m).2.2 = 0 ∧ (∀ i s, regionE F l i s = regionE F m i s) ∧ (∀ i s j t, widthE F l i s j t = widthE F m i s j t) ∧ ∀ i s a b, awardE F l i s a b = awardE F m i s a b := by
 obtain ⟨a, b, c, d⟩ := order_law h o.g o.h1 o.h2
 rw [conflict_good h, conflict_good o.g, a]
 exact ⟨rfl, rfl, b, c, d⟩
theorem own_edit {w : World} {B n : Nat} {v : Value} {xs : List Value} (h : w.ownsRow B 50 18 v n xs) (o : Obj) (u1 u2 : Value) : (((w.alloc o).setCell ⟨w.heap.size, 0, none⟩ u1).setCell ⟨w.heap.size, 1, none⟩ u2).ownsRow B 50 18 v n xs :=
 ownsRow_of_block (ownsRow_of_block (h.alloc o) (fun q hq => heap_setCell_other _ _ _ _ (by have := (owns_lt h hq).1; dsimp only; omega))) (fun q hq => heap_setCell_other _ _ _ _ (by have := (owns_lt h hq).1; dsimp only; omega))
theorem turn_num {turn : Int} {n : Nat} (h0 : 0 < n) (h1 : n ≤ 14) : ∃ kk : Nat, kk < n ∧ (IntKind.u64.wrap turn).tmod (n : Int) = (kk : Int) ∧ (IntKind.u64.wrap turn) % (n : Int) = (kk : Int) ∧ 0 ≤ IntKind.u64.wrap turn ∧ IntKind.u64.wrap turn ≤ 18446744073709551615 := by
 have hb : 0 ≤ IntKind.u64.wrap turn ∧ IntKind.u64.wrap turn ≤ 18446744073709551615 := by
  have : IntKind.u64.wrap turn = turn % 18446744073709551616 := by simp [IntKind.wrap, IntKind.bits, IntKind.signed]
  rw [this]; omega
 have e1 := Int.emod_nonneg (IntKind.u64.wrap turn) (show (n : Int) ≠ 0 by omega)
 have e2 := Int.emod_lt_of_pos (IntKind.u64.wrap turn) (show 0 < (n : Int) by omega)
 obtain ⟨c, hc⟩ : ∃ c, IntKind.u64.wrap turn % (n : Int) = c := ⟨_, rfl⟩
 rw [hc] at e1 e2
 refine ⟨c.toNat, by omega, ?_, by rw [hc]; omega, hb.1, hb.2⟩
 rw [Int.tmod_eq_emod_of_nonneg hb.1, hc]; omega
set_option maxRecDepth 10000 in
set_option maxHeartbeats 8000000 in
theorem limitsOrder_any (w : World) (x : FV) (F : Fld) (ar : Option Addr) (cr : Nat) (l : List Rcd) (turn : Int) (day : Int) (i s : Int) (j t : Int) (si ss sa sb : Int) (h : FldAt w x F) (hr : RcdsAt w ar l) (hn : l.length ≤ 9223372036854775807) (hd : ∀ r ∈ l, r.deed.size ≤ 9223372036854775807) (hk : ∀ r ∈ l, 0 ≤ r.call.kind ∧ r.call.kind ≤ 255) :
 Calls Tryz.prog 5 #[x.val F, .slice ar l.length cr, .int .i64 turn, .int .i64 day, .agg #[.int .i64 i, .int .i64 s], .agg #[.int .i64 j, .int .i64 t], .agg #[.int .i64 si, .int .i64 ss, .int .i64 sa, .int .i64 sb]] w fun e w' => e = .returned (.bool true) ∧ Below w.heap.size w w' := by
 obtain ⟨w0, hw0⟩ : ∃ W, W = (((w.alloc (.cells (x.arr F) 27)).alloc (.cells #[.int .i64 i, .int .i64 s] 30)).alloc (.cells #[.int .i64 j, .int .i64 t] 30)).alloc (.cells #[.int .i64 si, .int .i64 ss, .int .i64 sa, .int .i64 sb] 40) := ⟨_, rfl⟩
 have B0 := hidE (show Below w.heap.size w w0 by rw [hw0]; exact ((((Below.refl _ _).alloc (Nat.le_refl _) _).alloc (by simp) _).alloc (by simp; omega) _).alloc (by simp; omega) _)
 have X0 := hidE (show Kb [(w.heap.size + 1 + 1 + 1, .cells #[.int .i64 si, .int .i64 ss, .int .i64 sa, .int .i64 sb] 40), (w.heap.size + 1 + 1, .cells #[.int .i64 j, .int .i64 t] 30), (w.heap.size + 1, .cells #[.int .i64 i, .int .i64 s] 30), (w.heap.size, .cells (x.arr F) 27)] w0 by
  rw [hw0]
  have := Kb.alloc (o := .cells #[.int .i64 si, .int .i64 ss, .int .i64 sa, .int .i64 sb] 40) (Kb.alloc (o := .cells #[.int .i64 j, .int .i64 t] 30) (Kb.alloc (o := .cells #[.int .i64 i, .int .i64 s] 30) (Kb.alloc (W := w) (o := .cells (x.arr F) 27) (L := []) trivial)))
  simpa using this)
 have HF := hidE (fun W (hb : Below w0.heap.size w0 W) => (h.below B0.out).below hb)
 have HRR := hidE (fun W (hb : Below w0.heap.size w0 W) => (hr.below B0.out (Nat.le_refl _)).below hb (Nat.le_refl _))
 have HSM := hidE (smallL_any w0 x F ar cr l (h.below B0.out) (hr.below B0.out (Nat.le_refl _)) hn hd)
 have HSV := hidE (fun W => surveyed_any W)
 have HRC := hidE (fun (q : smallB F l = true) => And.intro (small_facts q) (small_recs q hk))
 obtain ⟨sm, hsm⟩ : ∃ b, smallB F l = b := ⟨_, rfl⟩
 rw [hsm] at HSM HRC
 have k0 := rowc X0.out.2.2.2.1
 have k1 := rowc X0.out.2.2.1
 have k2 := rowc X0.out.2.1
 have k3 := rowc X0.out.1
 unfold FV.arr at k0
 unfold FV.val FV.arr at HSM
 clear h hr hn hd hk hsm
 go_enter Tryz.func5, Tryz.ntmps5
 go_upto_region 1 with fail
 try unfold FV.val FV.arr
 rw [show (((w.alloc (.cells #[.slice x.aS F.sts.length x.cS, .slice x.aL F.lms.length x.cL, .slice x.aP F.prs.length x.cP, .slice x.aV F.vrs.length x.cV] 27)).alloc (.cells #[.int .i64 i, .int .i64 s] 30)).alloc (.cells #[.int .i64 j, .int .i64 t] 30)).alloc (.cells #[.int .i64 si, .int .i64 ss, .int .i64 sa, .int .i64 sb] 40) = w0 from hw0.symm]
 clear hw0
 go_wp2_with fail
 refine HSM.out.mono ?_
 rintro e w1 ⟨rfl, hb1⟩
 have BB1 := hidE hb1
 have X1 := hidE (X0.out.next hb1)
 clear hb1 k0 k1 k2 k3 HSM X0
 cases sm
 ·go_wp2_with fail
  refine (HSV.out _).mono ?_
  rintro e wz ⟨rfl, hbz⟩
  have BZ := hidE (B0.out.trans ((BB1.out.trans (hbz.mono BB1.out.size)).mono B0.out.size))
  clear hbz
  go_wp2_with fail
  go_ret
  exact ⟨rfl, BZ.out⟩
 obtain ⟨⟨⟨f1, f2, f3⟩, f4, f5⟩, hn5, hk5⟩ := HRC.out (by trivial)
 have HCH := hidE (fun W (hb : Below w0.heap.size w0 W) => checkR_any W x F ar cr l (HF.out W hb) (HRR.out W hb) hn5 hk5)
 have HCF := hidE (fun W (hb : Below w0.heap.size w0 W) a9 c9 (z : List Rcd) (hz : z.length ≤ 100000) (hk9 : ∀ r ∈ z, (0 ≤ r.call.kind ∧ r.call.kind ≤ 255) ∧ r.deed.size ≤ 9223372036854775807) (hr9 : RcdsAt W a9 z) => conflictL_any W x F a9 c9 z (HF.out W hb) hr9 hz hk9)
 have HRL := hidE (fun W (hb : Below w0.heap.size w0 W) a9 c9 (z : List Rcd) (hz : z.length ≤ 100000) (hk9 : ∀ r ∈ z, (0 ≤ r.call.kind ∧ r.call.kind ≤ 255) ∧ r.deed.size ≤ 9223372036854775807) (hr9 : RcdsAt W a9 z) => regionL_any W x F a9 c9 z i s (HF.out W hb) hr9 hz hk9)
 have HWI := hidE (fun W (hb : Below w0.heap.size w0 W) a9 c9 (z : List Rcd) (hz : z.length ≤ 100000) (hk9 : ∀ r ∈ z, (0 ≤ r.call.kind ∧ r.call.kind ≤ 255) ∧ r.deed.size ≤ 9223372036854775807) (hr9 : RcdsAt W a9 z) => widthL_any W x F a9 c9 z i s j t (HF.out W hb) hr9 hz hk9)
 have HAW := hidE (fun W (hb : Below w0.heap.size w0 W) a9 c9 (z : List Rcd) (hz : z.length ≤ 100000) (hk9 : ∀ r ∈ z, (0 ≤ r.call.kind ∧ r.call.kind ≤ 255) ∧ r.deed.size ≤ 9223372036854775807) (hr9 : RcdsAt W a9 z) => awardL_any W x F a9 c9 z si ss sa sb (HF.out W hb) hr9 hz hk9)
 have HKL := hidE hk5
 have HLN := hidE f4
 have HGD := hidE (fun (q : (checkE F l).2 = 0) => (check_iff F l).1 q)
 obtain ⟨⟨C1, C2⟩, hp⟩ : ∃ p, checkE F l = p := ⟨_, rfl⟩
 rw [hp] at HCH HGD
 dsimp only at HGD
 clear hp f1 f2 f3 f4 f5 hn5 hk5 HRC
 have k0 := rowc X1.out.2.2.2.1
 have k1 := rowc X1.out.2.2.1
 have k2 := rowc X1.out.2.1
 have k3 := rowc X1.out.1
 unfold FV.arr at k0
 have HC := hidE (HCH.out w1 BB1.out)
 try unfold FV.val FV.arr at HC
 go_wp2_with fail
 refine HC.out.mono ?_
 rintro e w2 ⟨rfl, hb⟩
 have BB2 := hidE (BB1.out.trans (hb.mono BB1.out.size))
 have X2 := hidE (X1.out.next hb)
 clear hb k0 k1 k2 k3 HC BB1 X1 HCH
 by_cases h0 : C2 = 0
 rotate_left
 ·have hzb : (C2 != 0) = true := by simpa using h0
  clear h0 HGD HCF HRL HWI HAW
  go_wp2_with fail
  refine (HSV.out _).mono ?_
  rintro e wz ⟨rfl, hbz⟩
  have BZ := hidE (B0.out.trans ((BB2.out.trans (hbz.mono BB2.out.size)).mono B0.out.size))
  clear hbz
  go_wp2_with fail
  go_ret
  exact ⟨rfl, BZ.out⟩
 subst h0
 by_cases d1 : day < 0
 ·clear HGD HCF HRL HWI HAW
  go_wp2_with fail
  refine (HSV.out _).mono ?_
  rintro e wz ⟨rfl, hbz⟩
  have BZ := hidE (B0.out.trans ((BB2.out.trans (hbz.mono BB2.out.size)).mono B0.out.size))
  clear hbz
  go_wp2_with fail
  go_ret
  exact ⟨rfl, BZ.out⟩
 by_cases d2 : 100000 < day
 ·clear HGD HCF HRL HWI HAW
  go_wp2_with fail
  refine (HSV.out _).mono ?_
  rintro e wz ⟨rfl, hbz⟩
  have BZ := hidE (B0.out.trans ((BB2.out.trans (hbz.mono BB2.out.size)).mono B0.out.size))
  clear hbz
  go_wp2_with fail
  go_ret
  exact ⟨rfl, BZ.out⟩
 by_cases d3 : l.length = 0
 ·have d4 : ((l.length : Int) == 0) = true := by rw [d3]; rfl
  clear HGD HCF HRL HWI HAW
  go_wp2_with fail
  refine (HSV.out _).mono ?_
  rintro e wz ⟨rfl, hbz⟩
  have BZ := hidE (B0.out.trans ((BB2.out.trans (hbz.mono BB2.out.size)).mono B0.out.size))
  clear hbz
  go_wp2_with fail
  go_ret
  exact ⟨rfl, BZ.out⟩
 have d4 : ((l.length : Int) == 0) = false := by rw [beq_eq_false_iff_ne]; omega
 have d5 : ¬ (l.length : Int) = 0 := by omega
 have hG := HGD.out (by trivial)
 have HG := hidE hG
 have hl14 := HLN.out
 obtain ⟨kk, hkk, hU1, hU2, hU3, hU4⟩ := turn_num (turn := turn) (n := l.length) (by omega) hl14
 have hUn : IntKind.u64.wrap (l.length : Int) = (l.length : Int) := by simp [IntKind.wrap, IntKind.bits, IntKind.signed]; omega
 obtain ⟨U, hU⟩ : ∃ U, IntKind.u64.wrap turn = U := ⟨_, rfl⟩
 rw [hU] at hU1 hU2 hU3 hU4
 have HOT := hidE (ord_turn hG (by omega : l.length ≤ 60) (k := kk) (day := day) (by omega) (by omega) hkk)
 have HOB := hidE (ord_back hG (by omega : l.length ≤ 60))
 clear hG HGD
 go_upto_block 0 with fail
 go_cut [17] (fun v wx => Hid (wx.ownsRow w2.heap.size 50 18 v (turnL l kk day).length ((turnL l kk day).flatMap Rcd.cells)) ∧ Hid (Below w2.heap.size w2 wx))
 case first =>
  go_wp2_with fail
  go_loopw [17, 18] (fun v p wr => ∃ (k : Nat), k ≤ l.length ∧ p = .int .i64 (k : Int) ∧ Hid (wr.ownsRow w2.heap.size 50 18 v (turnT l kk day k).length ((turnT l kk day k).flatMap Rcd.cells)) ∧ Hid (Below w2.heap.size w2 wr)) (fun _ p _ => l.length - (intOf p).toNat)
  case atStart => exact ⟨0, Nat.zero_le _, rfl, hidE (World.ownsRow_nil _ _ _ _), hidE (Below.refl _ _)⟩
  case round =>
   obtain ⟨k, hk, rfl, HO, HB⟩ := hrel
   obtain ⟨w4, rfl⟩ : ∃ z : World, z = wr := ⟨wr, rfl⟩
   by_cases hlt : k < l.length
   rotate_left
   ·obtain rfl : k = l.length := by omega
    go_wp2_with fail
    go_meet
    exact ⟨HO, HB⟩
   obtain ⟨j, hj⟩ : ∃ j, (k + kk) % l.length = j := ⟨_, rfl⟩
   have hjl : j < l.length := by rw [← hj]; exact Nat.mod_lt _ (by omega)
   have hJ2 : ((k : Int) + (kk : Int)) % (l.length : Int) = (j : Int) := by rw [← hj]; push_cast; rfl
   have hJ1 : ((k : Int) + (kk : Int)).tmod (l.length : Int) = (j : Int) := by rw [Int.tmod_eq_emod_of_nonneg (by omega)]; exact hJ2
   have BB4 := hidE (BB2.out.trans (HB.out.mono BB2.out.size))
   obtain ⟨rb, ro, e1, hbl, hcc⟩ := RecsAt.at (HRR.out w4 BB4.out) hjl
   have HCC := hidE (range_of_recs hcc)
   have HXF := hidE (show turnF l kk day k = { l[j] with id := 3 * (k : Int) + 2, day := day } by unfold turnF; rw [hj, List.getD_eq_getElem?_getD, List.getElem?_eq_getElem hjl]; rfl)
   have HSN := hidE (turnT_snoc l kk day k)
   rw [HXF.out] at HSN
   have HTL := hidE (turnT_len l kk day k)
   have HRO := hidE (fun W hb => (HRR.out W hb))
   obtain ⟨r, hr⟩ : ∃ r, l[j] = r := ⟨_, rfl⟩
   rw [hr] at HCC HSN
   subst e1
   obtain ⟨xr, hxr⟩ : ∃ x : Rcd, ({ r with id := 3 * (k : Int) + 2, day := day } : Rcd) = x := ⟨_, rfl⟩
   rw [hxr] at HSN
   have HXV := hidE (show (r.vals.setIfInBounds 0 (.int .i64 (3 * (k : Int) + 2))).setIfInBounds 1 (.int .i64 day) = xr.vals by rw [← hxr]; rfl)
   have hjb : (j : Int) < (l.length : Int) := by omega
   have hkb : (k : Int) < (l.length : Int) := by omega
   have hkn : (kk : Int) < (l.length : Int) := by omega
   clear hr hcc hbl hxr HXF hj hkk
   go_upto_region 11 with (first | (refine wpList_load_mid rfl 50 _ rfl rb (ro + j * 18) rfl _ _ HCC.out Tryz.underlying50 rfl (by kernel_rfl) ?_) | (refine wpList_store_row rfl 50 _ _ rfl w4.heap.size r.vals rfl rfl 50 _ (heap_alloc_new _ _) (by kernel_rfl) (by kernel_rfl) (by simp [Rcd.vals, Value.oneCell']) ?_; rw [World.setRow_alloc_new]))
   refine wp_nm ?_
   intro W5 hW5
   have HO5 := hidE (own_edit HO.out (.cells r.vals 50) (.int .i64 (3 * (k : Int) + 2)) (.int .i64 day))
   have hb5 : Below w4.heap.size w4 W5 := by rw [hW5]; exact (Below.refl _ _).alloc (Nat.le_refl _) _
   have X5 := (show W5.heap[w4.heap.size]? = some (.cells r.vals 50 (0,0)) by rw [hW5]; exact heap_alloc_new _ _)
   obtain ⟨W6, hW6⟩ : ∃ W, W = (W5.setCell ⟨w4.heap.size, 0, none⟩ (.int .i64 (3 * (k : Int) + 2))).setCell ⟨w4.heap.size, 1, none⟩ (.int .i64 day) := ⟨_, rfl⟩
   rw [← hW5, ← hW6] at HO5
   have hb6 : Below w4.heap.size w4 W6 := by rw [hW6]; exact (hb5.setCell (by dsimp only; omega) _).setCell (by dsimp only; omega) _
   have X6 := hidE (show W6.heap[w4.heap.size]? = some (.cells xr.vals 50 (0,0)) by
    rw [hW6, ← HXV.out]
    exact Go.heap_setCell_same _ _ 1 _ _ _ (Go.heap_setCell_same _ _ 0 _ _ _ X5))
   have HB6 := hidE (HB.out.trans (hb6.mono HB.out.size))
   have kx := rowc X5
   have fx0 := cf (i := 0) X5
   have fx1 := cf (i := 1) X5
   obtain ⟨A, hA⟩ : ∃ A, w4.heap.size = A := ⟨_, rfl⟩
   rw [hA] at X6 hW6 kx fx0 fx1 ⊢
   have HW6 := hidE hW6
   clear hW5 hb5 X5 HO HB hb6 hA hW6 HXV
   unfold Rcd.vals at kx
   go_upto_region 13 with fail
   rw [← HW6.out]
   clear HW6 kx fx0 fx1
   obtain ⟨v', W7, hrun, ho7, hb7, -⟩ := append_rcd HO5.out xr (by have := HTL.out; have := HLN.out; omega) HB6.out.size 28
   rw [HSN.out] at ho7
   have HRUN := hidE hrun
   have HO7 := hidE ho7
   have HB7 := hidE (HB6.out.trans hb7)
   clear hrun ho7 hb7 HO5 HB6
   go_wp2_with (first | (at_builtin; refine wpList_op_append rfl (s := .tmp 98) (x := .tmp 100) (t := 28) rfl rfl rfl HRUN.out ?_) | (refine wpList_load_rowG rfl 50 _ rfl _ rfl A rfl 50 _ (0,0) _ X6.out Tryz.underlying50 rfl (by kernel_rfl) ?_) | (refine Great.wpList_buildSliceTo rfl 28 50 1 _ rfl _ rfl _ rfl Tryz.underlying28 xr.vals (by simp [Act.eval]; exact built_rcd xr) ?_))
   go_roundw
   case rel => exact ⟨k + 1, by omega, by go_num, HO7, HB7⟩
   case measure => simp [intOf]; omega
 case rest =>
 obtain ⟨HOT3, HB3⟩ := hcut
 obtain ⟨v3, rfl⟩ : ∃ z : Value, z = u17 := ⟨u17, rfl⟩
 obtain ⟨w3, rfl⟩ : ∃ z : World, z = wc := ⟨wc, rfl⟩
 have BB3 := hidE (BB2.out.trans (HB3.out.mono BB2.out.size))
 have X3 := hidE (X2.out.next HB3.out)
 obtain ⟨g3, c3, e3, hg3, oj3⟩ := oj_owned HOT3.out (by rw [HOT.out.len]; omega)
 rw [HOT.out.len] at e3
 subst e3
 have OJ3 := hidE oj3
 have HG3 := hidE hg3
 have HRR3 := hidE (fun W (hb : Below w3.heap.size w3 W) => HRR.out W (BB3.out.trans (hb.mono BB3.out.size)))
 have HS02 := hidE BB2.out.size
 have HB23 := hidE HB3.out
 clear oj3 hg3 HOT3 HB3 BB2 X3 hU1 hU2 hU3 hU4 hUn hU hkk
 obtain ⟨eb, heb⟩ : ∃ b, (turn.tmod 2 == 0) = b := ⟨_, rfl⟩
 go_upto_if 104 with fail
 clear heb
 go_cut [] (fun wx => ∃ m : List Rcd, Hid (Ord F l m) ∧ Hid (RcdsAt wx (some ⟨g3, 0, none⟩) m) ∧ Hid (Below w2.heap.size w3 wx))
 case first =>
  cases eb
  ·go_wp2_with fail
   go_meet
   exact ⟨_, HOT, hidE OJ3.out.r, hidE (Below.refl _ _)⟩
  have HOJ0 : Hid (OJ g3 (mixL l kk day 0) w3) := hidE (by rw [mix_zero]; exact OJ3.out)
  have HML := hidE (mix_len l kk day)
  have HMA := hidE (mix_all l kk day)
  clear OJ3
  go_wp2_with fail
  go_loopw [20] (fun p wr => ∃ (k : Nat), k ≤ l.length ∧ p = .int .i64 (k : Int) ∧ Hid (OJ g3 (mixL l kk day k) wr) ∧ Hid (Below w2.heap.size w3 wr)) (fun p _ => l.length - (intOf p).toNat)
  case atStart => exact ⟨0, Nat.zero_le _, rfl, HOJ0, hidE (Below.refl _ _)⟩
  case round =>
   obtain ⟨k, hk, rfl, HO, HB⟩ := hrel
   obtain ⟨w4, rfl⟩ : ∃ z : World, z = wr := ⟨wr, rfl⟩
   by_cases hlt : k < l.length
   rotate_left
   ·obtain rfl : k = l.length := by omega
    go_wp2_with fail
    go_meet
    exact ⟨_, HOB, hidE (by have := HO.out.r; rw [HMA.out] at this; exact this), HB⟩
   obtain ⟨j, hj⟩ : ∃ j, l.length - 1 - k = j := ⟨_, rfl⟩
   have hjl : j < l.length := by omega
   have hJ : (l.length : Int) - 1 - (k : Int) = (j : Int) := by omega
   have BB4 := hidE (BB3.out.trans (HB.out.mono HS02.out))
   obtain ⟨rb, ro, e1, hbl, hcc⟩ := RecsAt.at (HRR.out w4 BB4.out) hjl
   have HCC := hidE (range_of_recs hcc)
   have HXF := hidE (show backF l k = { l[j] with id := (k : Int) + 1 } by unfold backF; rw [hj, List.getD_eq_getElem?_getD, List.getElem?_eq_getElem hjl]; rfl)
   have HMS := hidE (mix_set l kk day k)
   rw [HXF.out] at HMS
   obtain ⟨r, hr⟩ : ∃ r, l[j] = r := ⟨_, rfl⟩
   rw [hr] at HCC HMS
   subst e1
   obtain ⟨xr, hxr⟩ : ∃ x : Rcd, ({ r with id := (k : Int) + 1 } : Rcd) = x := ⟨_, rfl⟩
   rw [hxr] at HMS
   have HXV := hidE (show r.vals.setIfInBounds 0 (.int .i64 ((k : Int) + 1)) = xr.vals by rw [← hxr]; rfl)
   have hjb : (j : Int) < (l.length : Int) := by omega
   have hkb : (k : Int) < (l.length : Int) := by omega
   have hk0 : (0 : Int) ≤ (k : Int) := by omega
   clear hr hcc hbl hxr HXF hj
   go_upto_region 19 with (first | (refine wpList_load_mid rfl 50 _ rfl rb (ro + j * 18) rfl _ _ HCC.out Tryz.underlying50 rfl (by kernel_rfl) ?_) | (refine wpList_store_row rfl 50 _ _ rfl w4.heap.size r.vals rfl rfl 50 _ (heap_alloc_new _ _) (by kernel_rfl) (by kernel_rfl) (by simp [Rcd.vals, Value.oneCell']) ?_; rw [World.setRow_alloc_new]))
   refine wp_nm ?_
   intro W5 hW5
   have hb5 : Below w4.heap.size w4 W5 := by rw [hW5]; exact (Below.refl _ _).alloc (Nat.le_refl _) _
   have X5 := (show W5.heap[w4.heap.size]? = some (.cells r.vals 50 (0,0)) by rw [hW5]; exact heap_alloc_new _ _)
   obtain ⟨W6, hW6⟩ : ∃ W, W = W5.setCell ⟨w4.heap.size, 0, none⟩ (.int .i64 ((k : Int) + 1)) := ⟨_, rfl⟩
   have hb6 : Below w4.heap.size w4 W6 := by rw [hW6]; exact hb5.setCell (by dsimp only; omega) _
   have X6 := hidE (show W6.heap[w4.heap.size]? = some (.cells xr.vals 50 (0,0)) by
    rw [hW6, ← HXV.out]
    exact Go.heap_setCell_same _ _ 0 _ _ _ X5)
   have hsz4 : w2.heap.size ≤ w4.heap.size := Nat.le_trans HB23.out.size HB.out.size
   have HB6 := HB.out.trans (hb6.mono hsz4)
   have OJ6 := HO.out.next hb6
   have hkm : k < (mixL l kk day k).length := by rw [HML.out]; exact hlt
   have HTH := hidE (OJ6.there hkm)
   have OJ7 := hidE (OJ6.put hkm xr)
   rw [HMS.out] at OJ7
   have HB7 := hidE (below_cells9 HB6 HG3.out xr.vals.toList (k * 18))
   have kx := rowc X5
   have fx0 := cf (i := 0) X5
   obtain ⟨A, hA⟩ : ∃ A, w4.heap.size = A := ⟨_, rfl⟩
   rw [hA] at X6 hW6 kx fx0 ⊢
   have HW6 := hidE hW6
   clear hW5 hb5 X5 HO HB hb6 hA hW6 HXV hsz4 HB6 OJ6 hkm
   unfold Rcd.vals at kx
   go_upto_region 20 with fail
   rw [← HW6.out]
   clear HW6 kx fx0
   have hrs := run_cells9 xr HTH.out
   obtain ⟨W7, hW7⟩ : ∃ W, W6.setCells g3 (k * 18) xr.vals.toList = W := ⟨_, rfl⟩
   obtain ⟨XL, hXL⟩ : ∃ L, xr.vals.toList = L := ⟨_, rfl⟩
   obtain ⟨XV, hXV⟩ : ∃ L, xr.vals = L := ⟨_, rfl⟩
   have HXS := hidE (show XV.size = 18 by rw [← hXV]; rfl)
   have HXT := hidE (show XV.toList = XL by rw [← hXV]; exact hXL)
   rw [hW7] at hrs OJ7 HB7
   rw [hXL] at hrs
   rw [hXV] at X6
   rw [← HXT.out] at hrs
   clear hW7 hXL hXV HTH HCC
   go_wp2_with (refine wpList_load_rowG rfl 50 _ rfl _ rfl A rfl 50 _ (0,0) _ X6.out Tryz.underlying50 rfl (by rw [HXS.out]; kernel_rfl) ?_)
   go_roundw
   case rel => exact ⟨k + 1, by omega, by go_num, OJ7, HB7⟩
   case measure => simp [intOf]; omega
 case rest =>
 obtain ⟨m, HOM, HRM, HB5⟩ := hcut
 obtain ⟨w5, rfl⟩ : ∃ z : World, z = wc := ⟨wc, rfl⟩
 have BB5 := hidE (BB3.out.trans (HB5.out.mono HS02.out))
 have X5 := hidE (X2.out.next (HB23.out.trans HB5.out))
 have LM5 := hidE HRM.out
 have HS := hidE (order_spec HG.out HOM.out)
 have HKM := hidE (ord_kd HOM.out HKL.out)
 have HML := hidE HOM.out.len
 have HM1 := hidE (show m.length ≤ 100000 by rw [HOM.out.len]; have := HLN.out; omega)
 have HC1 := hidE (fun W hb => HCF.out W hb ar cr l (by have := HLN.out; omega) HKL.out (HRR.out W hb))
 have HC2 := hidE (fun W hb a9 c9 hr9 => HCF.out W hb a9 c9 m HM1.out HKM.out hr9)
 have HR1 := hidE (fun W hb => HRL.out W hb ar cr l (by have := HLN.out; omega) HKL.out (HRR.out W hb))
 have HR2 := hidE (fun W hb a9 c9 hr9 => HRL.out W hb a9 c9 m HM1.out HKM.out hr9)
 have HW1 := hidE (fun W hb => HWI.out W hb ar cr l (by have := HLN.out; omega) HKL.out (HRR.out W hb))
 have HW2 := hidE (fun W hb a9 c9 hr9 => HWI.out W hb a9 c9 m HM1.out HKM.out hr9)
 have HA1 := hidE (fun W hb => HAW.out W hb ar cr l (by have := HLN.out; omega) HKL.out (HRR.out W hb))
 have HA2 := hidE (fun W hb a9 c9 hr9 => HAW.out W hb a9 c9 m HM1.out HKM.out hr9)
 obtain ⟨s1, s2, s3, s4, s5⟩ := HS.out
 rw [← s3 i s] at HR2
 rw [← s4 i s j t] at HW2
 rw [← s5 si ss sa sb] at HA2
 rw [s1] at HC1
 rw [s2] at HC2
 rw [HML.out] at HC2 HR2 HW2 HA2
 obtain ⟨CB, hCB⟩ : ∃ b, (conflictE F m).2.1 = b := ⟨_, rfl⟩
 obtain ⟨CI1, hCI1⟩ : ∃ b, (conflictE F l).1 = b := ⟨_, rfl⟩
 obtain ⟨CI2, hCI2⟩ : ∃ b, (conflictE F m).1 = b := ⟨_, rfl⟩
 obtain ⟨⟨q1, q2, q3⟩, hq⟩ : ∃ q, regionE F l i s = q := ⟨_, rfl⟩
 obtain ⟨⟨r1, r2, r3⟩, hr⟩ : ∃ q, widthE F l i s j t = q := ⟨_, rfl⟩
 obtain ⟨⟨z1, z2⟩, hz⟩ : ∃ q, awardE F l si ss sa sb = q := ⟨_, rfl⟩
 rw [hCB] at HC1 HC2
 rw [hCI1] at HC1
 rw [hCI2] at HC2
 rw [hq] at HR1 HR2
 rw [hr] at HW1 HW2
 rw [hz] at HA1 HA2
 obtain ⟨n1, hn1⟩ : ∃ n, CI1.length = n := ⟨_, rfl⟩
 obtain ⟨n2, hn2⟩ : ∃ n, CI2.length = n := ⟨_, rfl⟩
 have HN1 := hidE hn1
 have HN2 := hidE hn2
 clear s1 s2 s3 s4 s5 hCB hCI1 hCI2 hq hr hz hn1 hn2 HCF HRL HWI HAW HS HOM HRM HB5 BB3 X2 HB23 HS02 HOT HOB OJ3 HG3 HRR3 HKM HML HM1
 have k0 := rowc X5.out.2.2.2.1
 have k1 := rowc X5.out.2.2.1
 have k2 := rowc X5.out.2.1
 have k3 := rowc X5.out.1
 unfold FV.arr at k0
 have HC := hidE (HC1.out w5 BB5.out)
 try unfold FV.val FV.arr at HC
 go_wp2_with fail
 refine HC.out.mono ?_
 rintro e w6 ⟨⟨v1, rfl, o1⟩, hb⟩
 have BB6 := hidE (BB5.out.trans (hb.mono BB5.out.size))
 have X6 := hidE (X5.out.next hb)
 have LM6 := hidE (LM5.out.below hb (Nat.le_refl _))
 obtain ⟨a8, c8, rfl, -⟩ := owns_intsAt o1
 simp only [HN1.out]
 clear hb k0 k1 k2 k3 HC BB5 X5 LM5 HC1 o1
 have k0 := rowc X6.out.2.2.2.1
 have k1 := rowc X6.out.2.2.1
 have k2 := rowc X6.out.2.1
 have k3 := rowc X6.out.1
 unfold FV.arr at k0
 have HC := hidE (HC2.out w6 BB6.out _ c3 LM6.out)
 try unfold FV.val FV.arr at HC
 go_wp2_with fail
 refine HC.out.mono ?_
 rintro e w7 ⟨⟨v1, rfl, o1⟩, hb⟩
 have BB7 := hidE (BB6.out.trans (hb.mono BB6.out.size))
 have X7 := hidE (X6.out.next hb)
 have LM7 := hidE (LM6.out.below hb (Nat.le_refl _))
 obtain ⟨a9, c9, rfl, -⟩ := owns_intsAt o1
 simp only [HN2.out]
 clear hb k0 k1 k2 k3 HC BB6 X6 LM6 HC2 o1
 have k0 := rowc X7.out.2.2.2.1
 have k1 := rowc X7.out.2.2.1
 have k2 := rowc X7.out.2.1
 have k3 := rowc X7.out.1
 unfold FV.arr at k0
 have HC := hidE (HR1.out w7 BB7.out)
 try unfold FV.val FV.arr at HC
 go_wp2_with fail
 refine HC.out.mono ?_
 rintro e w8 ⟨rfl, hb⟩
 have BB8 := hidE (BB7.out.trans (hb.mono BB7.out.size))
 have X8 := hidE (X7.out.next hb)
 have LM8 := hidE (LM7.out.below hb (Nat.le_refl _))
 clear hb k0 k1 k2 k3 HC BB7 X7 LM7 HR1
 have k0 := rowc X8.out.2.2.2.1
 have k1 := rowc X8.out.2.2.1
 have k2 := rowc X8.out.2.1
 have k3 := rowc X8.out.1
 unfold FV.arr at k0
 have HC := hidE (HR2.out w8 BB8.out _ c3 LM8.out)
 try unfold FV.val FV.arr at HC
 go_wp2_with fail
 refine HC.out.mono ?_
 rintro e w9 ⟨rfl, hb⟩
 have BB9 := hidE (BB8.out.trans (hb.mono BB8.out.size))
 have X9 := hidE (X8.out.next hb)
 have LM9 := hidE (LM8.out.below hb (Nat.le_refl _))
 clear hb k0 k1 k2 k3 HC BB8 X8 LM8 HR2
 have k0 := rowc X9.out.2.2.2.1
 have k1 := rowc X9.out.2.2.1
 have k2 := rowc X9.out.2.1
 have k3 := rowc X9.out.1
 unfold FV.arr at k0
 have HC := hidE (HW1.out w9 BB9.out)
 try unfold FV.val FV.arr at HC
 go_wp2_with fail
 refine HC.out.mono ?_
 rintro e w10 ⟨rfl, hb⟩
 have BB10 := hidE (BB9.out.trans (hb.mono BB9.out.size))
 have X10 := hidE (X9.out.next hb)
 have LM10 := hidE (LM9.out.below hb (Nat.le_refl _))
 clear hb k0 k1 k2 k3 HC BB9 X9 LM9 HW1
 have k0 := rowc X10.out.2.2.2.1
 have k1 := rowc X10.out.2.2.1
 have k2 := rowc X10.out.2.1
 have k3 := rowc X10.out.1
 unfold FV.arr at k0
 have HC := hidE (HW2.out w10 BB10.out _ c3 LM10.out)
 try unfold FV.val FV.arr at HC
 go_wp2_with fail
 refine HC.out.mono ?_
 rintro e w11 ⟨rfl, hb⟩
 have BB11 := hidE (BB10.out.trans (hb.mono BB10.out.size))
 have X11 := hidE (X10.out.next hb)
 have LM11 := hidE (LM10.out.below hb (Nat.le_refl _))
 clear hb k0 k1 k2 k3 HC BB10 X10 LM10 HW2
 have k0 := rowc X11.out.2.2.2.1
 have k1 := rowc X11.out.2.2.1
 have k2 := rowc X11.out.2.1
 have k3 := rowc X11.out.1
 unfold FV.arr at k0
 have HC := hidE (HA1.out w11 BB11.out)
 try unfold FV.val FV.arr at HC
 go_wp2_with fail
 refine HC.out.mono ?_
 rintro e w12 ⟨rfl, hb⟩
 have BB12 := hidE (BB11.out.trans (hb.mono BB11.out.size))
 have X12 := hidE (X11.out.next hb)
 have LM12 := hidE (LM11.out.below hb (Nat.le_refl _))
 clear hb k0 k1 k2 k3 HC BB11 X11 LM11 HA1
 have k0 := rowc X12.out.2.2.2.1
 have k1 := rowc X12.out.2.2.1
 have k2 := rowc X12.out.2.1
 have k3 := rowc X12.out.1
 unfold FV.arr at k0
 have HC := hidE (HA2.out w12 BB12.out _ c3 LM12.out)
 try unfold FV.val FV.arr at HC
 go_wp2_with fail
 refine HC.out.mono ?_
 rintro e w13 ⟨rfl, hb⟩
 have BB13 := hidE (BB12.out.trans (hb.mono BB12.out.size))
 have X13 := hidE (X12.out.next hb)
 have LM13 := hidE (LM12.out.below hb (Nat.le_refl _))
 clear hb k0 k1 k2 k3 HC BB12 X12 LM12 HA2
 go_wp2_with fail
 refine (HSV.out _).mono ?_
 rintro e wz ⟨rfl, hbz⟩
 have BZ := hidE (B0.out.trans ((BB13.out.trans (hbz.mono BB13.out.size)).mono B0.out.size))
 clear hbz
 go_wp2_with fail
 go_ret
 exact ⟨rfl, BZ.out⟩
end Go.Proofs.YtkhemfnlflbniaaGreatDoor
namespace Go.Proofs.YtkhemfnlflbniaaGreatDoor
open Go Go.ChangeShapes Go.WideShapes Go.ChangeAt Go.RowKit Go.Joins Go.Deep
theorem and2 {a b : Bool} (ha : a = true) (hb : b = true) : (a && b) = true := by rw [ha, hb]; rfl
theorem argOk3 : ArgOk 3 := ⟨by kernel_rfl, of_decide_eq_true (by kernel_rfl)⟩
section
variable {H : Type} {enc : TypeId × Value → H}
theorem trodAll_below {W W' : World} (hb : Below W.heap.size W W') : ∀ (ts : List TypeId) (vs : List Value) (ds : List (DataW H)) (ps : List MemPlace), (∀ t ∈ ts, ArgOk t) → DataW.TrodAll enc Tryz.prog W 0 (fun _ => true) true ts vs ds ps →
 (∀ x ∈ ps, x.block < W.heap.size) → DataW.TrodAll enc Tryz.prog W' 0 (fun b => decide (b < W.heap.size)) true ts vs ds ps
 | [], vs, ds, ps, _, h, _ => by
   obtain ⟨rfl, rfl, rfl⟩ := trodAll_nil h
   exact trodAll_mk0
 | t :: ts, vs, ds, ps, hT, h, hs => by
   obtain ⟨v, vs', d, ds', p, q, rfl, rfl, rfl, h1, h2⟩ := trodAll_cons h
   have ht := hT t (List.mem_cons_self ..)
   exact trodAll_cons_mk (Below.trod Tryz.laidOut ht.1 ht.2 h1 hb (fun x hx => hs x (List.mem_append_left _ hx))) (trodAll_below hb ts vs' ds' q (fun x hx => hT x (List.mem_cons_of_mem _ hx)) h2 (fun x hx => hs x (List.mem_append_right _ hx)))
theorem law_post {f : Func} {s : ChangeSpec} {W W' : World} {args : Array Value} {ds gs : List (DataW H)} {before : List MemPlace}
 (hW : DataW.Whole enc Tryz.prog f.params.toList s.vars false W args.toList ds gs before) (hb : Below W.heap.size W W') (hrt : f.resultTypes = #[4])
 (hts : ∀ t ∈ f.params.toList, ArgOk t) (hsv : s.vars = []) (hfn : s.fn H (ds ++ []) = { results := [.lit (.bool true)], args := ds }) :
 s.post enc Tryz.prog f false true false false W args (.bool true) W' := by
 have hW' := hW
 obtain ⟨p, q, hA, hV, rfl, hfz, hnd⟩ := hW
 have hV' := hV
 rw [hsv] at hV'
 obtain ⟨rfl, rfl⟩ := trodVars_none hV'
 have hlt : ∀ x ∈ p, x.block < W.heap.size := fun x hx => by
  have := hW'.lt x
  exact this (List.mem_append_left _ hx)
 refine ⟨ds, [], p ++ [], [], p, [], hW', ?_, ?_, ?_, hb.frame _, fun h => by cases h⟩
 ·rw [hfn, hrt]
  exact trodAll_cons_mk (shut_bool Tryz.underlying4 _) trodAll_mk0
 ·rw [hfn]
  exact trodAll_below hb _ _ _ _ hts hA hlt
 ·rw [hfn, hsv]
  rfl
set_option maxRecDepth 100000 in
theorem open_num {b0 : Nat} {W : World} {v : Value} {d : DataW H} {p : List MemPlace} (hv : Value.okWide Tryz.prog W .any b0 3 v) (h : DataW.Trod enc Tryz.prog W 0 (fun _ => true) true 3 v d p) : ∃ n : Int, v = .int .i64 n ∧ i64ok n := by
 obtain ⟨n, rfl, _, _, hw⟩ := open_int Tryz.underlying3 hv h
 refine ⟨n, rfl, ?_⟩
 have : IntKind.min .i64 ≤ n ∧ n ≤ IntKind.max .i64 := by simpa [Lit.wf] using hw
 simpa [i64ok, IntKind.min, IntKind.max, IntKind.signed, IntKind.bits] using this
end
theorem argOk46 : ArgOk 27 := ⟨by kernel_rfl, of_decide_eq_true (by kernel_rfl)⟩
section
variable {H : Type} {enc : TypeId × Value → H}
theorem sta_trod {W : World} {n : Nat} {cs : List Value} {y : DataW H × List MemPlace} (hl : cs.length = 2) (h : DataW.trod enc Tryz.prog W 0 (fun _ => true) true n 131 cs = some y) : ∃ s : Sta, cs = s.cells ∧ s.name.size ≤ 9223372036854775807 ∧ i64ok s.x := by
 have c9 : Tryz.prog.cellsOf 9 = 1 := by kernel_rfl
 have c3 : Tryz.prog.cellsOf 3 = 1 := by kernel_rfl
 match cs, hl with
 | [u0, u1], _ =>
   obtain ⟨ys, n2, _, _, _, hyl, hf⟩ := DataW.trod_struct Tryz.underlying131 h
   match ys, hyl with
   | [y0, y1], _ =>
     have f0 : DataW.trod enc Tryz.prog W 0 (fun _ => true) true n2 9 (([u0, u1].drop 0).take (Tryz.prog.cellsOf 9)) = some y0 := hf 0 _ rfl
     have f1 : DataW.trod enc Tryz.prog W 0 (fun _ => true) true n2 3 (([u0, u1].drop 1).take (Tryz.prog.cellsOf 3)) = some y1 := hf 1 _ rfl
     rw [c9] at f0
     rw [c3] at f1
     obtain ⟨k0, rfl, o0⟩ := str_cell (v := u0) (y := y0) f0
     obtain ⟨k1, rfl, o1⟩ := int_cell (v := u1) (y := y1) f1
     exact ⟨⟨k0, k1⟩, rfl, o0, o1⟩
theorem par_trod {W : World} {n : Nat} {cs : List Value} {y : DataW H × List MemPlace} (hl : cs.length = 4) (h : DataW.trod enc Tryz.prog W 0 (fun _ => true) true n 133 cs = some y) : ∃ s : Par, cs = s.cells ∧ s.name.size ≤ 9223372036854775807 ∧ i64ok s.south ∧ i64ok s.wst ∧ i64ok s.est := by
 have c9 : Tryz.prog.cellsOf 9 = 1 := by kernel_rfl
 have c3 : Tryz.prog.cellsOf 3 = 1 := by kernel_rfl
 match cs, hl with
 | [u0, u1, u2, u3], _ =>
   obtain ⟨ys, n2, _, _, _, hyl, hf⟩ := DataW.trod_struct Tryz.underlying133 h
   match ys, hyl with
   | [y0, y1, y2, y3], _ =>
     have f0 : DataW.trod enc Tryz.prog W 0 (fun _ => true) true n2 9 (([u0, u1, u2, u3].drop 0).take (Tryz.prog.cellsOf 9)) = some y0 := hf 0 _ rfl
     have f1 : DataW.trod enc Tryz.prog W 0 (fun _ => true) true n2 3 (([u0, u1, u2, u3].drop 1).take (Tryz.prog.cellsOf 3)) = some y1 := hf 1 _ rfl
     have f2 : DataW.trod enc Tryz.prog W 0 (fun _ => true) true n2 3 (([u0, u1, u2, u3].drop 2).take (Tryz.prog.cellsOf 3)) = some y2 := hf 2 _ rfl
     have f3 : DataW.trod enc Tryz.prog W 0 (fun _ => true) true n2 3 (([u0, u1, u2, u3].drop 3).take (Tryz.prog.cellsOf 3)) = some y3 := hf 3 _ rfl
     rw [c9] at f0
     rw [c3] at f1 f2 f3
     obtain ⟨k0, rfl, o0⟩ := str_cell (v := u0) (y := y0) f0
     obtain ⟨k1, rfl, o1⟩ := int_cell (v := u1) (y := y1) f1
     obtain ⟨k2, rfl, o2⟩ := int_cell (v := u2) (y := y2) f2
     obtain ⟨k3, rfl, o3⟩ := int_cell (v := u3) (y := y3) f3
     exact ⟨⟨k0, k1, k2, k3⟩, rfl, o0, o1, o2, o3⟩
theorem vrn_trod {W : World} {n : Nat} {cs : List Value} {y : DataW H × List MemPlace} (hl : cs.length = 2) (h : DataW.trod enc Tryz.prog W 0 (fun _ => true) true n 253 cs = some y) : ∃ s : Vrn, cs = s.cells ∧ i64ok s.year ∧ i64ok s.east := by
 have c3 : Tryz.prog.cellsOf 3 = 1 := by kernel_rfl
 match cs, hl with
 | [u0, u1], _ =>
   obtain ⟨ys, n2, _, _, _, hyl, hf⟩ := DataW.trod_struct Tryz.underlying253 h
   match ys, hyl with
   | [y0, y1], _ =>
     have f0 : DataW.trod enc Tryz.prog W 0 (fun _ => true) true n2 3 (([u0, u1].drop 0).take (Tryz.prog.cellsOf 3)) = some y0 := hf 0 _ rfl
     have f1 : DataW.trod enc Tryz.prog W 0 (fun _ => true) true n2 3 (([u0, u1].drop 1).take (Tryz.prog.cellsOf 3)) = some y1 := hf 1 _ rfl
     rw [c3] at f0 f1
     obtain ⟨k0, rfl, o0⟩ := int_cell (v := u0) (y := y0) f0
     obtain ⟨k1, rfl, o1⟩ := int_cell (v := u1) (y := y1) f1
     exact ⟨⟨k0, k1⟩, rfl, o0, o1⟩
set_option maxRecDepth 100000 in
theorem open_fld {b0 : Nat} {W : World} {v : Value} {d : DataW H} {p : List MemPlace} (hv : Value.okWide Tryz.prog W .any b0 27 v) (h : DataW.Trod enc Tryz.prog W 0 (fun _ => true) true 27 v d p) :
 ∃ (x : FV) (F : Fld), v = x.val F ∧ FldAt W x F := by
 obtain ⟨v0, v1, v2, v3, y0, y1, y2, y3, n, rfl, _, _, h0, h1, h2, h3⟩ := open_agg4 Tryz.underlying27 (by kernel_rfl) (by kernel_rfl) hv h
 obtain ⟨aS, cS, sts, e0, r0, l0, k0⟩ := recs_trod (k := 2) (f := Sta.cells) (by omega) Tryz.underlying22 (by kernel_rfl) (fun n cs y hl hh => sta_trod hl hh) h0
 obtain ⟨aL, cL, lms, e1, r1, l1, k1⟩ := recs_trod (k := 1) (f := strCells) (by omega) Tryz.underlying23 (by kernel_rfl) (fun n cs y hl hh => by
  match cs, hl with
  | [u], _ =>
    obtain ⟨s, rfl, hs⟩ := str_cell hh
    exact ⟨s, rfl, hs⟩) h1
 obtain ⟨aP, cP, prs, e2, r2, l2, k2⟩ := recs_trod (k := 4) (f := Par.cells) (by omega) Tryz.underlying24 (by kernel_rfl) (fun n cs y hl hh => par_trod hl hh) h2
 obtain ⟨aV, cV, vrs, e3, r3, l3, k3⟩ := recs_trod (k := 2) (f := Vrn.cells) (by omega) Tryz.underlying25 (by kernel_rfl) (fun n cs y hl hh => vrn_trod hl hh) h3
 simp only [List.cons.injEq, and_true] at e0 e1 e2 e3
 subst e0 e1 e2 e3
 refine ⟨⟨aS, cS, aL, cL, aP, cP, aV, cV⟩, ⟨sts, lms, prs, vrs⟩, rfl, r0, r1, r2, r3, l0, l1, l2, l3, ?_, fun s hs => (k0 s hs).2, fun s hs => (k2 s hs).2, k3⟩
 intro l hl s hs
 simp only [Fld.names, List.mem_cons, List.not_mem_nil, or_false] at hl
 rcases hl with rfl | rfl | rfl
 ·obtain ⟨t, ht, rfl⟩ := List.mem_map.1 hs
  exact (k0 t ht).1
 ·exact k1 s hs
 ·obtain ⟨t, ht, rfl⟩ := List.mem_map.1 hs
  exact (k2 t ht).1
end
end Go.Proofs.YtkhemfnlflbniaaGreatDoor
