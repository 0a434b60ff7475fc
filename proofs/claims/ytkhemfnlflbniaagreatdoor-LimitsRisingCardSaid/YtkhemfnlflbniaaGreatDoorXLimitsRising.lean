/- What the law LimitsRising needs beyond the base: Lm2, Lm5, Lm7, F1, Fr, Frf. No conditions beyond those stated. -/
import Derived.Test.YtkhemfnlflbniaaGreatDoorB09
import Derived.Test.YtkhemfnlflbniaaGreatDoorB08
import Derived.Test.YtkhemfnlflbniaaGreatDoorB05
import Derived.Test.YtkhemfnlflbniaaGreatDoorB01
import Derived.Test.YtkhemfnlflbniaaGreatDoorB07
import Derived.Test.YtkhemfnlflbniaaGreatDoorB06
import Derived.Test.YtkhemfnlflbniaaGreatDoorB04
import Derived.Shelf.Small.Bits
import Derived.Shelf.Strconv.Itoa0
import Derived.Shelf.Sort.Plain
import Derived.Shelf.Slices.Turned
import Derived.Ground.Names2Prog
import Derived.Shelf.Slices.CompactI
import Derived.Shelf.Slices.SearchI
import Derived.Shelf.Slices.Cells
import Derived.Shelf.Slices.In.SortNone
import Derived.Test.YtkhemfnlflbniaaGreatDoorProg
import Derived.Test.YtkhemfnlflbniaaGreatDoorB03
import Derived.Test.YtkhemfnlflbniaaGreatDoorB02
import Derived.WalkKit
import Derived.Handy
import Derived.RangeFuncRecord
import Derived.Shelf.Abstract
import Derived.Deep.QuietTactic
import Derived.BigQuiet
import Derived.Laws.CopyOwn
import Derived.WalkSmall
import Derived.RangeFuncNested
import Derived.RangeFuncBound
import Derived.RangeFuncCalls
import Derived.RangeFuncLeaves
import Derived.Shelf.RegionOpen
import Derived.OwnWalkIn
import Derived.TacticsInMore
import Derived.LoopNIn
import Derived.LoopIn
import Derived.Maps.AppendAt
import Derived.Deep.Onto
import Derived.OrdersHeld
import Derived.Deep.LoopGhost
import Derived.Deep.WholeRow
import Derived.Deep.OwnRows
import Derived.StillTailTactics
import Derived.Great.Walk
import Derived.Great.BuildSlice
import Derived.WalkMore
import Derived.Deep.MidRow
import Derived.Deep.RegionHeld3
import Derived.Deep.DeepCutAuto
import Derived.Lib.OwnBridge
import Derived.Lib.SliceRun
import Derived.WalkSpells
import Derived.Deep.RegionWith
import Derived.Lib.AppendZerosOnto
import Derived.Deep.CutBlock
import Derived.IntWalk
import Derived.Test.YtkhemfnlflbniaaGreatDoorB10
import Derived.Test.YtkhemfnlflbniaaGreatDoorB15
import Derived.Test.YtkhemfnlflbniaaGreatDoorB13
import Derived.Test.YtkhemfnlflbniaaGreatDoorB12
import Derived.Test.YtkhemfnlflbniaaGreatDoorB11
import Derived.Deep.Cut
import Derived.Laws.Rows
import Derived.Laws.Tables
import Derived.Laws.StructEq
import Derived.OrdersIn
import Derived.RangeFuncBox
import Derived.Test.YtkhemfnlflbniaaGreatDoorB14
import Derived.Test.YtkhemfnlflbniaaGreatDoorRows
import Derived.ProofKit
import Derived.OpenShut
import Derived.Carry
import Derived.Lib.SmallJoins
import Derived.Deep.Slices
import Derived.ChangeMaps5
namespace Go.Proofs.YtkhemfnlflbniaaGreatDoor
theorem Tied.n0 {N : Nat} {bs : List Bd} (T : Tied N bs) : 1 ≤ N := by obtain ⟨t, _, H⟩ := T.net; exact H.n0
theorem far_takes {N : Nat} {bs : List Bd} (T : Tied N bs) {a b : Nat} (ha : a < N) (hb : b < N) : (farV N bs a).getD b 0 - (farV N bs a).getD a 0 = distN N bs a b := by
 obtain ⟨t, ht, H⟩ := T.net
 rw [farV_get hb, farV_get ha, dist_self H ht ha]
 omega
theorem drw_ends {F : Fld} {l : List Rcd} (h : Good F l) (ha : agreeB F l = true) {y : List Int} (k : Drw F l y) {p : Nat} (h2 : p < ptN F) : lowE F l p ≤ y.getD p 0 ∧ y.getD p 0 ≤ highE F l p := by
 have T := tied h ha
 have d := tied_dist T k h2 (b := 0) T.n0
 have e := tied_dist T k (a := 0) T.n0 h2
 rw [k.zero] at d e
 unfold lowE highE
 omega
theorem drw_rises {F : Fld} {l : List Rcd} {y : List Int} (k : Drw F l y) {i s : Nat} (hi : i + 1 < F.lms.length) (hs : s < F.sts.length) : y.getD (ptF F (i : Int) (s : Int)).toNat 0 ≤ y.getD (ptF F ((i : Int) + 1) (s : Int)).toNat 0 := by
 have m : (⟨ptF F ((i : Int) + 1) (s : Int), ptF F (i : Int) (s : Int), 0, 0⟩ : Bd) ∈ sysL F l :=
  nat_sub (List.mem_append_right _ (List.mem_flatMap.2 ⟨i, List.mem_range.2 (by omega), List.mem_map.2 ⟨s, List.mem_range.2 hs, rfl⟩⟩))
 have := k.pot _ m
 unfold getI at this
 dsimp at this
 omega
theorem drw_step {F : Fld} {l : List Rcd} {y : List Int} (k : Drw F l y) {i s : Int} (hi : limB F i = true) (hk : limB F (i + 1) = true) (hs : staB F s = true) : y.getD (ptS F i s) 0 ≤ y.getD (ptS F (i + 1) s) 0 := by
 rw [limB_iff] at hi hk
 rw [staB_iff] at hs
 have := drw_rises k (i := i.toNat) (s := s.toNat) (by omega) (by omega)
 rwa [Int.toNat_of_nonneg hi.1, Int.toNat_of_nonneg hs.1] at this
theorem drw_many {F : Fld} {l : List Rcd} {y : List Int} (k : Drw F l y) {s : Int} (hs : staB F s = true) {i : Int} (hi : limB F i = true) : ∀ n : Nat, limB F (i + n) = true → y.getD (ptS F i s) 0 ≤ y.getD (ptS F (i + n) s) 0
 | 0, _ => by simp
 | n + 1, h => by
   have h2 : limB F (i + n) = true := by rw [limB_iff] at *; omega
   have e : i + ((n + 1 : Nat) : Int) = i + (n : Int) + 1 := by omega
   rw [e] at h ⊢
   exact Int.le_trans (drw_many k hs hi n h2) (drw_step k h2 h hs)
theorem drw_up {F : Fld} {l : List Rcd} {y : List Int} (k : Drw F l y) {s i j : Int} (hs : staB F s = true) (hi : limB F i = true) (hj : limB F j = true) (h : i ≤ j) : y.getD (ptS F i s) 0 ≤ y.getD (ptS F j s) 0 := by
 have e : j = i + ((j - i).toNat : Int) := by omega
 rw [e] at hj ⊢
 exact drw_many k hs hi _ hj
theorem ends_up {F : Fld} {l : List Rcd} (h : Good F l) (ha : agreeB F l = true) {s i j : Int} (hs : staB F s = true) (hi : limB F i = true) (hj : limB F j = true) (hij : i ≤ j) :
 lowE F l (ptS F i s) ≤ lowE F l (ptS F j s) ∧ highE F l (ptS F i s) ≤ highE F l (ptS F j s) := by
 have L := last_drw h ha
 have a := drw_up L.1 hs hi hj hij
 have b := drw_up L.2 hs hi hj hij
 have p := ptS_bd hi hs
 have q := ptS_bd hj hs
 rw [highV_get p.2.1, highV_get q.2.1] at a
 rw [lowV_get p.2.1, lowV_get q.2.1] at b
 exact ⟨b, a⟩
theorem width_up {F : Fld} {l : List Rcd} (h : Good F l) (ha : agreeB F l = true) {s i j : Int} (hs : staB F s = true) (hi : limB F i = true) (hj : limB F j = true) (hij : i ≤ j) :
 0 ≤ -distN (ptN F) (sysL F l) (ptS F j s) (ptS F i s) ∧ -distN (ptN F) (sysL F l) (ptS F j s) (ptS F i s) ≤ distN (ptN F) (sysL F l) (ptS F i s) (ptS F j s) ∧ distN (ptN F) (sysL F l) (ptS F i s) (ptS F j s) ≤ highE F l (ptS F j s) - lowE F l (ptS F i s) := by
 have T := tied h ha
 have p := ptS_bd hi hs
 have q := ptS_bd hj hs
 have k1 := far_keeps T q.2.1
 have t1 := far_takes T q.2.1 p.2.1
 have u1 := drw_up k1 hs hi hj hij
 have k2 := far_keeps T p.2.1
 have t2 := far_takes T p.2.1 q.2.1
 have e2 := drw_ends h ha k2 q.2.1
 have e1 := drw_ends h ha k2 p.2.1
 have d := tied_dist T (last_drw h ha).1 p.2.1 q.2.1
 have d2 := tied_dist T (last_drw h ha).1 q.2.1 p.2.1
 omega
theorem flag_zero {b : Bool} : flagE b = 0 ↔ b = true := by cases b <;> simp [flagE]
theorem region_zero {F : Fld} {l : List Rcd} {i s : Int} (h : (regionE F l i s).2.2 = 0) : Good F l ∧ agreeB F l = true ∧ limB F i = true ∧ staB F s = true ∧ regionE F l i s = (lowE F l (ptS F i s), highE F l (ptS F i s), 0) := by
 unfold regionE at h ⊢
 by_cases k : matchE F l (flagE (cornB F i s)) ≠ 0
 ·rw [if_pos k] at h; exact absurd h k
 ·rw [if_neg k]
  have := match_zero.1 (Classical.not_not.1 k)
  have c := flag_zero.1 this.2.1
  unfold cornB at c
  rw [Bool.and_eq_true] at c
  exact ⟨this.1, this.2.2, c.1, c.2, rfl⟩
theorem width_of {F : Fld} {l : List Rcd} {i s j t : Int} (h : Good F l) (ha : agreeB F l = true) (hi : limB F i = true) (hs : staB F s = true) (hj : limB F j = true) (ht : staB F t = true) : widthE F l i s j t = (-distN (ptN F) (sysL F l) (ptS F j t) (ptS F i s), distN (ptN F) (sysL F l) (ptS F i s) (ptS F j t), 0) := by
 unfold widthE
 rw [if_neg]
 exact fun q => q (match_zero.2 ⟨h, flag_zero.2 (by unfold cornB; rw [hi, hs, hj, ht]; rfl), ha⟩)
theorem rising_law {F : Fld} {l : List Rcd} {i s : Int} (h1 : (regionE F l i s).2.2 = 0) (h2 : (regionE F l (i + 1) s).2.2 = 0) :
 (regionE F l i s).1 ≤ (regionE F l (i + 1) s).1 ∧ (regionE F l i s).2.1 ≤ (regionE F l (i + 1) s).2.1 ∧ (widthE F l i s (i + 1) s).2.2 = 0 ∧ 0 ≤ (widthE F l i s (i + 1) s).1 ∧ (widthE F l i s (i + 1) s).1 ≤ (widthE F l i s (i + 1) s).2.1 ∧
 (widthE F l i s (i + 1) s).2.1 ≤ (regionE F l (i + 1) s).2.1 - (regionE F l i s).1 := by
 obtain ⟨g, a, hi, hs, e1⟩ := region_zero h1
 obtain ⟨_, _, hj, _, e2⟩ := region_zero h2
 rw [e1, e2, width_of g a hi hs hj hs]
 have u := ends_up g a hs hi hj (by omega)
 have w := width_up g a hs hi hj (by omega)
 exact ⟨u.1, u.2, rfl, w.1, w.2.1, w.2.2⟩
end Go.Proofs.YtkhemfnlflbniaaGreatDoor
namespace Go.Proofs.YtkhemfnlflbniaaGreatDoor
open Go Go.RowKit Go.Shelf
theorem limB_step {F : Fld} {i : Int} (h : limB F i = true) (hl : F.lms.length ≤ 5) : 0 ≤ i ∧ i < 5 := by
 unfold limB at h
 have := inR_iff.1 h
 omega
set_option maxRecDepth 10000 in
set_option maxHeartbeats 4000000 in
theorem limitsRising_any (w : World) (x : FV) (F : Fld) (ar : Option Addr) (cr : Nat) (l : List Rcd) (i s : Int) (h : FldAt w x F) (hr : RcdsAt w ar l) (hn : l.length ≤ 9223372036854775807) (hd : ∀ r ∈ l, r.deed.size ≤ 9223372036854775807) (hk : ∀ r ∈ l, 0 ≤ r.call.kind ∧ r.call.kind ≤ 255) :
 Calls Tryz.prog 4 #[x.val F, .slice ar l.length cr, .agg #[.int .i64 i, .int .i64 s]] w fun e w' => e = .returned (.bool true) ∧ Below w.heap.size w w' := by
 obtain ⟨w0, hw0⟩ : ∃ W, W = (w.alloc (.cells (x.arr F) 27)).alloc (.cells #[.int .i64 i, .int .i64 s] 30) := ⟨_, rfl⟩
 have B0 := hidE (show Below w.heap.size w w0 by rw [hw0]; exact ((Below.refl _ _).alloc (Nat.le_refl _) _).alloc (by simp) _)
 have X0 := hidE (show Kb [(w.heap.size + 1, .cells #[.int .i64 i, .int .i64 s] 30), (w.heap.size, .cells (x.arr F) 27)] w0 by
  rw [hw0]
  have := Kb.alloc (o := .cells #[.int .i64 i, .int .i64 s] 30) (Kb.alloc (W := w) (o := .cells (x.arr F) 27) (L := []) trivial)
  simpa using this)
 have HF := hidE (fun W (hb : Below w0.heap.size w0 W) => (h.below B0.out).below hb)
 have HRR := hidE (fun W (hb : Below w0.heap.size w0 W) => (hr.below B0.out (Nat.le_refl _)).below hb (Nat.le_refl _))
 have HSM := hidE (smallL_any w0 x F ar cr l (h.below B0.out) (hr.below B0.out (Nat.le_refl _)) hn hd)
 have HSV := hidE (fun W => surveyed_any W)
 have HRC := hidE (fun (q : smallB F l = true) => And.intro (small_facts q) (small_recs q hk))
 obtain ⟨sm, hsm⟩ : ∃ b, smallB F l = b := ⟨_, rfl⟩
 rw [hsm] at HSM HRC
 obtain ⟨j, hj⟩ : ∃ j, IntKind.i64.wrap (i + 1) = j := ⟨_, rfl⟩
 have HJ := hidE hj
 have k0 := rowc X0.out.2.1
 have k1 := rowc X0.out.1
 unfold FV.arr at k0
 unfold FV.val FV.arr at HSM
 clear h hr hn hd hk hsm hj
 go_enter Tryz.func4, Tryz.ntmps4
 go_upto_region 1 with fail
 try unfold FV.val FV.arr
 rw [show (w.alloc (.cells #[.slice x.aS F.sts.length x.cS, .slice x.aL F.lms.length x.cL, .slice x.aP F.prs.length x.cP, .slice x.aV F.vrs.length x.cV] 27)).alloc (.cells #[.int .i64 i, .int .i64 s] 30) = w0 from hw0.symm]
 clear hw0
 go_wp2_with fail
 refine HSM.out.mono ?_
 rintro e w1 ⟨rfl, hb1⟩
 have BB1 := hidE hb1
 have X1 := hidE (X0.out.next hb1)
 clear hb1 k0 k1 HSM X0
 cases sm
 ·go_wp2_with fail
  refine (HSV.out _).mono ?_
  rintro e w2 ⟨rfl, hb2⟩
  have B2 := hidE (B0.out.trans ((BB1.out.trans (hb2.mono BB1.out.size)).mono B0.out.size))
  clear hb2
  go_wp2_with fail
  go_ret
  exact ⟨rfl, B2.out⟩
 obtain ⟨⟨⟨f1, f2, f3⟩, -, -⟩, hn5, hk5⟩ := HRC.out rfl
 have HRG := hidE (fun W (hb : Below w0.heap.size w0 W) (i' : Int) => regionL_any W x F ar cr l i' s (HF.out W hb) (HRR.out W hb) hn5 hk5)
 have HWD := hidE (fun W (hb : Below w0.heap.size w0 W) => widthL_any W x F ar cr l i s j s (HF.out W hb) (HRR.out W hb) hn5 hk5)
 have HLW := hidE (fun (a : (regionE F l i s).2.2 = 0) (b : (regionE F l j s).2.2 = 0) => (by
  have lb := limB_step (region_zero a).2.2.1 f2
  have e : j = i + 1 := by rw [← HJ.out]; exact IntWalk.i64_in _ (by omega)
  rw [e] at b ⊢
  have r1 := region_zero a
  have pb := ptS_bd r1.2.2.1 r1.2.2.2.1
  have r2 := region_zero b
  have pb2 := ptS_bd r2.2.2.1 r2.2.2.2.1
  have e1 := ends_bd r1.1 r1.2.1 pb.1 pb.2.1
  have e2 := ends_bd r2.1 r2.2.1 pb2.1 pb2.2.1
  have z := rising_law a b
  rw [r1.2.2.2.2, r2.2.2.2.2] at z ⊢
  exact And.intro z (show 0 ≤ lowE F l (ptS F i s) ∧ lowE F l (ptS F i s) ≤ 100000 ∧ 0 ≤ highE F l (ptS F (i + 1) s) ∧ highE F l (ptS F (i + 1) s) ≤ 100000 by omega) :
   ((regionE F l i s).1 ≤ (regionE F l j s).1 ∧ (regionE F l i s).2.1 ≤ (regionE F l j s).2.1 ∧ (widthE F l i s j s).2.2 = 0 ∧ 0 ≤ (widthE F l i s j s).1 ∧ (widthE F l i s j s).1 ≤ (widthE F l i s j s).2.1 ∧ (widthE F l i s j s).2.1 ≤ (regionE F l j s).2.1 - (regionE F l i s).1) ∧ (0 ≤ (regionE F l i s).1 ∧ (regionE F l i s).1 ≤ 100000 ∧ 0 ≤ (regionE F l j s).2.1 ∧ (regionE F l j s).2.1 ≤ 100000)))
 have HR1 := hidE (HRG.out w1 BB1.out i)
 have HR2 := hidE (fun W hb => HRG.out W hb j)
 obtain ⟨⟨p1, p2, p3⟩, hp⟩ : ∃ p, regionE F l i s = p := ⟨_, rfl⟩
 obtain ⟨⟨q1, q2, q3⟩, hq⟩ : ∃ p, regionE F l j s = p := ⟨_, rfl⟩
 obtain ⟨⟨u1, u2, u3⟩, hu⟩ : ∃ p, widthE F l i s j s = p := ⟨_, rfl⟩
 rw [hp] at HR1 HLW
 rw [hq] at HR2 HLW
 rw [hu] at HWD HLW
 have hj := HJ.out
 unfold FV.val FV.arr at HR1 HR2 HWD
 clear hp hq hu f1 f2 f3 hn5 hk5 HRG HF HRR HRC HJ
 have k0 := rowc X1.out.2.1
 have k1 := rowc X1.out.1
 unfold FV.arr at k0
 go_wp2_with fail
 refine HR1.out.mono ?_
 rintro e w2 ⟨rfl, hb2⟩
 have BB2 := hidE (BB1.out.trans (hb2.mono BB1.out.size))
 have X2 := hidE (X1.out.next hb2)
 have HC := hidE (HR2.out w2 BB2.out)
 clear hb2 k0 k1 X1 HR1 HR2 BB1
 have k0 := rowc X2.out.2.1
 have k1 := rowc X2.out.1
 unfold FV.arr at k0
 go_wp2_with fail
 refine HC.out.mono ?_
 rintro e w3 ⟨rfl, hb3⟩
 have BB3 := hidE (BB2.out.trans (hb3.mono BB2.out.size))
 have X3 := hidE (X2.out.next hb3)
 have HC2 := hidE (HWD.out w3 BB3.out)
 clear hb3 k0 k1 X2 HC HWD BB2
 have k0 := rowc X3.out.2.1
 have k1 := rowc X3.out.1
 unfold FV.arr at k0
 by_cases c : p3 = 0 ∧ q3 = 0
 ·obtain ⟨rfl, rfl⟩ := c
  obtain ⟨⟨z1, z2, z3, z4, z5, z6⟩, y1, y2, y3, y4⟩ := HLW.out rfl rfl
  have z3' : u3 = 0 := z3
  subst z3'
  have d1 : decide (p1 ≤ q1) = true := decide_eq_true z1
  have d2 : decide (p2 ≤ q2) = true := decide_eq_true z2
  have d4 : decide (0 ≤ u1) = true := decide_eq_true z4
  have d5 : decide (u1 ≤ u2) = true := decide_eq_true z5
  have d6 : decide (u2 ≤ q2 - p1) = true := decide_eq_true z6
  have wd : IntKind.i64.wrap (q2 - p1) = q2 - p1 := IntWalk.i64_in _ (by have y1' : 0 ≤ p1 := y1; have y2' : p1 ≤ 100000 := y2; have y3' : 0 ≤ q2 := y3; have y4' : q2 ≤ 100000 := y4; omega)
  clear z1 z2 z3 z4 z5 z6 y1 y2 y3 y4 HLW
  go_wp2_with fail
  refine HC2.out.mono ?_
  rintro e w4 ⟨rfl, hb4⟩
  have BB4 := hidE (BB3.out.trans (hb4.mono BB3.out.size))
  clear hb4 k0 k1 HC2
  go_wp2_with fail
  refine (HSV.out _).mono ?_
  rintro e w5 ⟨rfl, hb5⟩
  have B5 := hidE (B0.out.trans ((BB4.out.trans (hb5.mono BB4.out.size)).mono B0.out.size))
  clear hb5
  go_wp2_with fail
  go_ret
  exact ⟨rfl, B5.out⟩
 ·clear HLW HC2
  by_cases c1 : p3 = 0
  ·have c2 : (q3 != 0) = true := by simpa using fun z => c ⟨c1, z⟩
   subst c1
   clear c
   go_wp2_with fail
   refine (HSV.out _).mono ?_
   rintro e w5 ⟨rfl, hb5⟩
   have B5 := hidE (B0.out.trans ((BB3.out.trans (hb5.mono BB3.out.size)).mono B0.out.size))
   clear hb5
   go_wp2_with fail
   go_ret
   exact ⟨rfl, B5.out⟩
  ·have c2 : (p3 != 0) = true := by simpa using c1
   clear c c1
   go_wp2_with fail
   refine (HSV.out _).mono ?_
   rintro e w5 ⟨rfl, hb5⟩
   have B5 := hidE (B0.out.trans ((BB3.out.trans (hb5.mono BB3.out.size)).mono B0.out.size))
   clear hb5
   go_wp2_with fail
   go_ret
   exact ⟨rfl, B5.out⟩
end Go.Proofs.YtkhemfnlflbniaaGreatDoor
namespace Go.Proofs.YtkhemfnlflbniaaGreatDoor
open Go Go.ChangeShapes Go.WideShapes Go.ChangeAt Go.RowKit Go.Joins Go.Deep
theorem and2 {a b : Bool} (ha : a = true) (hb : b = true) : (a && b) = true := by rw [ha, hb]; rfl
section
variable {H : Type} {enc : TypeId × Value → H}
theorem trodAll_below {W W' : World} (hb : Below W.heap.size W W') : ∀ (ts : List TypeId) (vs : List Value) (ds : List (DataW H)) (ps : List MemPlace), (∀ t ∈ ts, ArgOk t) → DataW.TrodAll enc Tryz.prog W 0 (fun _ => true) true ts vs ds ps →
 (∀ x ∈ ps, x.block < W.heap.size) → DataW.TrodAll enc Tryz.prog W' 0 (fun b => decide (b < W.heap.size)) true ts vs ds ps
 | [], vs, ds, ps, _, h, _ => by
   obtain ⟨rfl, rfl, rfl⟩ := trodAll_nil h
   exact trodAll_mk0
 | t :: ts, vs, ds, ps, hT, h, hs => by
   obtain ⟨v, vs', d, ds', p, q, rfl, rfl, rfl, h1, h2⟩ := trodAll_cons h
   have ht := hT t (List.mem_cons_self ..)
   exact trodAll_cons_mk (Below.trod Tryz.laidOut ht.1 ht.2 h1 hb (fun x hx => hs x (List.mem_append_left _ hx))) (trodAll_below hb ts vs' ds' q (fun x hx => hT x (List.mem_cons_of_mem _ hx)) h2 (fun x hx => hs x (List.mem_append_right _ hx)))
theorem law_post {f : Func} {s : ChangeSpec} {W W' : World} {args : Array Value} {ds gs : List (DataW H)} {before : List MemPlace}
 (hW : DataW.Whole enc Tryz.prog f.params.toList s.vars false W args.toList ds gs before) (hb : Below W.heap.size W W') (hrt : f.resultTypes = #[4])
 (hts : ∀ t ∈ f.params.toList, ArgOk t) (hsv : s.vars = []) (hfn : s.fn H (ds ++ []) = { results := [.lit (.bool true)], args := ds }) :
 s.post enc Tryz.prog f false true false false W args (.bool true) W' := by
 have hW' := hW
 obtain ⟨p, q, hA, hV, rfl, hfz, hnd⟩ := hW
 have hV' := hV
 rw [hsv] at hV'
 obtain ⟨rfl, rfl⟩ := trodVars_none hV'
 have hlt : ∀ x ∈ p, x.block < W.heap.size := fun x hx => by
  have := hW'.lt x
  exact this (List.mem_append_left _ hx)
 refine ⟨ds, [], p ++ [], [], p, [], hW', ?_, ?_, ?_, hb.frame _, fun h => by cases h⟩
 ·rw [hfn, hrt]
  exact trodAll_cons_mk (shut_bool Tryz.underlying4 _) trodAll_mk0
 ·rw [hfn]
  exact trodAll_below hb _ _ _ _ hts hA hlt
 ·rw [hfn, hsv]
  rfl
end
theorem argOk46 : ArgOk 27 := ⟨by kernel_rfl, of_decide_eq_true (by kernel_rfl)⟩
section
variable {H : Type} {enc : TypeId × Value → H}
theorem sta_trod {W : World} {n : Nat} {cs : List Value} {y : DataW H × List MemPlace} (hl : cs.length = 2) (h : DataW.trod enc Tryz.prog W 0 (fun _ => true) true n 131 cs = some y) : ∃ s : Sta, cs = s.cells ∧ s.name.size ≤ 9223372036854775807 ∧ i64ok s.x := by
 have c9 : Tryz.prog.cellsOf 9 = 1 := by kernel_rfl
 have c3 : Tryz.prog.cellsOf 3 = 1 := by kernel_rfl
 match cs, hl with
 | [u0, u1], _ =>
   obtain ⟨ys, n2, _, _, _, hyl, hf⟩ := DataW.trod_struct Tryz.underlying131 h
   match ys, hyl with
   | [y0, y1], _ =>
     have f0 : DataW.trod enc Tryz.prog W 0 (fun _ => true) true n2 9 (([u0, u1].drop 0).take (Tryz.prog.cellsOf 9)) = some y0 := hf 0 _ rfl
     have f1 : DataW.trod enc Tryz.prog W 0 (fun _ => true) true n2 3 (([u0, u1].drop 1).take (Tryz.prog.cellsOf 3)) = some y1 := hf 1 _ rfl
     rw [c9] at f0
     rw [c3] at f1
     obtain ⟨k0, rfl, o0⟩ := str_cell (v := u0) (y := y0) f0
     obtain ⟨k1, rfl, o1⟩ := int_cell (v := u1) (y := y1) f1
     exact ⟨⟨k0, k1⟩, rfl, o0, o1⟩
theorem par_trod {W : World} {n : Nat} {cs : List Value} {y : DataW H × List MemPlace} (hl : cs.length = 4) (h : DataW.trod enc Tryz.prog W 0 (fun _ => true) true n 133 cs = some y) : ∃ s : Par, cs = s.cells ∧ s.name.size ≤ 9223372036854775807 ∧ i64ok s.south ∧ i64ok s.wst ∧ i64ok s.est := by
 have c9 : Tryz.prog.cellsOf 9 = 1 := by kernel_rfl
 have c3 : Tryz.prog.cellsOf 3 = 1 := by kernel_rfl
 match cs, hl with
 | [u0, u1, u2, u3], _ =>
   obtain ⟨ys, n2, _, _, _, hyl, hf⟩ := DataW.trod_struct Tryz.underlying133 h
   match ys, hyl with
   | [y0, y1, y2, y3], _ =>
     have f0 : DataW.trod enc Tryz.prog W 0 (fun _ => true) true n2 9 (([u0, u1, u2, u3].drop 0).take (Tryz.prog.cellsOf 9)) = some y0 := hf 0 _ rfl
     have f1 : DataW.trod enc Tryz.prog W 0 (fun _ => true) true n2 3 (([u0, u1, u2, u3].drop 1).take (Tryz.prog.cellsOf 3)) = some y1 := hf 1 _ rfl
     have f2 : DataW.trod enc Tryz.prog W 0 (fun _ => true) true n2 3 (([u0, u1, u2, u3].drop 2).take (Tryz.prog.cellsOf 3)) = some y2 := hf 2 _ rfl
     have f3 : DataW.trod enc Tryz.prog W 0 (fun _ => true) true n2 3 (([u0, u1, u2, u3].drop 3).take (Tryz.prog.cellsOf 3)) = some y3 := hf 3 _ rfl
     rw [c9] at f0
     rw [c3] at f1 f2 f3
     obtain ⟨k0, rfl, o0⟩ := str_cell (v := u0) (y := y0) f0
     obtain ⟨k1, rfl, o1⟩ := int_cell (v := u1) (y := y1) f1
     obtain ⟨k2, rfl, o2⟩ := int_cell (v := u2) (y := y2) f2
     obtain ⟨k3, rfl, o3⟩ := int_cell (v := u3) (y := y3) f3
     exact ⟨⟨k0, k1, k2, k3⟩, rfl, o0, o1, o2, o3⟩
theorem vrn_trod {W : World} {n : Nat} {cs : List Value} {y : DataW H × List MemPlace} (hl : cs.length = 2) (h : DataW.trod enc Tryz.prog W 0 (fun _ => true) true n 253 cs = some y) : ∃ s : Vrn, cs = s.cells ∧ i64ok s.year ∧ i64ok s.east := by
 have c3 : Tryz.prog.cellsOf 3 = 1 := by kernel_rfl
 match cs, hl with
 | [u0, u1], _ =>
   obtain ⟨ys, n2, _, _, _, hyl, hf⟩ := DataW.trod_struct Tryz.underlying253 h
   match ys, hyl with
   | [y0, y1], _ =>
     have f0 : DataW.trod enc Tryz.prog W 0 (fun _ => true) true n2 3 (([u0, u1].drop 0).take (Tryz.prog.cellsOf 3)) = some y0 := hf 0 _ rfl
     have f1 : DataW.trod enc Tryz.prog W 0 (fun _ => true) true n2 3 (([u0, u1].drop 1).take (Tryz.prog.cellsOf 3)) = some y1 := hf 1 _ rfl
     rw [c3] at f0 f1
     obtain ⟨k0, rfl, o0⟩ := int_cell (v := u0) (y := y0) f0
     obtain ⟨k1, rfl, o1⟩ := int_cell (v := u1) (y := y1) f1
     exact ⟨⟨k0, k1⟩, rfl, o0, o1⟩
set_option maxRecDepth 100000 in
theorem open_fld {b0 : Nat} {W : World} {v : Value} {d : DataW H} {p : List MemPlace} (hv : Value.okWide Tryz.prog W .any b0 27 v) (h : DataW.Trod enc Tryz.prog W 0 (fun _ => true) true 27 v d p) :
 ∃ (x : FV) (F : Fld), v = x.val F ∧ FldAt W x F := by
 obtain ⟨v0, v1, v2, v3, y0, y1, y2, y3, n, rfl, _, _, h0, h1, h2, h3⟩ := open_agg4 Tryz.underlying27 (by kernel_rfl) (by kernel_rfl) hv h
 obtain ⟨aS, cS, sts, e0, r0, l0, k0⟩ := recs_trod (k := 2) (f := Sta.cells) (by omega) Tryz.underlying22 (by kernel_rfl) (fun n cs y hl hh => sta_trod hl hh) h0
 obtain ⟨aL, cL, lms, e1, r1, l1, k1⟩ := recs_trod (k := 1) (f := strCells) (by omega) Tryz.underlying23 (by kernel_rfl) (fun n cs y hl hh => by
  match cs, hl with
  | [u], _ =>
    obtain ⟨s, rfl, hs⟩ := str_cell hh
    exact ⟨s, rfl, hs⟩) h1
 obtain ⟨aP, cP, prs, e2, r2, l2, k2⟩ := recs_trod (k := 4) (f := Par.cells) (by omega) Tryz.underlying24 (by kernel_rfl) (fun n cs y hl hh => par_trod hl hh) h2
 obtain ⟨aV, cV, vrs, e3, r3, l3, k3⟩ := recs_trod (k := 2) (f := Vrn.cells) (by omega) Tryz.underlying25 (by kernel_rfl) (fun n cs y hl hh => vrn_trod hl hh) h3
 simp only [List.cons.injEq, and_true] at e0 e1 e2 e3
 subst e0 e1 e2 e3
 refine ⟨⟨aS, cS, aL, cL, aP, cP, aV, cV⟩, ⟨sts, lms, prs, vrs⟩, rfl, r0, r1, r2, r3, l0, l1, l2, l3, ?_, fun s hs => (k0 s hs).2, fun s hs => (k2 s hs).2, k3⟩
 intro l hl s hs
 simp only [Fld.names, List.mem_cons, List.not_mem_nil, or_false] at hl
 rcases hl with rfl | rfl | rfl
 ·obtain ⟨t, ht, rfl⟩ := List.mem_map.1 hs
  exact (k0 t ht).1
 ·exact k1 s hs
 ·obtain ⟨t, ht, rfl⟩ := List.mem_map.1 hs
  exact (k2 t ht).1
end
end Go.Proofs.YtkhemfnlflbniaaGreatDoor
