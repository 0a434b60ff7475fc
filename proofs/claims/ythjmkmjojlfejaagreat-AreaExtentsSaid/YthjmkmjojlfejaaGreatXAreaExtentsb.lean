/- What the law AreaExtents needs beyond the base: Al1, Lx, Fr, Frx. No conditions beyond those stated. -/
import Derived.Test.YthjmkmjojlfejaaGreatB13
import Derived.Test.YthjmkmjojlfejaaGreatB07
import Derived.Test.YthjmkmjojlfejaaGreatB06
import Derived.Test.YthjmkmjojlfejaaGreatB05
import Derived.Test.YthjmkmjojlfejaaGreatB04
import Derived.Test.YthjmkmjojlfejaaGreatB03
import Derived.Test.YthjmkmjojlfejaaGreatB02
import Derived.Test.YthjmkmjojlfejaaGreatB01
import Derived.Shelf.Small.Bits
import Derived.Shelf.Small.Wraps
import Derived.Shelf.Strconv.Itoa0
import Derived.Shelf.Sort.Plain
import Derived.Shelf.Slices.Turned
import Derived.Ground.Names2Prog
import Derived.Shelf.Slices.CompactI
import Derived.Shelf.Slices.SearchI
import Derived.Shelf.Slices.Cells
import Derived.Shelf.Slices.In.SortNone
import Derived.Test.YthjmkmjojlfejaaGreatProg
import Derived.WalkKit
import Derived.Handy
import Derived.RangeFuncRecord
import Derived.Shelf.Abstract
import Derived.Deep.QuietTactic
import Derived.BigQuiet
import Derived.Laws.CopyOwn
import Derived.WalkSmall
import Derived.RangeFuncNested
import Derived.RangeFuncBound
import Derived.RangeFuncCalls
import Derived.RangeFuncLeaves
import Derived.Shelf.RegionOpen
import Derived.OwnWalkIn
import Derived.TacticsInMore
import Derived.LoopNIn
import Derived.LoopIn
import Derived.Maps.AppendAt
import Derived.Deep.Onto
import Derived.OrdersHeld
import Derived.Deep.LoopGhost
import Derived.Deep.WholeRow
import Derived.Deep.OwnRows
import Derived.StillTailTactics
import Derived.Great.Walk
import Derived.Great.BuildSlice
import Derived.WalkMore
import Derived.Deep.MidRow
import Derived.Deep.RegionHeld3
import Derived.Deep.DeepCutAuto
import Derived.Lib.OwnBridge
import Derived.Lib.SliceRun
import Derived.WalkSpells
import Derived.Deep.RegionWith
import Derived.Lib.AppendZerosOnto
import Derived.Deep.CutBlock
import Derived.IntWalk
import Derived.Test.YthjmkmjojlfejaaGreatB09
import Derived.Test.YthjmkmjojlfejaaGreatB15
import Derived.Test.YthjmkmjojlfejaaGreatB16
import Derived.Test.YthjmkmjojlfejaaGreatB12
import Derived.Test.YthjmkmjojlfejaaGreatB11
import Derived.Test.YthjmkmjojlfejaaGreatB10
import Derived.Test.YthjmkmjojlfejaaGreatB08
import Derived.Scope
import Derived.Test.YthjmkmjojlfejaaGreatB14
import Derived.Test.YthjmkmjojlfejaaGreatRows
import Derived.ProofKit
import Derived.OpenShut
import Derived.Carry
import Derived.Lib.SmallJoins
import Derived.Deep.Slices
import Derived.ChangeMaps5
import Derived.Test.YthjmkmjojlfejaaGreatXAreaExtentsa
namespace Go.Proofs.YthjmkmjojlfejaaGreat
open Go Go.RowKit Go.Shelf
def fewA (N : Int) (m : Nat) : Bool := (decide ((m : Int) ≤ 70) && (decide (N ≤ 26) || decide (N > 128))) || (decide ((m : Int) > 2000) && decide ((m : Int) ≤ 2005))
set_option maxHeartbeats 4000000 in
theorem fewA_any (w : World) (N : Int) (a : Option Addr) (n cap : Nat) (hn : n ≤ 9223372036854775807) :
 Calls Tryz.prog 21 #[.agg #[.int .i64 N, .slice a n cap]] w fun e w' => e = .returned (.bool (fewA N n)) ∧ Below w.heap.size w w' := by
 have B0 := hidE (show Below w.heap.size w (w.alloc (.cells #[.int .i64 N, .slice a n cap] 24)) from (Below.refl _ _).alloc (Nat.le_refl _) _)
 obtain ⟨P, hP⟩ : ∃ P, fewA N n = P := ⟨_, rfl⟩
 rw [hP]
 unfold fewA at hP
 by_cases h1 : n ≤ 70
 ·by_cases h2 : N ≤ 26
  ·have f0 : decide ((n : Int) ≤ 70) = true := by simp; omega
   have f1 : decide (n ≤ 70) = true := by simp; omega
   have f2 : decide (N ≤ 26) = true := by simp; omega
   have HP := hidE (show true = P by rw [← hP]; simp [h2, show (n : Int) ≤ 70 by omega] <;> omega)
   clear hP
   go_enter Tryz.func21, Tryz.ntmps21
   go_wp2_with fail
   go_ret
   exact ⟨by rw [← HP.out]; rfl, B0.out⟩
  ·by_cases h3 : 128 < N
   ·have f0 : decide ((n : Int) ≤ 70) = true := by simp; omega
    have f1 : decide (n ≤ 70) = true := by simp; omega
    have f2 : decide (N ≤ 26) = false := by simp; omega
    have f3 : decide (N > 128) = true := by simp; omega
    have f4 : decide (128 < N) = true := by simp; omega
    have HP := hidE (show true = P by rw [← hP]; simp [h3, show (n : Int) ≤ 70 by omega] <;> omega)
    clear hP
    go_enter Tryz.func21, Tryz.ntmps21
    go_wp2_with fail
    go_ret
    exact ⟨by rw [← HP.out]; rfl, B0.out⟩
   ·have f0 : decide ((n : Int) ≤ 70) = true := by simp; omega
    have f1 : decide (n ≤ 70) = true := by simp; omega
    have f2 : decide (N ≤ 26) = false := by simp; omega
    have f3 : decide (N > 128) = false := by simp; omega
    have f4 : decide (128 < N) = false := by simp; omega
    have f5 : decide ((n : Int) > 2000) = false := by simp; omega
    have f6 : decide (2000 < n) = false := by simp; omega
    have HP := hidE (show false = P by rw [← hP]; simp [h2, h3] <;> omega)
    clear hP
    go_enter Tryz.func21, Tryz.ntmps21
    go_wp2_with fail
    go_ret
    exact ⟨by rw [← HP.out]; rfl, B0.out⟩
 ·by_cases h2 : 2000 < n
  ·by_cases h3 : n ≤ 2005
   ·have f0 : decide ((n : Int) ≤ 70) = false := by simp; omega
    have f1 : decide (n ≤ 70) = false := by simp; omega
    have f2 : decide ((n : Int) > 2000) = true := by simp; omega
    have f3 : decide (2000 < n) = true := by simp; omega
    have f4 : decide ((n : Int) ≤ 2005) = true := by simp; omega
    have f5 : decide (n ≤ 2005) = true := by simp; omega
    have HP := hidE (show true = P by rw [← hP]; simp [show (n : Int) ≤ 2005 by omega, show 2000 < (n : Int) by omega] <;> omega)
    clear hP
    go_enter Tryz.func21, Tryz.ntmps21
    go_wp2_with fail
    go_ret
    exact ⟨by rw [← HP.out]; rfl, B0.out⟩
   ·have f0 : decide ((n : Int) ≤ 70) = false := by simp; omega
    have f1 : decide (n ≤ 70) = false := by simp; omega
    have f2 : decide ((n : Int) > 2000) = true := by simp; omega
    have f3 : decide (2000 < n) = true := by simp; omega
    have f4 : decide ((n : Int) ≤ 2005) = false := by simp; omega
    have f5 : decide (n ≤ 2005) = false := by simp; omega
    have HP := hidE (show false = P by rw [← hP]; simp [show ¬ (n : Int) ≤ 2005 by omega, show ¬ (n : Int) ≤ 70 by omega] <;> omega)
    clear hP
    go_enter Tryz.func21, Tryz.ntmps21
    go_wp2_with fail
    go_ret
    exact ⟨by rw [← HP.out]; rfl, B0.out⟩
  ·have f0 : decide ((n : Int) ≤ 70) = false := by simp; omega
   have f1 : decide (n ≤ 70) = false := by simp; omega
   have f2 : decide ((n : Int) > 2000) = false := by simp; omega
   have f3 : decide (2000 < n) = false := by simp; omega
   have HP := hidE (show false = P by rw [← hP]; simp [show ¬ (n : Int) ≤ 70 by omega] <;> omega)
   clear hP
   go_enter Tryz.func21, Tryz.ntmps21
   go_wp2_with fail
   go_ret
   exact ⟨by rw [← HP.out]; rfl, B0.out⟩
set_option maxRecDepth 100000 in
set_option maxHeartbeats 32000000 in
theorem areaExtents_of (hal : AliveOk) (w : World) (x : FV) (F : Fld) (N : Int) (a : Option Addr) (cap : Nat) (bs : List Bd) (i : Int) (z : EV) (E : Ext) (hF : FldAt w x F) (hN : i64ok N) (hl : bs.length ≤ 9223372036854775807) (h : BoundsAt w a bs) (hE : ExtAt w z E) :
 Calls Tryz.prog 17 #[x.val F, .agg #[.int .i64 N, .slice a bs.length cap], .int .i64 i, z.val E] w fun e w' => e = .returned (.bool true) ∧ Below w.heap.size w w' := by
 obtain ⟨W0, hW0⟩ : ∃ W0, W0 = ((w.alloc (.cells (x.arr F) 46)).alloc (.cells #[.int .i64 N, .slice a bs.length cap] 24)).alloc (.cells (z.arr E) 76) := ⟨_, rfl⟩
 have BB0 : Hid (Below w.heap.size w W0) := hidE (by rw [hW0]; exact (((Below.refl _ _).alloc (Nat.le_refl _) _).alloc (by simp) _).alloc (by simp; omega) _)
 have FF0 : Hid (FldAt W0 x F) := hidE (hF.below BB0.out)
 have SS0 : Hid (BoundsAt W0 a bs) := hidE (h.below BB0.out (Nat.le_refl _))
 have EE0 : Hid (ExtAt W0 z E) := hidE (hE.below BB0.out)
 have XF0 : Hid (W0.heap[w.heap.size]? = some (.cells (x.arr F) 46 (0,0))) := hidE (by rw [hW0]; exact (Below.heap_alloc _ _ _ (by simp; omega)).trans (heap_alloc2_old _ _ _))
 have XS0 : Hid (W0.heap[w.heap.size + 1]? = some (.cells #[.int .i64 N, .slice a bs.length cap] 24 (0,0))) := hidE (by rw [hW0]; exact (Below.heap_alloc _ _ _ (by simp)).trans (by rw [heap_alloc2_new]))
 have XE0 : Hid (W0.heap[w.heap.size + 1 + 1]? = some (.cells (z.arr E) 76 (0,0))) := hidE (by
  have q := heap_alloc_new ((w.alloc (.cells (x.arr F) 46)).alloc (.cells #[.int .i64 N, .slice a bs.length cap] 24)) (.cells (z.arr E) 76)
  have hs : ((w.alloc (.cells (x.arr F) 46)).alloc (.cells #[.int .i64 N, .slice a bs.length cap] 24)).heap.size = w.heap.size + 1 + 1 := by simp
  rw [hs] at q
  rw [hW0]; exact q)
 have HAL := hidE hal
 have HFW := hidE (fun W => fewA_any W N a bs.length cap hl)
 have HPL := hidE (fun (W : World) => plain_any W x F (by have := hF.ls; omega) (by have := hF.ll; omega) (by have := hF.lp; omega) (by have := hF.lv; omega))
 have HX1 := hidE (fun (W : World) (hf : FldAt W x F) (hs : BoundsAt W a bs) (he : ExtAt W z E) => extE_any W x F N a cap bs i z E hf hN hl hs he)
 have HX2 := hidE (fun (W : World) (hf : FldAt W x F) (hs : BoundsAt W a bs) (he : ExtAt W z E) => rextE_any W x F N a cap bs i z E hf hN hl hs he)
 rw [ext_eq] at HX1
 obtain ⟨p1, hp1⟩ : ∃ t, (ext5 F N bs i E).1 = t := ⟨_, rfl⟩
 obtain ⟨p2, hp2⟩ : ∃ t, (ext5 F N bs i E).2 = t := ⟨_, rfl⟩
 rw [hp1, hp2] at HX1 HX2
 unfold FV.val FV.arr EV.val EV.arr at *
 clear hal hF h hE hN hp1 hp2
 by_cases hp : plainP F = false
 ·rw [hp] at HPL
  go_enter Tryz.func17, Tryz.ntmps17
  go_upto_region 1 with fail
  rw [← hW0]
  clear hW0
  have f0 : W0.cell? ⟨w.heap.size, 0, none⟩ = some (.slice x.aS F.sts.length x.cS) := c_e XF0.out rfl
  have f1 : W0.cell? ⟨w.heap.size, 1, none⟩ = some (.slice x.aL F.lms.length x.cL) := c_e XF0.out rfl
  have f2 : W0.cell? ⟨w.heap.size, 2, none⟩ = some (.slice x.aP F.prs.length x.cP) := c_e XF0.out rfl
  have f3 : W0.cell? ⟨w.heap.size, 3, none⟩ = some (.slice x.aV F.vrs.length x.cV) := c_e XF0.out rfl
  have HC := hidE (HPL.out W0)
  go_wp2_with fail
  refine HC.out.mono ?_
  rintro e W1 ⟨rfl, hbx⟩
  clear HC f0 f1 f2 f3
  have hb : Below W0.heap.size W0 W1 := hbx
  have BB1 : Hid (Below w.heap.size w W1) := hidE (BB0.out.trans (hb.mono BB0.out.size))
  have FF1 : Hid (FldAt W1 x F) := hidE (FF0.out.below hb)
  have SS1 : Hid (BoundsAt W1 a bs) := hidE (SS0.out.below hb (Nat.le_refl _))
  have EE1 : Hid (ExtAt W1 z E) := hidE (EE0.out.below hb)
  have XF1 : Hid (W1.heap[w.heap.size]? = some (.cells #[.slice x.aS F.sts.length x.cS, .slice x.aL F.lms.length x.cL, .slice x.aP F.prs.length x.cP, .slice x.aV F.vrs.length x.cV] 46 (0,0))) := hidE (blk_below hb (lt_of_block XF0.out) XF0.out)
  have XS1 : Hid (W1.heap[w.heap.size + 1]? = some (.cells #[.int .i64 N, .slice a bs.length cap] 24 (0,0))) := hidE (blk_below hb (lt_of_block XS0.out) XS0.out)
  have XE1 : Hid (W1.heap[w.heap.size + 1 + 1]? = some (.cells #[.int .i64 E.lo, .int .i64 E.hi, .slice z.a2 E.yl.length z.c2, .slice z.a3 E.yh.length z.c3, .slice z.a4 E.fl.length z.c4, .slice z.a5 E.fh.length z.c5] 76 (0,0))) := hidE (blk_below hb (lt_of_block XE0.out) XE0.out)
  clear hb BB0 FF0 SS0 EE0 XF0 XS0 XE0
  clear hbx
  go_wp2_with fail
  refine (HAL.out _).mono ?_
  rintro e w9 ⟨rfl, hb9⟩
  have B9 := hidE (BB1.out.trans (hb9.mono BB1.out.size))
  clear hb9
  go_wp2_with fail
  go_ret
  exact ⟨by simp, B9.out⟩
 have hp2 : plainP F = true := by simpa using hp
 rw [hp2] at HPL
 clear hp hp2
 by_cases hq : fewA N bs.length = false
 ·rw [hq] at HFW
  go_enter Tryz.func17, Tryz.ntmps17
  go_upto_region 1 with fail
  rw [← hW0]
  clear hW0
  have f0 : W0.cell? ⟨w.heap.size, 0, none⟩ = some (.slice x.aS F.sts.length x.cS) := c_e XF0.out rfl
  have f1 : W0.cell? ⟨w.heap.size, 1, none⟩ = some (.slice x.aL F.lms.length x.cL) := c_e XF0.out rfl
  have f2 : W0.cell? ⟨w.heap.size, 2, none⟩ = some (.slice x.aP F.prs.length x.cP) := c_e XF0.out rfl
  have f3 : W0.cell? ⟨w.heap.size, 3, none⟩ = some (.slice x.aV F.vrs.length x.cV) := c_e XF0.out rfl
  have HC := hidE (HPL.out W0)
  go_wp2_with fail
  refine HC.out.mono ?_
  rintro e W1 ⟨rfl, hbx⟩
  clear HC f0 f1 f2 f3
  have hb : Below W0.heap.size W0 W1 := hbx
  have BB1 : Hid (Below w.heap.size w W1) := hidE (BB0.out.trans (hb.mono BB0.out.size))
  have FF1 : Hid (FldAt W1 x F) := hidE (FF0.out.below hb)
  have SS1 : Hid (BoundsAt W1 a bs) := hidE (SS0.out.below hb (Nat.le_refl _))
  have EE1 : Hid (ExtAt W1 z E) := hidE (EE0.out.below hb)
  have XF1 : Hid (W1.heap[w.heap.size]? = some (.cells #[.slice x.aS F.sts.length x.cS, .slice x.aL F.lms.length x.cL, .slice x.aP F.prs.length x.cP, .slice x.aV F.vrs.length x.cV] 46 (0,0))) := hidE (blk_below hb (lt_of_block XF0.out) XF0.out)
  have XS1 : Hid (W1.heap[w.heap.size + 1]? = some (.cells #[.int .i64 N, .slice a bs.length cap] 24 (0,0))) := hidE (blk_below hb (lt_of_block XS0.out) XS0.out)
  have XE1 : Hid (W1.heap[w.heap.size + 1 + 1]? = some (.cells #[.int .i64 E.lo, .int .i64 E.hi, .slice z.a2 E.yl.length z.c2, .slice z.a3 E.yh.length z.c3, .slice z.a4 E.fl.length z.c4, .slice z.a5 E.fh.length z.c5] 76 (0,0))) := hidE (blk_below hb (lt_of_block XE0.out) XE0.out)
  clear hb BB0 FF0 SS0 EE0 XF0 XS0 XE0
  clear hbx
  have s0 : W1.cell? ⟨w.heap.size + 1, 0, none⟩ = some (.int .i64 N) := c_e XS1.out rfl
  have s1 : W1.cell? ⟨w.heap.size + 1, 1, none⟩ = some (.slice a bs.length cap) := c_e XS1.out rfl
  have HC := hidE (HFW.out W1)
  go_wp2_with fail
  refine HC.out.mono ?_
  rintro e W2 ⟨rfl, hbx⟩
  clear HC s0 s1
  have hb : Below W1.heap.size W1 W2 := hbx
  have BB2 : Hid (Below w.heap.size w W2) := hidE (BB1.out.trans (hb.mono BB1.out.size))
  have FF2 : Hid (FldAt W2 x F) := hidE (FF1.out.below hb)
  have SS2 : Hid (BoundsAt W2 a bs) := hidE (SS1.out.below hb (Nat.le_refl _))
  have EE2 : Hid (ExtAt W2 z E) := hidE (EE1.out.below hb)
  have XF2 : Hid (W2.heap[w.heap.size]? = some (.cells #[.slice x.aS F.sts.length x.cS, .slice x.aL F.lms.length x.cL, .slice x.aP F.prs.length x.cP, .slice x.aV F.vrs.length x.cV] 46 (0,0))) := hidE (blk_below hb (lt_of_block XF1.out) XF1.out)
  have XS2 : Hid (W2.heap[w.heap.size + 1]? = some (.cells #[.int .i64 N, .slice a bs.length cap] 24 (0,0))) := hidE (blk_below hb (lt_of_block XS1.out) XS1.out)
  have XE2 : Hid (W2.heap[w.heap.size + 1 + 1]? = some (.cells #[.int .i64 E.lo, .int .i64 E.hi, .slice z.a2 E.yl.length z.c2, .slice z.a3 E.yh.length z.c3, .slice z.a4 E.fl.length z.c4, .slice z.a5 E.fh.length z.c5] 76 (0,0))) := hidE (blk_below hb (lt_of_block XE1.out) XE1.out)
  clear hb BB1 FF1 SS1 EE1 XF1 XS1 XE1
  clear hbx
  go_wp2_with fail
  refine (HAL.out _).mono ?_
  rintro e w9 ⟨rfl, hb9⟩
  have B9 := hidE (BB2.out.trans (hb9.mono BB2.out.size))
  clear hb9
  go_wp2_with fail
  go_ret
  exact ⟨by simp, B9.out⟩
 have hq2 : fewA N bs.length = true := by simpa using hq
 rw [hq2] at HFW
 clear hq hq2
 by_cases hv0 : 200 < E.yl.length
 ·have hd : decide ((E.yl.length : Int) > 200) = true := by simp; omega
  have hd' : decide (200 < E.yl.length) = true := by simp; omega
  go_enter Tryz.func17, Tryz.ntmps17
  go_upto_region 1 with fail
  rw [← hW0]
  clear hW0
  have f0 : W0.cell? ⟨w.heap.size, 0, none⟩ = some (.slice x.aS F.sts.length x.cS) := c_e XF0.out rfl
  have f1 : W0.cell? ⟨w.heap.size, 1, none⟩ = some (.slice x.aL F.lms.length x.cL) := c_e XF0.out rfl
  have f2 : W0.cell? ⟨w.heap.size, 2, none⟩ = some (.slice x.aP F.prs.length x.cP) := c_e XF0.out rfl
  have f3 : W0.cell? ⟨w.heap.size, 3, none⟩ = some (.slice x.aV F.vrs.length x.cV) := c_e XF0.out rfl
  have HC := hidE (HPL.out W0)
  go_wp2_with fail
  refine HC.out.mono ?_
  rintro e W1 ⟨rfl, hbx⟩
  clear HC f0 f1 f2 f3
  have hb : Below W0.heap.size W0 W1 := hbx
  have BB1 : Hid (Below w.heap.size w W1) := hidE (BB0.out.trans (hb.mono BB0.out.size))
  have FF1 : Hid (FldAt W1 x F) := hidE (FF0.out.below hb)
  have SS1 : Hid (BoundsAt W1 a bs) := hidE (SS0.out.below hb (Nat.le_refl _))
  have EE1 : Hid (ExtAt W1 z E) := hidE (EE0.out.below hb)
  have XF1 : Hid (W1.heap[w.heap.size]? = some (.cells #[.slice x.aS F.sts.length x.cS, .slice x.aL F.lms.length x.cL, .slice x.aP F.prs.length x.cP, .slice x.aV F.vrs.length x.cV] 46 (0,0))) := hidE (blk_below hb (lt_of_block XF0.out) XF0.out)
  have XS1 : Hid (W1.heap[w.heap.size + 1]? = some (.cells #[.int .i64 N, .slice a bs.length cap] 24 (0,0))) := hidE (blk_below hb (lt_of_block XS0.out) XS0.out)
  have XE1 : Hid (W1.heap[w.heap.size + 1 + 1]? = some (.cells #[.int .i64 E.lo, .int .i64 E.hi, .slice z.a2 E.yl.length z.c2, .slice z.a3 E.yh.length z.c3, .slice z.a4 E.fl.length z.c4, .slice z.a5 E.fh.length z.c5] 76 (0,0))) := hidE (blk_below hb (lt_of_block XE0.out) XE0.out)
  clear hb BB0 FF0 SS0 EE0 XF0 XS0 XE0
  clear hbx
  have s0 : W1.cell? ⟨w.heap.size + 1, 0, none⟩ = some (.int .i64 N) := c_e XS1.out rfl
  have s1 : W1.cell? ⟨w.heap.size + 1, 1, none⟩ = some (.slice a bs.length cap) := c_e XS1.out rfl
  have HC := hidE (HFW.out W1)
  go_wp2_with fail
  refine HC.out.mono ?_
  rintro e W2 ⟨rfl, hbx⟩
  clear HC s0 s1
  have hb : Below W1.heap.size W1 W2 := hbx
  have BB2 : Hid (Below w.heap.size w W2) := hidE (BB1.out.trans (hb.mono BB1.out.size))
  have FF2 : Hid (FldAt W2 x F) := hidE (FF1.out.below hb)
  have SS2 : Hid (BoundsAt W2 a bs) := hidE (SS1.out.below hb (Nat.le_refl _))
  have EE2 : Hid (ExtAt W2 z E) := hidE (EE1.out.below hb)
  have XF2 : Hid (W2.heap[w.heap.size]? = some (.cells #[.slice x.aS F.sts.length x.cS, .slice x.aL F.lms.length x.cL, .slice x.aP F.prs.length x.cP, .slice x.aV F.vrs.length x.cV] 46 (0,0))) := hidE (blk_below hb (lt_of_block XF1.out) XF1.out)
  have XS2 : Hid (W2.heap[w.heap.size + 1]? = some (.cells #[.int .i64 N, .slice a bs.length cap] 24 (0,0))) := hidE (blk_below hb (lt_of_block XS1.out) XS1.out)
  have XE2 : Hid (W2.heap[w.heap.size + 1 + 1]? = some (.cells #[.int .i64 E.lo, .int .i64 E.hi, .slice z.a2 E.yl.length z.c2, .slice z.a3 E.yh.length z.c3, .slice z.a4 E.fl.length z.c4, .slice z.a5 E.fh.length z.c5] 76 (0,0))) := hidE (blk_below hb (lt_of_block XE1.out) XE1.out)
  clear hb BB1 FF1 SS1 EE1 XF1 XS1 XE1
  clear hbx
  have t0 : W2.cell? ⟨w.heap.size + 1 + 1, 0, none⟩ = some (.int .i64 E.lo) := c_e XE2.out rfl
  have t1 : W2.cell? ⟨w.heap.size + 1 + 1, 1, none⟩ = some (.int .i64 E.hi) := c_e XE2.out rfl
  have t2 : W2.cell? ⟨w.heap.size + 1 + 1, 2, none⟩ = some (.slice z.a2 E.yl.length z.c2) := c_e XE2.out rfl
  have t3 : W2.cell? ⟨w.heap.size + 1 + 1, 3, none⟩ = some (.slice z.a3 E.yh.length z.c3) := c_e XE2.out rfl
  have t4 : W2.cell? ⟨w.heap.size + 1 + 1, 4, none⟩ = some (.slice z.a4 E.fl.length z.c4) := c_e XE2.out rfl
  have t5 : W2.cell? ⟨w.heap.size + 1 + 1, 5, none⟩ = some (.slice z.a5 E.fh.length z.c5) := c_e XE2.out rfl
  go_wp2_with fail
  refine (HAL.out _).mono ?_
  rintro e w9 ⟨rfl, hb9⟩
  have B9 := hidE (BB2.out.trans (hb9.mono BB2.out.size))
  clear hb9
  go_wp2_with fail
  go_ret
  exact ⟨by simp, B9.out⟩
 have hd0 : decide ((E.yl.length : Int) > 200) = false := by simp; omega
 have hd0' : decide (200 < E.yl.length) = false := by simp; omega
 by_cases hv1 : 200 < E.yh.length
 ·have hd : decide ((E.yh.length : Int) > 200) = true := by simp; omega
  have hd' : decide (200 < E.yh.length) = true := by simp; omega
  go_enter Tryz.func17, Tryz.ntmps17
  go_upto_region 1 with fail
  rw [← hW0]
  clear hW0
  have f0 : W0.cell? ⟨w.heap.size, 0, none⟩ = some (.slice x.aS F.sts.length x.cS) := c_e XF0.out rfl
  have f1 : W0.cell? ⟨w.heap.size, 1, none⟩ = some (.slice x.aL F.lms.length x.cL) := c_e XF0.out rfl
  have f2 : W0.cell? ⟨w.heap.size, 2, none⟩ = some (.slice x.aP F.prs.length x.cP) := c_e XF0.out rfl
  have f3 : W0.cell? ⟨w.heap.size, 3, none⟩ = some (.slice x.aV F.vrs.length x.cV) := c_e XF0.out rfl
  have HC := hidE (HPL.out W0)
  go_wp2_with fail
  refine HC.out.mono ?_
  rintro e W1 ⟨rfl, hbx⟩
  clear HC f0 f1 f2 f3
  have hb : Below W0.heap.size W0 W1 := hbx
  have BB1 : Hid (Below w.heap.size w W1) := hidE (BB0.out.trans (hb.mono BB0.out.size))
  have FF1 : Hid (FldAt W1 x F) := hidE (FF0.out.below hb)
  have SS1 : Hid (BoundsAt W1 a bs) := hidE (SS0.out.below hb (Nat.le_refl _))
  have EE1 : Hid (ExtAt W1 z E) := hidE (EE0.out.below hb)
  have XF1 : Hid (W1.heap[w.heap.size]? = some (.cells #[.slice x.aS F.sts.length x.cS, .slice x.aL F.lms.length x.cL, .slice x.aP F.prs.length x.cP, .slice x.aV F.vrs.length x.cV] 46 (0,0))) := hidE (blk_below hb (lt_of_block XF0.out) XF0.out)
  have XS1 : Hid (W1.heap[w.heap.size + 1]? = some (.cells #[.int .i64 N, .slice a bs.length cap] 24 (0,0))) := hidE (blk_below hb (lt_of_block XS0.out) XS0.out)
  have XE1 : Hid (W1.heap[w.heap.size + 1 + 1]? = some (.cells #[.int .i64 E.lo, .int .i64 E.hi, .slice z.a2 E.yl.length z.c2, .slice z.a3 E.yh.length z.c3, .slice z.a4 E.fl.length z.c4, .slice z.a5 E.fh.length z.c5] 76 (0,0))) := hidE (blk_below hb (lt_of_block XE0.out) XE0.out)
  clear hb BB0 FF0 SS0 EE0 XF0 XS0 XE0
  clear hbx
  have s0 : W1.cell? ⟨w.heap.size + 1, 0, none⟩ = some (.int .i64 N) := c_e XS1.out rfl
  have s1 : W1.cell? ⟨w.heap.size + 1, 1, none⟩ = some (.slice a bs.length cap) := c_e XS1.out rfl
  have HC := hidE (HFW.out W1)
  go_wp2_with fail
  refine HC.out.mono ?_
  rintro e W2 ⟨rfl, hbx⟩
  clear HC s0 s1
  have hb : Below W1.heap.size W1 W2 := hbx
  have BB2 : Hid (Below w.heap.size w W2) := hidE (BB1.out.trans (hb.mono BB1.out.size))
  have FF2 : Hid (FldAt W2 x F) := hidE (FF1.out.below hb)
  have SS2 : Hid (BoundsAt W2 a bs) := hidE (SS1.out.below hb (Nat.le_refl _))
  have EE2 : Hid (ExtAt W2 z E) := hidE (EE1.out.below hb)
  have XF2 : Hid (W2.heap[w.heap.size]? = some (.cells #[.slice x.aS F.sts.length x.cS, .slice x.aL F.lms.length x.cL, .slice x.aP F.prs.length x.cP, .slice x.aV F.vrs.length x.cV] 46 (0,0))) := hidE (blk_below hb (lt_of_block XF1.out) XF1.out)
  have XS2 : Hid (W2.heap[w.heap.size + 1]? = some (.cells #[.int .i64 N, .slice a bs.length cap] 24 (0,0))) := hidE (blk_below hb (lt_of_block XS1.out) XS1.out)
  have XE2 : Hid (W2.heap[w.heap.size + 1 + 1]? = some (.cells #[.int .i64 E.lo, .int .i64 E.hi, .slice z.a2 E.yl.length z.c2, .slice z.a3 E.yh.length z.c3, .slice z.a4 E.fl.length z.c4, .slice z.a5 E.fh.length z.c5] 76 (0,0))) := hidE (blk_below hb (lt_of_block XE1.out) XE1.out)
  clear hb BB1 FF1 SS1 EE1 XF1 XS1 XE1
  clear hbx
  have t0 : W2.cell? ⟨w.heap.size + 1 + 1, 0, none⟩ = some (.int .i64 E.lo) := c_e XE2.out rfl
  have t1 : W2.cell? ⟨w.heap.size + 1 + 1, 1, none⟩ = some (.int .i64 E.hi) := c_e XE2.out rfl
  have t2 : W2.cell? ⟨w.heap.size + 1 + 1, 2, none⟩ = some (.slice z.a2 E.yl.length z.c2) := c_e XE2.out rfl
  have t3 : W2.cell? ⟨w.heap.size + 1 + 1, 3, none⟩ = some (.slice z.a3 E.yh.length z.c3) := c_e XE2.out rfl
  have t4 : W2.cell? ⟨w.heap.size + 1 + 1, 4, none⟩ = some (.slice z.a4 E.fl.length z.c4) := c_e XE2.out rfl
  have t5 : W2.cell? ⟨w.heap.size + 1 + 1, 5, none⟩ = some (.slice z.a5 E.fh.length z.c5) := c_e XE2.out rfl
  go_wp2_with fail
  refine (HAL.out _).mono ?_
  rintro e w9 ⟨rfl, hb9⟩
  have B9 := hidE (BB2.out.trans (hb9.mono BB2.out.size))
  clear hb9
  go_wp2_with fail
  go_ret
  exact ⟨by simp, B9.out⟩
 have hd1 : decide ((E.yh.length : Int) > 200) = false := by simp; omega
 have hd1' : decide (200 < E.yh.length) = false := by simp; omega
 by_cases hv2 : 2010 < E.fl.length
 ·have hd : decide ((E.fl.length : Int) > 2010) = true := by simp; omega
  have hd' : decide (2010 < E.fl.length) = true := by simp; omega
  go_enter Tryz.func17, Tryz.ntmps17
  go_upto_region 1 with fail
  rw [← hW0]
  clear hW0
  have f0 : W0.cell? ⟨w.heap.size, 0, none⟩ = some (.slice x.aS F.sts.length x.cS) := c_e XF0.out rfl
  have f1 : W0.cell? ⟨w.heap.size, 1, none⟩ = some (.slice x.aL F.lms.length x.cL) := c_e XF0.out rfl
  have f2 : W0.cell? ⟨w.heap.size, 2, none⟩ = some (.slice x.aP F.prs.length x.cP) := c_e XF0.out rfl
  have f3 : W0.cell? ⟨w.heap.size, 3, none⟩ = some (.slice x.aV F.vrs.length x.cV) := c_e XF0.out rfl
  have HC := hidE (HPL.out W0)
  go_wp2_with fail
  refine HC.out.mono ?_
  rintro e W1 ⟨rfl, hbx⟩
  clear HC f0 f1 f2 f3
  have hb : Below W0.heap.size W0 W1 := hbx
  have BB1 : Hid (Below w.heap.size w W1) := hidE (BB0.out.trans (hb.mono BB0.out.size))
  have FF1 : Hid (FldAt W1 x F) := hidE (FF0.out.below hb)
  have SS1 : Hid (BoundsAt W1 a bs) := hidE (SS0.out.below hb (Nat.le_refl _))
  have EE1 : Hid (ExtAt W1 z E) := hidE (EE0.out.below hb)
  have XF1 : Hid (W1.heap[w.heap.size]? = some (.cells #[.slice x.aS F.sts.length x.cS, .slice x.aL F.lms.length x.cL, .slice x.aP F.prs.length x.cP, .slice x.aV F.vrs.length x.cV] 46 (0,0))) := hidE (blk_below hb (lt_of_block XF0.out) XF0.out)
  have XS1 : Hid (W1.heap[w.heap.size + 1]? = some (.cells #[.int .i64 N, .slice a bs.length cap] 24 (0,0))) := hidE (blk_below hb (lt_of_block XS0.out) XS0.out)
  have XE1 : Hid (W1.heap[w.heap.size + 1 + 1]? = some (.cells #[.int .i64 E.lo, .int .i64 E.hi, .slice z.a2 E.yl.length z.c2, .slice z.a3 E.yh.length z.c3, .slice z.a4 E.fl.length z.c4, .slice z.a5 E.fh.length z.c5] 76 (0,0))) := hidE (blk_below hb (lt_of_block XE0.out) XE0.out)
  clear hb BB0 FF0 SS0 EE0 XF0 XS0 XE0
  clear hbx
  have s0 : W1.cell? ⟨w.heap.size + 1, 0, none⟩ = some (.int .i64 N) := c_e XS1.out rfl
  have s1 : W1.cell? ⟨w.heap.size + 1, 1, none⟩ = some (.slice a bs.length cap) := c_e XS1.out rfl
  have HC := hidE (HFW.out W1)
  go_wp2_with fail
  refine HC.out.mono ?_
  rintro e W2 ⟨rfl, hbx⟩
  clear HC s0 s1
  have hb : Below W1.heap.size W1 W2 := hbx
  have BB2 : Hid (Below w.heap.size w W2) := hidE (BB1.out.trans (hb.mono BB1.out.size))
  have FF2 : Hid (FldAt W2 x F) := hidE (FF1.out.below hb)
  have SS2 : Hid (BoundsAt W2 a bs) := hidE (SS1.out.below hb (Nat.le_refl _))
  have EE2 : Hid (ExtAt W2 z E) := hidE (EE1.out.below hb)
  have XF2 : Hid (W2.heap[w.heap.size]? = some (.cells #[.slice x.aS F.sts.length x.cS, .slice x.aL F.lms.length x.cL, .slice x.aP F.prs.length x.cP, .slice x.aV F.vrs.length x.cV] 46 (0,0))) := hidE (blk_below hb (lt_of_block XF1.out) XF1.out)
  have XS2 : Hid (W2.heap[w.heap.size + 1]? = some (.cells #[.int .i64 N, .slice a bs.length cap] 24 (0,0))) := hidE (blk_below hb (lt_of_block XS1.out) XS1.out)
  have XE2 : Hid (W2.heap[w.heap.size + 1 + 1]? = some (.cells #[.int .i64 E.lo, .int .i64 E.hi, .slice z.a2 E.yl.length z.c2, .slice z.a3 E.yh.length z.c3, .slice z.a4 E.fl.length z.c4, .slice z.a5 E.fh.length z.c5] 76 (0,0))) := hidE (blk_below hb (lt_of_block XE1.out) XE1.out)
  clear hb BB1 FF1 SS1 EE1 XF1 XS1 XE1
  clear hbx
  have t0 : W2.cell? ⟨w.heap.size + 1 + 1, 0, none⟩ = some (.int .i64 E.lo) := c_e XE2.out rfl
  have t1 : W2.cell? ⟨w.heap.size + 1 + 1, 1, none⟩ = some (.int .i64 E.hi) := c_e XE2.out rfl
  have t2 : W2.cell? ⟨w.heap.size + 1 + 1, 2, none⟩ = some (.slice z.a2 E.yl.length z.c2) := c_e XE2.out rfl
  have t3 : W2.cell? ⟨w.heap.size + 1 + 1, 3, none⟩ = some (.slice z.a3 E.yh.length z.c3) := c_e XE2.out rfl
  have t4 : W2.cell? ⟨w.heap.size + 1 + 1, 4, none⟩ = some (.slice z.a4 E.fl.length z.c4) := c_e XE2.out rfl
  have t5 : W2.cell? ⟨w.heap.size + 1 + 1, 5, none⟩ = some (.slice z.a5 E.fh.length z.c5) := c_e XE2.out rfl
  go_wp2_with fail
  refine (HAL.out _).mono ?_
  rintro e w9 ⟨rfl, hb9⟩
  have B9 := hidE (BB2.out.trans (hb9.mono BB2.out.size))
  clear hb9
  go_wp2_with fail
  go_ret
  exact ⟨by simp, B9.out⟩
 have hd2 : decide ((E.fl.length : Int) > 2010) = false := by simp; omega
 have hd2' : decide (2010 < E.fl.length) = false := by simp; omega
 by_cases hv3 : 2010 < E.fh.length
 ·have hd : decide ((E.fh.length : Int) > 2010) = true := by simp; omega
  have hd' : decide (2010 < E.fh.length) = true := by simp; omega
  go_enter Tryz.func17, Tryz.ntmps17
  go_upto_region 1 with fail
  rw [← hW0]
  clear hW0
  have f0 : W0.cell? ⟨w.heap.size, 0, none⟩ = some (.slice x.aS F.sts.length x.cS) := c_e XF0.out rfl
  have f1 : W0.cell? ⟨w.heap.size, 1, none⟩ = some (.slice x.aL F.lms.length x.cL) := c_e XF0.out rfl
  have f2 : W0.cell? ⟨w.heap.size, 2, none⟩ = some (.slice x.aP F.prs.length x.cP) := c_e XF0.out rfl
  have f3 : W0.cell? ⟨w.heap.size, 3, none⟩ = some (.slice x.aV F.vrs.length x.cV) := c_e XF0.out rfl
  have HC := hidE (HPL.out W0)
  go_wp2_with fail
  refine HC.out.mono ?_
  rintro e W1 ⟨rfl, hbx⟩
  clear HC f0 f1 f2 f3
  have hb : Below W0.heap.size W0 W1 := hbx
  have BB1 : Hid (Below w.heap.size w W1) := hidE (BB0.out.trans (hb.mono BB0.out.size))
  have FF1 : Hid (FldAt W1 x F) := hidE (FF0.out.below hb)
  have SS1 : Hid (BoundsAt W1 a bs) := hidE (SS0.out.below hb (Nat.le_refl _))
  have EE1 : Hid (ExtAt W1 z E) := hidE (EE0.out.below hb)
  have XF1 : Hid (W1.heap[w.heap.size]? = some (.cells #[.slice x.aS F.sts.length x.cS, .slice x.aL F.lms.length x.cL, .slice x.aP F.prs.length x.cP, .slice x.aV F.vrs.length x.cV] 46 (0,0))) := hidE (blk_below hb (lt_of_block XF0.out) XF0.out)
  have XS1 : Hid (W1.heap[w.heap.size + 1]? = some (.cells #[.int .i64 N, .slice a bs.length cap] 24 (0,0))) := hidE (blk_below hb (lt_of_block XS0.out) XS0.out)
  have XE1 : Hid (W1.heap[w.heap.size + 1 + 1]? = some (.cells #[.int .i64 E.lo, .int .i64 E.hi, .slice z.a2 E.yl.length z.c2, .slice z.a3 E.yh.length z.c3, .slice z.a4 E.fl.length z.c4, .slice z.a5 E.fh.length z.c5] 76 (0,0))) := hidE (blk_below hb (lt_of_block XE0.out) XE0.out)
  clear hb BB0 FF0 SS0 EE0 XF0 XS0 XE0
  clear hbx
  have s0 : W1.cell? ⟨w.heap.size + 1, 0, none⟩ = some (.int .i64 N) := c_e XS1.out rfl
  have s1 : W1.cell? ⟨w.heap.size + 1, 1, none⟩ = some (.slice a bs.length cap) := c_e XS1.out rfl
  have HC := hidE (HFW.out W1)
  go_wp2_with fail
  refine HC.out.mono ?_
  rintro e W2 ⟨rfl, hbx⟩
  clear HC s0 s1
  have hb : Below W1.heap.size W1 W2 := hbx
  have BB2 : Hid (Below w.heap.size w W2) := hidE (BB1.out.trans (hb.mono BB1.out.size))
  have FF2 : Hid (FldAt W2 x F) := hidE (FF1.out.below hb)
  have SS2 : Hid (BoundsAt W2 a bs) := hidE (SS1.out.below hb (Nat.le_refl _))
  have EE2 : Hid (ExtAt W2 z E) := hidE (EE1.out.below hb)
  have XF2 : Hid (W2.heap[w.heap.size]? = some (.cells #[.slice x.aS F.sts.length x.cS, .slice x.aL F.lms.length x.cL, .slice x.aP F.prs.length x.cP, .slice x.aV F.vrs.length x.cV] 46 (0,0))) := hidE (blk_below hb (lt_of_block XF1.out) XF1.out)
  have XS2 : Hid (W2.heap[w.heap.size + 1]? = some (.cells #[.int .i64 N, .slice a bs.length cap] 24 (0,0))) := hidE (blk_below hb (lt_of_block XS1.out) XS1.out)
  have XE2 : Hid (W2.heap[w.heap.size + 1 + 1]? = some (.cells #[.int .i64 E.lo, .int .i64 E.hi, .slice z.a2 E.yl.length z.c2, .slice z.a3 E.yh.length z.c3, .slice z.a4 E.fl.length z.c4, .slice z.a5 E.fh.length z.c5] 76 (0,0))) := hidE (blk_below hb (lt_of_block XE1.out) XE1.out)
  clear hb BB1 FF1 SS1 EE1 XF1 XS1 XE1
  clear hbx
  have t0 : W2.cell? ⟨w.heap.size + 1 + 1, 0, none⟩ = some (.int .i64 E.lo) := c_e XE2.out rfl
  have t1 : W2.cell? ⟨w.heap.size + 1 + 1, 1, none⟩ = some (.int .i64 E.hi) := c_e XE2.out rfl
  have t2 : W2.cell? ⟨w.heap.size + 1 + 1, 2, none⟩ = some (.slice z.a2 E.yl.length z.c2) := c_e XE2.out rfl
  have t3 : W2.cell? ⟨w.heap.size + 1 + 1, 3, none⟩ = some (.slice z.a3 E.yh.length z.c3) := c_e XE2.out rfl
  have t4 : W2.cell? ⟨w.heap.size + 1 + 1, 4, none⟩ = some (.slice z.a4 E.fl.length z.c4) := c_e XE2.out rfl
  have t5 : W2.cell? ⟨w.heap.size + 1 + 1, 5, none⟩ = some (.slice z.a5 E.fh.length z.c5) := c_e XE2.out rfl
  go_wp2_with fail
  refine (HAL.out _).mono ?_
  rintro e w9 ⟨rfl, hb9⟩
  have B9 := hidE (BB2.out.trans (hb9.mono BB2.out.size))
  clear hb9
  go_wp2_with fail
  go_ret
  exact ⟨by simp, B9.out⟩
 have hd3 : decide ((E.fh.length : Int) > 2010) = false := by simp; omega
 have hd3' : decide (2010 < E.fh.length) = false := by simp; omega
 clear hv0 hv1 hv2 hv3
 go_enter Tryz.func17, Tryz.ntmps17
 go_upto_region 1 with fail
 rw [← hW0]
 clear hW0
 have f0 : W0.cell? ⟨w.heap.size, 0, none⟩ = some (.slice x.aS F.sts.length x.cS) := c_e XF0.out rfl
 have f1 : W0.cell? ⟨w.heap.size, 1, none⟩ = some (.slice x.aL F.lms.length x.cL) := c_e XF0.out rfl
 have f2 : W0.cell? ⟨w.heap.size, 2, none⟩ = some (.slice x.aP F.prs.length x.cP) := c_e XF0.out rfl
 have f3 : W0.cell? ⟨w.heap.size, 3, none⟩ = some (.slice x.aV F.vrs.length x.cV) := c_e XF0.out rfl
 have HC := hidE (HPL.out W0)
 go_wp2_with fail
 refine HC.out.mono ?_
 rintro e W1 ⟨rfl, hbx⟩
 clear HC f0 f1 f2 f3
 have hb : Below W0.heap.size W0 W1 := hbx
 have BB1 : Hid (Below w.heap.size w W1) := hidE (BB0.out.trans (hb.mono BB0.out.size))
 have FF1 : Hid (FldAt W1 x F) := hidE (FF0.out.below hb)
 have SS1 : Hid (BoundsAt W1 a bs) := hidE (SS0.out.below hb (Nat.le_refl _))
 have EE1 : Hid (ExtAt W1 z E) := hidE (EE0.out.below hb)
 have XF1 : Hid (W1.heap[w.heap.size]? = some (.cells #[.slice x.aS F.sts.length x.cS, .slice x.aL F.lms.length x.cL, .slice x.aP F.prs.length x.cP, .slice x.aV F.vrs.length x.cV] 46 (0,0))) := hidE (blk_below hb (lt_of_block XF0.out) XF0.out)
 have XS1 : Hid (W1.heap[w.heap.size + 1]? = some (.cells #[.int .i64 N, .slice a bs.length cap] 24 (0,0))) := hidE (blk_below hb (lt_of_block XS0.out) XS0.out)
 have XE1 : Hid (W1.heap[w.heap.size + 1 + 1]? = some (.cells #[.int .i64 E.lo, .int .i64 E.hi, .slice z.a2 E.yl.length z.c2, .slice z.a3 E.yh.length z.c3, .slice z.a4 E.fl.length z.c4, .slice z.a5 E.fh.length z.c5] 76 (0,0))) := hidE (blk_below hb (lt_of_block XE0.out) XE0.out)
 clear hb BB0 FF0 SS0 EE0 XF0 XS0 XE0
 clear hbx
 have s0 : W1.cell? ⟨w.heap.size + 1, 0, none⟩ = some (.int .i64 N) := c_e XS1.out rfl
 have s1 : W1.cell? ⟨w.heap.size + 1, 1, none⟩ = some (.slice a bs.length cap) := c_e XS1.out rfl
 have HC := hidE (HFW.out W1)
 go_wp2_with fail
 refine HC.out.mono ?_
 rintro e W2 ⟨rfl, hbx⟩
 clear HC s0 s1
 have hb : Below W1.heap.size W1 W2 := hbx
 have BB2 : Hid (Below w.heap.size w W2) := hidE (BB1.out.trans (hb.mono BB1.out.size))
 have FF2 : Hid (FldAt W2 x F) := hidE (FF1.out.below hb)
 have SS2 : Hid (BoundsAt W2 a bs) := hidE (SS1.out.below hb (Nat.le_refl _))
 have EE2 : Hid (ExtAt W2 z E) := hidE (EE1.out.below hb)
 have XF2 : Hid (W2.heap[w.heap.size]? = some (.cells #[.slice x.aS F.sts.length x.cS, .slice x.aL F.lms.length x.cL, .slice x.aP F.prs.length x.cP, .slice x.aV F.vrs.length x.cV] 46 (0,0))) := hidE (blk_below hb (lt_of_block XF1.out) XF1.out)
 have XS2 : Hid (W2.heap[w.heap.size + 1]? = some (.cells #[.int .i64 N, .slice a bs.length cap] 24 (0,0))) := hidE (blk_below hb (lt_of_block XS1.out) XS1.out)
 have XE2 : Hid (W2.heap[w.heap.size + 1 + 1]? = some (.cells #[.int .i64 E.lo, .int .i64 E.hi, .slice z.a2 E.yl.length z.c2, .slice z.a3 E.yh.length z.c3, .slice z.a4 E.fl.length z.c4, .slice z.a5 E.fh.length z.c5] 76 (0,0))) := hidE (blk_below hb (lt_of_block XE1.out) XE1.out)
 clear hb BB1 FF1 SS1 EE1 XF1 XS1 XE1
 clear hbx
 have f0 : W2.cell? ⟨w.heap.size, 0, none⟩ = some (.slice x.aS F.sts.length x.cS) := c_e XF2.out rfl
 have f1 : W2.cell? ⟨w.heap.size, 1, none⟩ = some (.slice x.aL F.lms.length x.cL) := c_e XF2.out rfl
 have f2 : W2.cell? ⟨w.heap.size, 2, none⟩ = some (.slice x.aP F.prs.length x.cP) := c_e XF2.out rfl
 have f3 : W2.cell? ⟨w.heap.size, 3, none⟩ = some (.slice x.aV F.vrs.length x.cV) := c_e XF2.out rfl
 have s0 : W2.cell? ⟨w.heap.size + 1, 0, none⟩ = some (.int .i64 N) := c_e XS2.out rfl
 have s1 : W2.cell? ⟨w.heap.size + 1, 1, none⟩ = some (.slice a bs.length cap) := c_e XS2.out rfl
 have t0 : W2.cell? ⟨w.heap.size + 1 + 1, 0, none⟩ = some (.int .i64 E.lo) := c_e XE2.out rfl
 have t1 : W2.cell? ⟨w.heap.size + 1 + 1, 1, none⟩ = some (.int .i64 E.hi) := c_e XE2.out rfl
 have t2 : W2.cell? ⟨w.heap.size + 1 + 1, 2, none⟩ = some (.slice z.a2 E.yl.length z.c2) := c_e XE2.out rfl
 have t3 : W2.cell? ⟨w.heap.size + 1 + 1, 3, none⟩ = some (.slice z.a3 E.yh.length z.c3) := c_e XE2.out rfl
 have t4 : W2.cell? ⟨w.heap.size + 1 + 1, 4, none⟩ = some (.slice z.a4 E.fl.length z.c4) := c_e XE2.out rfl
 have t5 : W2.cell? ⟨w.heap.size + 1 + 1, 5, none⟩ = some (.slice z.a5 E.fh.length z.c5) := c_e XE2.out rfl
 have HC := hidE (HX1.out W2 FF2.out SS2.out EE2.out)
 go_wp2_with fail
 refine HC.out.mono ?_
 rintro e W3 ⟨rfl, hbx⟩
 clear HC f0 f1 f2 f3 s0 s1 t0 t1 t2 t3 t4 t5
 have hb : Below W2.heap.size W2 W3 := hbx
 have BB3 : Hid (Below w.heap.size w W3) := hidE (BB2.out.trans (hb.mono BB2.out.size))
 have FF3 : Hid (FldAt W3 x F) := hidE (FF2.out.below hb)
 have SS3 : Hid (BoundsAt W3 a bs) := hidE (SS2.out.below hb (Nat.le_refl _))
 have EE3 : Hid (ExtAt W3 z E) := hidE (EE2.out.below hb)
 have XF3 : Hid (W3.heap[w.heap.size]? = some (.cells #[.slice x.aS F.sts.length x.cS, .slice x.aL F.lms.length x.cL, .slice x.aP F.prs.length x.cP, .slice x.aV F.vrs.length x.cV] 46 (0,0))) := hidE (blk_below hb (lt_of_block XF2.out) XF2.out)
 have XS3 : Hid (W3.heap[w.heap.size + 1]? = some (.cells #[.int .i64 N, .slice a bs.length cap] 24 (0,0))) := hidE (blk_below hb (lt_of_block XS2.out) XS2.out)
 have XE3 : Hid (W3.heap[w.heap.size + 1 + 1]? = some (.cells #[.int .i64 E.lo, .int .i64 E.hi, .slice z.a2 E.yl.length z.c2, .slice z.a3 E.yh.length z.c3, .slice z.a4 E.fl.length z.c4, .slice z.a5 E.fh.length z.c5] 76 (0,0))) := hidE (blk_below hb (lt_of_block XE2.out) XE2.out)
 clear hb BB2 FF2 SS2 EE2 XF2 XS2 XE2
 clear hbx
 have f0 : W3.cell? ⟨w.heap.size, 0, none⟩ = some (.slice x.aS F.sts.length x.cS) := c_e XF3.out rfl
 have f1 : W3.cell? ⟨w.heap.size, 1, none⟩ = some (.slice x.aL F.lms.length x.cL) := c_e XF3.out rfl
 have f2 : W3.cell? ⟨w.heap.size, 2, none⟩ = some (.slice x.aP F.prs.length x.cP) := c_e XF3.out rfl
 have f3 : W3.cell? ⟨w.heap.size, 3, none⟩ = some (.slice x.aV F.vrs.length x.cV) := c_e XF3.out rfl
 have s0 : W3.cell? ⟨w.heap.size + 1, 0, none⟩ = some (.int .i64 N) := c_e XS3.out rfl
 have s1 : W3.cell? ⟨w.heap.size + 1, 1, none⟩ = some (.slice a bs.length cap) := c_e XS3.out rfl
 have t0 : W3.cell? ⟨w.heap.size + 1 + 1, 0, none⟩ = some (.int .i64 E.lo) := c_e XE3.out rfl
 have t1 : W3.cell? ⟨w.heap.size + 1 + 1, 1, none⟩ = some (.int .i64 E.hi) := c_e XE3.out rfl
 have t2 : W3.cell? ⟨w.heap.size + 1 + 1, 2, none⟩ = some (.slice z.a2 E.yl.length z.c2) := c_e XE3.out rfl
 have t3 : W3.cell? ⟨w.heap.size + 1 + 1, 3, none⟩ = some (.slice z.a3 E.yh.length z.c3) := c_e XE3.out rfl
 have t4 : W3.cell? ⟨w.heap.size + 1 + 1, 4, none⟩ = some (.slice z.a4 E.fl.length z.c4) := c_e XE3.out rfl
 have t5 : W3.cell? ⟨w.heap.size + 1 + 1, 5, none⟩ = some (.slice z.a5 E.fh.length z.c5) := c_e XE3.out rfl
 have HC := hidE (HX2.out W3 FF3.out SS3.out EE3.out)
 go_wp2_with fail
 refine HC.out.mono ?_
 rintro e W4 ⟨rfl, hbx⟩
 clear HC f0 f1 f2 f3 s0 s1 t0 t1 t2 t3 t4 t5
 have hb : Below W3.heap.size W3 W4 := hbx
 have BB4 : Hid (Below w.heap.size w W4) := hidE (BB3.out.trans (hb.mono BB3.out.size))
 have FF4 : Hid (FldAt W4 x F) := hidE (FF3.out.below hb)
 have SS4 : Hid (BoundsAt W4 a bs) := hidE (SS3.out.below hb (Nat.le_refl _))
 have EE4 : Hid (ExtAt W4 z E) := hidE (EE3.out.below hb)
 have XF4 : Hid (W4.heap[w.heap.size]? = some (.cells #[.slice x.aS F.sts.length x.cS, .slice x.aL F.lms.length x.cL, .slice x.aP F.prs.length x.cP, .slice x.aV F.vrs.length x.cV] 46 (0,0))) := hidE (blk_below hb (lt_of_block XF3.out) XF3.out)
 have XS4 : Hid (W4.heap[w.heap.size + 1]? = some (.cells #[.int .i64 N, .slice a bs.length cap] 24 (0,0))) := hidE (blk_below hb (lt_of_block XS3.out) XS3.out)
 have XE4 : Hid (W4.heap[w.heap.size + 1 + 1]? = some (.cells #[.int .i64 E.lo, .int .i64 E.hi, .slice z.a2 E.yl.length z.c2, .slice z.a3 E.yh.length z.c3, .slice z.a4 E.fl.length z.c4, .slice z.a5 E.fh.length z.c5] 76 (0,0))) := hidE (blk_below hb (lt_of_block XE3.out) XE3.out)
 clear hb BB3 FF3 SS3 EE3 XF3 XS3 XE3
 clear hbx
 go_wp2_with fail
 refine (HAL.out _).mono ?_
 rintro e w9 ⟨rfl, hb9⟩
 have B9 := hidE (BB4.out.trans (hb9.mono BB4.out.size))
 clear hb9
 go_wp2_with fail
 go_ret
 exact ⟨by simp, B9.out⟩
end Go.Proofs.YthjmkmjojlfejaaGreat
namespace Go.Proofs.YthjmkmjojlfejaaGreat
open Go Go.ChangeShapes Go.WideShapes Go.ChangeAt Go.RowKit Go.Joins Go.Deep
theorem argOk24 : ArgOk 24 := ⟨by kernel_rfl, of_decide_eq_true (by kernel_rfl)⟩
section
variable {H : Type} {enc : TypeId × Value → H}
theorem bounds_trod {W : World} {n : Nat} {cs : List Value} {x : DataW H × List MemPlace} (h : DataW.trod enc Tryz.prog W 0 (fun _ => true) true n 22 cs = some x) :
 ∃ (a : Option Addr) (cap : Nat) (l : List Bd), cs = [.slice a l.length cap] ∧ BoundsAt W a l ∧ SliceOk a l.length cap ∧ l.length ≤ 9223372036854775807 ∧ ∀ b ∈ l, b.ok := by
 have c44 : Tryz.prog.cellsOf 81 = 4 := by kernel_rfl
 have c3 : Tryz.prog.cellsOf 3 = 1 := by kernel_rfl
 rcases open_slice Tryz.underlying22 h with ⟨h1, _⟩ | ⟨a, len, cap, m, n', D, Pl, hcs, _, hl, hm, hmm, _, hx⟩
 ·exact ⟨none, 0, [], h1, .inl rfl, fun _ => ⟨rfl, rfl⟩, by simp, by simp⟩
 ·have hmm' : m = cap := hmm
  rw [c44] at hx
  obtain ⟨l, hll, hlp⟩ := list_of (p := fun i (b : Bd) => (W.cell? ((a.add (i * 4)).add 0) = some (.int .i64 b.src) ∧ W.cell? ((a.add (i * 4)).add 1) = some (.int .i64 b.dst) ∧ W.cell? ((a.add (i * 4)).add 2) = some (.int .i64 b.most) ∧ W.cell? ((a.add (i * 4)).add 3) = some (.int .i64 b.rcd)) ∧ b.ok) len (fun i hi => by
   obtain ⟨cs', hc, ht⟩ := hx i (by omega)
   obtain ⟨_, hlen, hat⟩ := World.cells?_some hc
   match cs', hlen with
   | [u0, u1, u2, u3], _ =>
     obtain ⟨ys, n2, _, _, _, hyl, hf⟩ := DataW.trod_struct Tryz.underlying81 ht
     match ys, hyl with
     | [y0, y1, y2, y3], _ =>
       have f0 : DataW.trod enc Tryz.prog W 0 (fun _ => true) true n2 3 (([u0, u1, u2, u3].drop 0).take (Tryz.prog.cellsOf 3)) = some y0 := hf 0 _ rfl
       have f1 : DataW.trod enc Tryz.prog W 0 (fun _ => true) true n2 3 (([u0, u1, u2, u3].drop 1).take (Tryz.prog.cellsOf 3)) = some y1 := hf 1 _ rfl
       have f2 : DataW.trod enc Tryz.prog W 0 (fun _ => true) true n2 3 (([u0, u1, u2, u3].drop 2).take (Tryz.prog.cellsOf 3)) = some y2 := hf 2 _ rfl
       have f3 : DataW.trod enc Tryz.prog W 0 (fun _ => true) true n2 3 (([u0, u1, u2, u3].drop 3).take (Tryz.prog.cellsOf 3)) = some y3 := hf 3 _ rfl
       rw [c3] at f0 f1 f2 f3
       obtain ⟨k0, e0, o0⟩ := int_cell (v := u0) (y := y0) f0
       obtain ⟨k1, e1, o1⟩ := int_cell (v := u1) (y := y1) f1
       obtain ⟨k2, e2, o2⟩ := int_cell (v := u2) (y := y2) f2
       obtain ⟨k3, e3, o3⟩ := int_cell (v := u3) (y := y3) f3
       subst e0 e1 e2 e3
       exact ⟨⟨k0, k1, k2, k3⟩, ⟨hat 0 (by omega), hat 1 (by omega), hat 2 (by omega), hat 3 (by omega)⟩, o0, o1, o2, o3⟩)
  have hm2 : cap ≤ 9223372036854775807 := hm
  refine ⟨some a, cap, l, by rw [hcs, hll], ?_, (fun e => by cases e), by omega, fun x hx => ?_⟩
  ·by_cases h0 : len = 0
   ·exact .inl (List.length_eq_zero_iff.1 (by omega))
   ·have z := (hlp 0 (by omega)).1.1
    have ha : a.spot = none := by
     have := (cell_plain z).1
     unfold Addr.add at this
     simpa using this
    obtain ⟨b, off, sp⟩ := a
    simp only at ha
    subst ha
    simp only [add_plain] at hlp
    refine .inr ⟨b, off, rfl, ?_, fun i hi => (hlp i hi).1⟩
    exact (cell_plain (hlp 0 (by omega)).1.1).2
  ·obtain ⟨i, hi, rfl⟩ := List.getElem_of_mem hx
   exact (hlp i hi).2
set_option maxRecDepth 100000 in
theorem open_sys {b0 : Nat} {W : World} {v : Value} {d : DataW H} {p : List MemPlace} (hv : Value.okWide Tryz.prog W .any b0 24 v) (h : DataW.Trod enc Tryz.prog W 0 (fun _ => true) true 24 v d p) :
 ∃ (N : Int) (a : Option Addr) (cap : Nat) (bs : List Bd), v = .agg #[.int .i64 N, .slice a bs.length cap] ∧ i64ok N ∧ BoundsAt W a bs ∧ SliceOk a bs.length cap ∧ bs.length ≤ 9223372036854775807 ∧ ∀ b ∈ bs, b.ok := by
 obtain ⟨v0, v1, y0, y1, n, rfl, _, _, h0, h1⟩ := open_agg2 Tryz.underlying24 (by kernel_rfl) (by kernel_rfl) hv h
 obtain ⟨N, rfl, hN⟩ := int_cell h0
 obtain ⟨a, cap, bs, e, h2⟩ := bounds_trod h1
 exact ⟨N, a, cap, bs, by simpa using e, hN, h2⟩
end
theorem argOk76 : ArgOk 76 := ⟨by kernel_rfl, of_decide_eq_true (by kernel_rfl)⟩
section
variable {H : Type} {enc : TypeId × Value → H}
theorem ext_trod {W : World} {n : Nat} {cs : List Value} {y : DataW H × List MemPlace} (hl : cs.length = 6) (h : DataW.trod enc Tryz.prog W 0 (fun _ => true) true n 76 cs = some y) : ∃ (z : EV) (E : Ext), cs = (z.arr E).toList ∧ ExtAt W z E := by
 have c3 : Tryz.prog.cellsOf 3 = 1 := by kernel_rfl
 have c25 : Tryz.prog.cellsOf 25 = 1 := by kernel_rfl
 match cs, hl with
 | [u0, u1, u2, u3, u4, u5], _ =>
   obtain ⟨ys, n2, _, _, _, hyl, hf⟩ := DataW.trod_struct Tryz.underlying76 h
   match ys, hyl with
   | [y0, y1, y2, y3, y4, y5], _ =>
     have f0 : DataW.trod enc Tryz.prog W 0 (fun _ => true) true n2 3 (([u0, u1, u2, u3, u4, u5].drop 0).take (Tryz.prog.cellsOf 3)) = some y0 := hf 0 _ rfl
     have f1 : DataW.trod enc Tryz.prog W 0 (fun _ => true) true n2 3 (([u0, u1, u2, u3, u4, u5].drop 1).take (Tryz.prog.cellsOf 3)) = some y1 := hf 1 _ rfl
     have f2 : DataW.trod enc Tryz.prog W 0 (fun _ => true) true n2 25 (([u0, u1, u2, u3, u4, u5].drop 2).take (Tryz.prog.cellsOf 25)) = some y2 := hf 2 _ rfl
     have f3 : DataW.trod enc Tryz.prog W 0 (fun _ => true) true n2 25 (([u0, u1, u2, u3, u4, u5].drop 3).take (Tryz.prog.cellsOf 25)) = some y3 := hf 3 _ rfl
     have f4 : DataW.trod enc Tryz.prog W 0 (fun _ => true) true n2 25 (([u0, u1, u2, u3, u4, u5].drop 4).take (Tryz.prog.cellsOf 25)) = some y4 := hf 4 _ rfl
     have f5 : DataW.trod enc Tryz.prog W 0 (fun _ => true) true n2 25 (([u0, u1, u2, u3, u4, u5].drop 5).take (Tryz.prog.cellsOf 25)) = some y5 := hf 5 _ rfl
     rw [c3] at f0 f1
     rw [c25] at f2 f3 f4 f5
     obtain ⟨k0, rfl, _⟩ := int_cell (v := u0) (y := y0) f0
     obtain ⟨k1, rfl, _⟩ := int_cell (v := u1) (y := y1) f1
     obtain ⟨a2, p2, l2, e2, r2, _, m2, _⟩ := ints_trod (cs := [u2]) f2
     obtain ⟨a3, p3, l3, e3, r3, _, m3, _⟩ := ints_trod (cs := [u3]) f3
     obtain ⟨a4, p4, l4, e4, r4, _, m4, _⟩ := ints_trod (cs := [u4]) f4
     obtain ⟨a5, p5, l5, e5, r5, _, m5, _⟩ := ints_trod (cs := [u5]) f5
     simp only [List.cons.injEq, and_true] at e2 e3 e4 e5
     subst e2 e3 e4 e5
     exact ⟨⟨a2, p2, a3, p3, a4, p4, a5, p5⟩, ⟨k0, k1, l2, l3, l4, l5⟩, rfl, ⟨r2, r3, r4, r5, m2, m3, m4, m5⟩⟩
set_option maxRecDepth 100000 in
theorem open_ext {b0 : Nat} {W : World} {v : Value} {d : DataW H} {p : List MemPlace} (hv : Value.okWide Tryz.prog W .any b0 76 v) (h : DataW.Trod enc Tryz.prog W 0 (fun _ => true) true 76 v d p) :
 ∃ (z : EV) (E : Ext), v = z.val E ∧ ExtAt W z E := by
 obtain ⟨cs, rfl, hsz⟩ := okWide_struct Tryz.underlying76 hv
 have h6 : cs.size = 6 := hsz.trans (by kernel_rfl)
 obtain ⟨fuel, hf⟩ := h
 obtain ⟨z, E, e, he⟩ := ext_trod (cs := cs.toList) (by simpa using h6) (by simpa [Value.cells] using hf)
 exact ⟨z, E, by unfold EV.val; rw [Array.toList_inj.1 e], he⟩
end
end Go.Proofs.YthjmkmjojlfejaaGreat
