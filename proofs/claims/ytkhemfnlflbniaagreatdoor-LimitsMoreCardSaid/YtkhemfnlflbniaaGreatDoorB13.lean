/- Merged text 13 of the base: E5, E6, E7, E8, E9, E10, E11, E12, E13, Y9, Y5, Yh, E19, E23. No conditions beyond those stated. -/
import Derived.Test.YtkhemfnlflbniaaGreatDoorB12
import Derived.Test.YtkhemfnlflbniaaGreatDoorB10
import Derived.Test.YtkhemfnlflbniaaGreatDoorB01
import Derived.Test.YtkhemfnlflbniaaGreatDoorB03
import Derived.Test.YtkhemfnlflbniaaGreatDoorB04
import Derived.Test.YtkhemfnlflbniaaGreatDoorB07
import Derived.Test.YtkhemfnlflbniaaGreatDoorB06
import Derived.Test.YtkhemfnlflbniaaGreatDoorB05
import Derived.Deep.RegionHeld3
namespace Go.Proofs.YtkhemfnlflbniaaGreatDoor
open Go Go.RowKit Go.Shelf
set_option maxRecDepth 100000 in
set_option maxHeartbeats 4000000 in
theorem regionW_any (w : World) (b : Nat) (y : WV) (F : Fld) (l : List Rcd) (i s : Int) (h : WAt w b y F l) (hg : Good F l) (ha : agreeB F l = true) (hi : limB F i = true) (hs : staB F s = true) :
 Calls Tryz.prog 76 #[.pointer (some ⟨b, 0, none⟩), .agg #[.int .i64 i, .int .i64 s]] w fun e w' => e = .returned (.tuple #[.int .i64 (lowE F l (ptS F i s)), .int .i64 (highE F l (ptS F i s))]) ∧ Below w.heap.size w w' := by
 have HP := hidE (fun W (q : WAt W b y F l) => pointW_any W b y F l i s q hg.fld hi hs)
 have hN : i64ok (ptN F) := by have := pt_le hg.fld; unfold i64ok; omega
 have HR := hidE (fun W (q : WAt W b y F l) => (by
  have := range_any W (ptN F) y.o y.c (sysL F l) (ptS F i s) hN (Nat.le_trans q.cap.1 q.cap.2) q.bnd
  rw [region_eq hg ha (ptS_bd hi hs).2.1] at this
  exact this))
 obtain ⟨lo, hlo⟩ : ∃ v, lowE F l (ptS F i s) = v := ⟨_, rfl⟩
 obtain ⟨hi9, hhi⟩ : ∃ v, highE F l (ptS F i s) = v := ⟨_, rfl⟩
 rw [hlo, hhi] at HR ⊢
 obtain ⟨p, hp⟩ : ∃ v : Int, ((ptS F i s : Nat) : Int) = v := ⟨_, rfl⟩
 rw [hp] at HR HP
 obtain ⟨P, hP⟩ : ∃ P : Int, ((ptN F : Nat) : Int) = P := ⟨_, rfl⟩
 obtain ⟨w0, hw0⟩ : ∃ W, W = w.alloc (.cells #[.int .i64 i, .int .i64 s] 30) := ⟨_, rfl⟩
 have B0 := hidE (show Below w.heap.size w w0 by rw [hw0]; exact (Below.refl _ _).alloc (Nat.le_refl _) _)
 have X0 := hidE (show w0.heap[w.heap.size]? = some (.cells #[.int .i64 i, .int .i64 s] 30 (0,0)) by rw [hw0]; exact heap_alloc_new _ _)
 have HX := h.next B0.out
 have hc1 : (y.arr F l)[0]? = some (.int .i64 P) := by rw [← hP]; rfl
 have HLT := hidE HX.lt
 have HBX := hidE HX.box
 have HW := hidE HX
 rw [hP] at HR
 unfold Sp.arr at HR
 clear hlo hhi hp hP h hg ha hi hs hN HX
 go_enter Tryz.func76, Tryz.ntmps76
 go_upto_region 1 with fail
 rw [← hw0]
 clear hw0
 go_cut [6, 7] (fun t _ wx => ∃ g, t = .pointer (some ⟨g, 0, none⟩) ∧ Hid (wx.heap[g]? = some (.cells #[.int .i64 lo, .int .i64 hi9, .bool true, .bool true] 115 (0,0))) ∧ Hid (Below w0.heap.size w0 wx))
 case first =>
  refine wp_region_F (S := Below w0.heap.size w0) (last := 100) (by kernel_rfl) ?_
  obtain ⟨W0, hW0⟩ : ∃ W, W = w0.drew := ⟨_, rfl⟩
  have hS0 : Below w0.heap.size w0 W0 := by rw [hW0]; exact (Below.refl _ _).drew
  rw [← hW0]
  clear hW0
  refine tF 0 9 (.pointer (some ⟨b, 0, none⟩)) rfl (by kernel_rfl) rfl (fun _ _ _ h => h) (fun V hV => ?_) hS0 ?_
  ·simp [go_sem, execOp]
  try simp only [sA, sB, sC]
  refine tF 1 10 (.pointer (some ⟨b, 0, none⟩)) rfl (by kernel_rfl) rfl (fun _ _ _ h => h) (fun V hV => ?_) hS0 ?_
  ·simp [go_sem, execOp]
  try simp only [sA, sB, sC]
  refine tF 2 11 (.pointer (some ⟨b, 0, none⟩)) rfl (by kernel_rfl) rfl (fun _ _ _ h => h) (fun V hV => ?_) hS0 ?_
  ·simp [go_sem, execOp]
  try simp only [sA, sB, sC]
  refine tF 3 12 (.agg #[.int .i64 P, .slice y.o (sysL F l).length y.c]) rfl (by kernel_rfl) rfl (fun _ _ _ h => h) (fun V hV => ?_) hS0 ?_
  ·(have z0 : V.cell? ⟨b, 0, none⟩ = some (.int .i64 P) := (rowc (blk_below hV HLT.out HBX.out) 0).trans hc1; have z1 : V.cell? ⟨b, 1, none⟩ = some (.slice y.o (sysL F l).length y.c) := (rowc (blk_below hV HLT.out HBX.out) 1).trans rfl; simp [go_sem, execOp, z0, z1])
  try simp only [sA, sB, sC]
  refine tF 4 13 (.pointer (some ⟨b, 0, none⟩)) rfl (by kernel_rfl) rfl (fun _ _ _ h => h) (fun V hV => ?_) hS0 ?_
  ·simp [go_sem, execOp]
  try simp only [sA, sB, sC]
  refine tF 5 14 (.agg #[.int .i64 i, .int .i64 s]) rfl (by kernel_rfl) rfl (fun _ _ _ h => h) (fun V hV => ?_) hS0 ?_
  ·exact yload rfl rfl (blk_below hV (lt_of_block X0.out) X0.out) Tryz.underlying30 rfl (by kernel_rfl)
  try simp only [sA, sB, sC]
  refine wpAnyF_two 6 11 rfl rfl (by kernel_rfl) (fun K hK => ?_) (fun K hK => ?_)
  ·go_simp
   go_at_call 83
   refine (HP.out _ (HW.out.next hS0)).mono ?_
   rintro e wq1 ⟨rfl, hb1⟩
   have hS1 : Below w0.heap.size w0 wq1 := hS0.trans (hb1.mono hS0.size)
   clear hb1
   go_wp2_with fail
   refine hK.out _ _ (.inr hS1) ?_
   clear hK K
   try simp only [Act.put, sA, sB, sC]
   refine wpAnyF_two 7 11 rfl rfl (by kernel_rfl) (fun K hK => ?_) (fun K hK => ?_)
   ·go_simp
    go_at_call 140
    refine (HR.out _ (HW.out.next hS1)).mono ?_
    rintro e wq2 ⟨rfl, hb2⟩
    have hS2 : Below w0.heap.size w0 wq2 := hS1.trans (hb2.mono hS1.size)
    clear hb2
    go_wp2_with fail
    refine hK.out _ _ (.inr hS2) ?_
    clear hK K
    try simp only [Act.put, sA, sB, sC]
    refine tF 8 8 (.tuple #[.agg #[.int .i64 lo, .int .i64 hi9, .bool true, .bool true], .int .i64 0]) rfl (by kernel_rfl) rfl (fun _ _ _ h => h) (fun V hV => ?_) hS2 ?_
    ·simp [go_sem, execOp]
    try simp only [sA, sB, sC]
    refine tF 9 17 (.agg #[.int .i64 lo, .int .i64 hi9, .bool true, .bool true]) rfl (by kernel_rfl) rfl (fun _ _ _ h => h) (fun V hV => ?_) hS2 ?_
    ·simp [go_sem, execOp]
    try simp only [sA, sB, sC]
    refine tF 10 18 (.int .i64 0) rfl (by kernel_rfl) rfl (fun _ _ _ h => h) (fun V hV => ?_) hS2 ?_
    ·simp [go_sem, execOp]
    try simp only [sA, sB, sC]
    refine wpAnyF_step 11 rfl (by kernel_rfl) (fun K hK => ?_)
    go_simp
    obtain ⟨wq3, hW3⟩ : ∃ Z, Z = wq2.alloc (.cells #[.int .i64 0, .int .i64 0, .bool false, .bool false] 115) := ⟨_, rfl⟩
    rw [← hW3]
    have hS3 : Below w0.heap.size w0 wq3 := by rw [hW3]; exact hS2.alloc hS2.size _
    have XG3 : wq3.heap[wq2.heap.size]? = some (.cells #[.int .i64 0, .int .i64 0, .bool false, .bool false] 115 (0,0)) := by rw [hW3]; exact heap_alloc_new _ _
    have HGE : w0.heap.size ≤ wq2.heap.size := hS2.size
    obtain ⟨g, hg⟩ : ∃ g, wq2.heap.size = g := ⟨_, rfl⟩
    rw [hg] at XG3 HGE ⊢
    clear hW3 hg
    refine hK.out _ _ (.inr hS3) ?_
    clear hK K
    try simp only [Act.put, sA, sB, sC]
    refine wpAnyF_step 12 rfl (by kernel_rfl) (fun K hK => ?_)
    refine Eq.mpr (if_pos (by kernel_rfl)) ?_
    refine wp_store_row 115 _ _ rfl g #[.int .i64 lo, .int .i64 hi9, .bool true, .bool true] rfl rfl 115 _ XG3 (by kernel_rfl) rfl (by simp [Value.oneCell']) ?_
    have XF := setRow_heap _ _ _ #[.int .i64 lo, .int .i64 hi9, .bool true, .bool true] _ _ XG3
    have hSF := below_setRow (cs := #[.int .i64 lo, .int .i64 hi9, .bool true, .bool true]) hS3 HGE
    refine hK.out _ _ (.inr hSF) ?_
    clear hK K
    try simp only [Act.put, sA]
    refine tF 13 7 (.int .i64 0) rfl (by kernel_rfl) rfl (fun _ _ _ h => h) (fun V hV => ?_) hSF ?_
    ·simp [go_sem, execOp]
    try simp only [sA, sB, sC]
    refine wpAnyF_done (by kernel_rfl) ?_ _
    go_wp2_with fail
    go_meet
    exact ⟨g, rfl, hidE XF, hidE hSF⟩
   ·go_simp
    obtain ⟨wq2, hW2⟩ : ∃ Z, Z = wq1.alloc (.cells #[.int .i64 0, .int .i64 0, .bool false, .bool false] 115) := ⟨_, rfl⟩
    rw [← hW2]
    have hS2 : Below w0.heap.size w0 wq2 := by rw [hW2]; exact hS1.alloc hS1.size _
    have XG2 : wq2.heap[wq1.heap.size]? = some (.cells #[.int .i64 0, .int .i64 0, .bool false, .bool false] 115 (0,0)) := by rw [hW2]; exact heap_alloc_new _ _
    have HGE : w0.heap.size ≤ wq1.heap.size := hS1.size
    obtain ⟨g, hg⟩ : ∃ g, wq1.heap.size = g := ⟨_, rfl⟩
    rw [hg] at XG2 HGE ⊢
    clear hW2 hg
    refine hK.out _ _ (.inr hS2) ?_
    clear hK K
    try simp only [Act.put, sA, sB, sC]
    refine wpAnyF_step 7 rfl (by kernel_rfl) (fun K hK => ?_)
    go_simp
    go_at_call 140
    refine (HR.out _ (HW.out.next hS2)).mono ?_
    rintro e wq3 ⟨rfl, hb3⟩
    have hS3 : Below w0.heap.size w0 wq3 := hS2.trans (hb3.mono hS2.size)
    have XG3 := blk_below hb3 (lt_of_block XG2) XG2
    clear XG2
    clear hb3
    go_wp2_with fail
    refine hK.out _ _ (.inr hS3) ?_
    clear hK K
    try simp only [Act.put, sA, sB, sC]
    refine tF 8 8 (.tuple #[.agg #[.int .i64 lo, .int .i64 hi9, .bool true, .bool true], .int .i64 0]) rfl (by kernel_rfl) rfl (fun _ _ _ h => h) (fun V hV => ?_) hS3 ?_
    ·simp [go_sem, execOp]
    try simp only [sA, sB, sC]
    refine tF 9 17 (.agg #[.int .i64 lo, .int .i64 hi9, .bool true, .bool true]) rfl (by kernel_rfl) rfl (fun _ _ _ h => h) (fun V hV => ?_) hS3 ?_
    ·simp [go_sem, execOp]
    try simp only [sA, sB, sC]
    refine tF 10 18 (.int .i64 0) rfl (by kernel_rfl) rfl (fun _ _ _ h => h) (fun V hV => ?_) hS3 ?_
    ·simp [go_sem, execOp]
    try simp only [sA, sB, sC]
    refine wpAnyF_step 12 rfl (by kernel_rfl) (fun K hK => ?_)
    refine Eq.mpr (if_pos (by kernel_rfl)) ?_
    refine wp_store_row 115 _ _ rfl g #[.int .i64 lo, .int .i64 hi9, .bool true, .bool true] rfl rfl 115 _ XG3 (by kernel_rfl) rfl (by simp [Value.oneCell']) ?_
    have XF := setRow_heap _ _ _ #[.int .i64 lo, .int .i64 hi9, .bool true, .bool true] _ _ XG3
    have hSF := below_setRow (cs := #[.int .i64 lo, .int .i64 hi9, .bool true, .bool true]) hS3 HGE
    refine hK.out _ _ (.inr hSF) ?_
    clear hK K
    try simp only [Act.put, sA]
    refine tF 13 7 (.int .i64 0) rfl (by kernel_rfl) rfl (fun _ _ _ h => h) (fun V hV => ?_) hSF ?_
    ·simp [go_sem, execOp]
    try simp only [sA, sB, sC]
    refine wpAnyF_done (by kernel_rfl) ?_ _
    go_wp2_with fail
    go_meet
    exact ⟨g, rfl, hidE XF, hidE hSF⟩
  ·go_simp
   obtain ⟨wq1, hW1⟩ : ∃ Z, Z = W0.alloc (.cells #[.int .i64 0, .int .i64 0, .bool false, .bool false] 115) := ⟨_, rfl⟩
   rw [← hW1]
   have hS1 : Below w0.heap.size w0 wq1 := by rw [hW1]; exact hS0.alloc hS0.size _
   have XG1 : wq1.heap[W0.heap.size]? = some (.cells #[.int .i64 0, .int .i64 0, .bool false, .bool false] 115 (0,0)) := by rw [hW1]; exact heap_alloc_new _ _
   have HGE : w0.heap.size ≤ W0.heap.size := hS0.size
   obtain ⟨g, hg⟩ : ∃ g, W0.heap.size = g := ⟨_, rfl⟩
   rw [hg] at XG1 HGE ⊢
   clear hW1 hg
   refine hK.out _ _ (.inr hS1) ?_
   clear hK K
   try simp only [Act.put, sA, sB, sC]
   refine wpAnyF_step 6 rfl (by kernel_rfl) (fun K hK => ?_)
   go_simp
   go_at_call 83
   refine (HP.out _ (HW.out.next hS1)).mono ?_
   rintro e wq2 ⟨rfl, hb2⟩
   have hS2 : Below w0.heap.size w0 wq2 := hS1.trans (hb2.mono hS1.size)
   have XG2 := blk_below hb2 (lt_of_block XG1) XG1
   clear XG1
   clear hb2
   go_wp2_with fail
   refine hK.out _ _ (.inr hS2) ?_
   clear hK K
   try simp only [Act.put, sA, sB, sC]
   refine wpAnyF_step 7 rfl (by kernel_rfl) (fun K hK => ?_)
   go_simp
   go_at_call 140
   refine (HR.out _ (HW.out.next hS2)).mono ?_
   rintro e wq3 ⟨rfl, hb3⟩
   have hS3 : Below w0.heap.size w0 wq3 := hS2.trans (hb3.mono hS2.size)
   have XG3 := blk_below hb3 (lt_of_block XG2) XG2
   clear XG2
   clear hb3
   go_wp2_with fail
   refine hK.out _ _ (.inr hS3) ?_
   clear hK K
   try simp only [Act.put, sA, sB, sC]
   refine tF 8 8 (.tuple #[.agg #[.int .i64 lo, .int .i64 hi9, .bool true, .bool true], .int .i64 0]) rfl (by kernel_rfl) rfl (fun _ _ _ h => h) (fun V hV => ?_) hS3 ?_
   ·simp [go_sem, execOp]
   try simp only [sA, sB, sC]
   refine tF 9 17 (.agg #[.int .i64 lo, .int .i64 hi9, .bool true, .bool true]) rfl (by kernel_rfl) rfl (fun _ _ _ h => h) (fun V hV => ?_) hS3 ?_
   ·simp [go_sem, execOp]
   try simp only [sA, sB, sC]
   refine tF 10 18 (.int .i64 0) rfl (by kernel_rfl) rfl (fun _ _ _ h => h) (fun V hV => ?_) hS3 ?_
   ·simp [go_sem, execOp]
   try simp only [sA, sB, sC]
   refine wpAnyF_step 12 rfl (by kernel_rfl) (fun K hK => ?_)
   refine Eq.mpr (if_pos (by kernel_rfl)) ?_
   refine wp_store_row 115 _ _ rfl g #[.int .i64 lo, .int .i64 hi9, .bool true, .bool true] rfl rfl 115 _ XG3 (by kernel_rfl) rfl (by simp [Value.oneCell']) ?_
   have XF := setRow_heap _ _ _ #[.int .i64 lo, .int .i64 hi9, .bool true, .bool true] _ _ XG3
   have hSF := below_setRow (cs := #[.int .i64 lo, .int .i64 hi9, .bool true, .bool true]) hS3 HGE
   refine hK.out _ _ (.inr hSF) ?_
   clear hK K
   try simp only [Act.put, sA]
   refine tF 13 7 (.int .i64 0) rfl (by kernel_rfl) rfl (fun _ _ _ h => h) (fun V hV => ?_) hSF ?_
   ·simp [go_sem, execOp]
   try simp only [sA, sB, sC]
   refine wpAnyF_done (by kernel_rfl) ?_ _
   go_wp2_with fail
   go_meet
   exact ⟨g, rfl, hidE XF, hidE hSF⟩
 case rest =>
 obtain ⟨g, rfl, HG, HB⟩ := hcut
 obtain ⟨W3, rfl⟩ : ∃ x : World, x = wc := ⟨wc, rfl⟩
 have kg := rowc HG.out
 clear HG HR HP
 go_wp2_with fail
 go_quiet (fail)
 go_wp2_with fail
 go_ret2
 exact ⟨rfl, (B0.out.trans (HB.out.mono B0.out.size)).trans (below_drewN' _ _)⟩
set_option maxRecDepth 10000 in
set_option maxHeartbeats 2000000 in
theorem lowW_any (w : World) (b : Nat) (y : WV) (F : Fld) (l : List Rcd) (i s : Int) (h : WAt w b y F l) (hg : Good F l) (ha : agreeB F l = true) (hi : limB F i = true) (hs : staB F s = true) :
 Calls Tryz.prog 180 #[.pointer (some ⟨b, 0, none⟩), .agg #[.int .i64 i, .int .i64 s]] w fun e w' => e = .returned (.int .i64 (lowE F l (ptS F i s))) ∧ Below w.heap.size w w' := by
 obtain ⟨w0, hw0⟩ : ∃ W, W = w.alloc (.cells #[.int .i64 i, .int .i64 s] 30) := ⟨_, rfl⟩
 have B0 := hidE (show Below w.heap.size w w0 by rw [hw0]; exact (Below.refl _ _).alloc (Nat.le_refl _) _)
 have X0 := (show w0.heap[w.heap.size]? = some (.cells #[.int .i64 i, .int .i64 s] 30 (0,0)) by rw [hw0]; exact heap_alloc_new _ _)
 have HR := hidE (regionW_any w0 b y F l i s (h.next B0.out) hg ha hi hs)
 obtain ⟨lo, hlo⟩ : ∃ v, lowE F l (ptS F i s) = v := ⟨_, rfl⟩
 obtain ⟨hi9, hhi⟩ : ∃ v, highE F l (ptS F i s) = v := ⟨_, rfl⟩
 rw [hlo, hhi] at HR
 rw [hlo]
 have kk := rowc X0
 clear hlo hhi h hg ha hi hs X0
 go_enter Tryz.func180, Tryz.ntmps180
 go_upto_region 1 with fail
 rw [← hw0]
 clear hw0
 go_wp2_with fail
 refine HR.out.mono ?_
 rintro e w1 ⟨rfl, hb1⟩
 have B1 := hidE (B0.out.trans (hb1.mono B0.out.size))
 clear hb1 HR kk
 go_wp2_with fail
 go_ret
 exact ⟨rfl, B1.out⟩
set_option maxRecDepth 10000 in
set_option maxHeartbeats 2000000 in
theorem highW_any (w : World) (b : Nat) (y : WV) (F : Fld) (l : List Rcd) (i s : Int) (h : WAt w b y F l) (hg : Good F l) (ha : agreeB F l = true) (hi : limB F i = true) (hs : staB F s = true) :
 Calls Tryz.prog 179 #[.pointer (some ⟨b, 0, none⟩), .agg #[.int .i64 i, .int .i64 s]] w fun e w' => e = .returned (.int .i64 (highE F l (ptS F i s))) ∧ Below w.heap.size w w' := by
 obtain ⟨w0, hw0⟩ : ∃ W, W = w.alloc (.cells #[.int .i64 i, .int .i64 s] 30) := ⟨_, rfl⟩
 have B0 := hidE (show Below w.heap.size w w0 by rw [hw0]; exact (Below.refl _ _).alloc (Nat.le_refl _) _)
 have X0 := (show w0.heap[w.heap.size]? = some (.cells #[.int .i64 i, .int .i64 s] 30 (0,0)) by rw [hw0]; exact heap_alloc_new _ _)
 have HR := hidE (regionW_any w0 b y F l i s (h.next B0.out) hg ha hi hs)
 obtain ⟨lo, hlo⟩ : ∃ v, lowE F l (ptS F i s) = v := ⟨_, rfl⟩
 obtain ⟨hi9, hhi⟩ : ∃ v, highE F l (ptS F i s) = v := ⟨_, rfl⟩
 rw [hlo, hhi] at HR
 rw [hhi]
 have kk := rowc X0
 clear hlo hhi h hg ha hi hs X0
 go_enter Tryz.func179, Tryz.ntmps179
 go_upto_region 1 with fail
 rw [← hw0]
 clear hw0
 go_wp2_with fail
 refine HR.out.mono ?_
 rintro e w1 ⟨rfl, hb1⟩
 have B1 := hidE (B0.out.trans (hb1.mono B0.out.size))
 clear hb1 HR kk
 go_wp2_with fail
 go_ret
 exact ⟨rfl, B1.out⟩
set_option maxRecDepth 10000 in
set_option maxHeartbeats 2000000 in
theorem stripW_any (w : World) (b : Nat) (y : WV) (F : Fld) (l : List Rcd) (i s a c : Int) (h : WAt w b y F l) (hF : F.check = 0) :
 Calls Tryz.prog 124 #[.pointer (some ⟨b, 0, none⟩), .agg #[.int .i64 i, .int .i64 s, .int .i64 a, .int .i64 c]] w fun e w' => e = .returned (.bool (stripB F i s a c)) ∧ Below w.heap.size w w' := by
 obtain ⟨w0, hw0⟩ : ∃ W, W = w.alloc (.cells #[.int .i64 i, .int .i64 s, .int .i64 a, .int .i64 c] 40) := ⟨_, rfl⟩
 have B0 := hidE (show Below w.heap.size w w0 by rw [hw0]; exact (Below.refl _ _).alloc (Nat.le_refl _) _)
 have X0 := hidE (show w0.heap[w.heap.size]? = some (.cells #[.int .i64 i, .int .i64 s, .int .i64 a, .int .i64 c] 40 (0,0)) by rw [hw0]; exact heap_alloc_new _ _)
 have HC := hidE (corner_any w0 b y F l i s (h.next B0.out) hF)
 obtain ⟨R, hR⟩ : ∃ R, stripB F i s a c = R := ⟨_, rfl⟩
 rw [hR]
 unfold stripB at hR
 obtain ⟨p, hp⟩ : ∃ p, cornB F i s = p := ⟨_, rfl⟩
 rw [hp] at HC hR
 have kk := rowc X0.out
 clear hp h hF
 go_enter Tryz.func124, Tryz.ntmps124
 go_upto_region 1 with fail
 rw [← hw0]
 clear hw0
 go_wp2_with (go_at_call 75; refine HC.out.mono ?_; rintro e w1 ⟨rfl, hb1⟩; (have B1 := hidE (B0.out.trans (hb1.mono B0.out.size))); (have kk1 := rowc (blk_below hb1 (lt_of_block X0.out) X0.out)))
 all_goals
  go_ret
  exact ⟨by rw [← hR]; first | (simp [*]; done) | (simp [*]; intros; omega), B1.out⟩
theorem agrees_num {F : Fld} {l : List Rcd} (hg : Good F l) : (if (consistentE (ptN F) (sysL F l)).2 ≠ 0 ∨ (consistentE (ptN F) (sysL F l)).1 = false then (40 : Int) else 0) = if agreeB F l = true then 0 else 40 := by
 unfold consistentE agreeB keptP
 rw [if_pos (sys_check hg)]
 cases (openedP (ptN F) (sysL F l)).isSome <;> simp
def AgreedPost (w : World) (x : FV) (F : Fld) (ar : Option Addr) (cr : Nat) (l : List Rcd) (err : Int) (e : Ending) (w' : World) : Prop :=
 if err = 0 then ∃ b o c, e = .returned (.tuple #[.pointer (some ⟨b, 0, none⟩), .int .i64 0]) ∧ WAt w' b ⟨x, o, c, ar, cr⟩ F l ∧ w.heap.size ≤ b ∧ ∀ q, o = some q → w.heap.size ≤ q.block
 else ∃ v, e = .returned (.tuple #[v, .int .i64 err])
set_option maxRecDepth 10000 in
set_option maxHeartbeats 2000000 in
theorem agreed_any (w : World) (x : FV) (F : Fld) (ar : Option Addr) (cr : Nat) (l : List Rcd) (h : FldAt w x F) (hr : RcdsAt w ar l) (hn : l.length ≤ 100000) (hk : ∀ r ∈ l, (0 ≤ r.call.kind ∧ r.call.kind ≤ 255) ∧ r.deed.size ≤ 9223372036854775807)
 (f : FuncId) (caps : Array Value) (p : Bool) (eg : Enters Tryz.prog f)
 (hf : Good F l → ∀ W b o c, WAt W b ⟨x, o, c, ar, cr⟩ F l → Below w.heap.size w W → Calls Tryz.prog f (#[.pointer (some ⟨b, 0, none⟩)] ++ caps) W fun e w' => e = .returned (.bool p) ∧ Below W.heap.size W w') :
 Calls Tryz.prog 73 #[x.val F, .slice ar l.length cr, .func (.func f) #[] caps] w fun e w' => AgreedPost w x F ar cr l (matchE F l (flagE p)) e w' ∧ Below w.heap.size w w' := by
 obtain ⟨w0, hw0⟩ : ∃ W, W = w.alloc (.cells (x.arr F) 27) := ⟨_, rfl⟩
 have B0 := hidE (show Below w.heap.size w w0 by rw [hw0]; exact (Below.refl _ _).alloc (Nat.le_refl _) _)
 have X0 := (show w0.heap[w.heap.size]? = some (.cells (x.arr F) 27 (0,0)) by rw [hw0]; exact heap_alloc_new _ _)
 have HC := hidE (open_any w0 x F ar cr l (h.below B0.out) (hr.below B0.out (Nat.le_refl _)) hn hk)
 have HF := hidE hf
 unfold Enters at eg
 have HM := hidE (show matchE F l (flagE p) = if (checkE F l).2 ≠ 0 then (checkE F l).2 else if flagE p ≠ 0 then flagE p else if agreeB F l = true then 0 else 40 from rfl)
 have HGO := hidE (fun (q : (checkE F l).2 = 0) => (check_iff F l).1 q)
 obtain ⟨M, hM⟩ : ∃ M, matchE F l (flagE p) = M := ⟨_, rfl⟩
 rw [hM] at HM ⊢
 obtain ⟨r2, hR⟩ : ∃ R, (checkE F l).2 = R := ⟨_, rfl⟩
 rw [hR] at HC HM HGO
 have kk := rowc X0
 clear hM hR h hr hn hk hf X0
 unfold FV.val FV.arr at *
 go_enter Tryz.func73, Tryz.ntmps73
 go_upto_region 1 with fail
 rw [← hw0]
 clear hw0
 go_wp2_with fail
 refine HC.out.mono ?_
 rintro e w1 ⟨hp, hb1⟩
 have B1 := hidE (B0.out.trans (hb1.mono B0.out.size))
 have HSZ := hidE B0.out.size
 clear hb1 HC kk
 unfold OpenPost at hp
 have hm := HM.out
 by_cases h0 : r2 = 0
 rotate_left
 ·have hzb : (r2 != 0) = true := by simpa using h0
  rw [if_neg h0] at hp
  rw [if_pos h0] at hm
  subst hp
  subst hm
  have H0 := hidE h0
  clear h0
  go_wp2_with fail
  go_ret2
  exact ⟨by unfold AgreedPost; rw [if_neg H0.out]; exact ⟨_, rfl⟩, B1.out⟩
 subst h0
 rw [if_pos rfl] at hp
 rw [if_neg (show ¬ (0 : Int) ≠ 0 by simp)] at hm
 obtain ⟨b, o, c, rfl, hw, hbl, hown⟩ := hp
 have HW := hidE hw
 have hg := HGO.out rfl
 have hcall := HF.out hg w1 b o c hw B1.out
 have HAG := hidE (fun W (q : WAt W b ⟨x, o, c, ar, cr⟩ F l) => agrees_any W b ⟨x, o, c, ar, cr⟩ F l q (by have := pt_le hg.fld; unfold i64ok; omega))
 rw [agrees_num hg] at HAG
 have HBL := hidE (Nat.le_trans HSZ.out hbl)
 have HOQ := hidE (fun (q : Addr) (e : o = some q) => Nat.le_trans HSZ.out (owns_lt hown (g := q.block) (by rw [e]; rfl)).2.1)
 clear hown hw hbl hg HGO HF HM
 cases p
 ·rw [if_pos (by simp [flagE])] at hm
  have hm2 : M = 1 := hm
  subst hm2
  clear hm
  go_wp2_with (go_at_fn f; refine hcall.mono ?_; rintro e w' ⟨rfl, hb'⟩)
  go_ret2
  exact ⟨by unfold AgreedPost; rw [if_neg (by simp)]; exact ⟨_, rfl⟩, B1.out.trans (hb'.mono B1.out.size)⟩
 ·rw [if_neg (by simp [flagE])] at hm
  rw [← hm] at HAG
  have HM2 := hidE hm
  clear hm
  go_wp2_with (go_at_fn f; refine hcall.mono ?_; rintro e w' ⟨rfl, hb'⟩)
  refine (HAG.out _ (HW.out.next hb')).mono ?_
  rintro e w3 ⟨rfl, hb3⟩
  have B2 := hidE (B1.out.trans (hb'.mono B1.out.size))
  have B3 := hidE (B2.out.trans (hb3.mono B2.out.size))
  have HW3 := hidE ((HW.out.next hb').next hb3)
  clear hb3 hb' hcall HAG
  go_wp2_with fail
  go_ret2
  refine ⟨?_, B3.out⟩
  unfold AgreedPost
  by_cases q : M = 0
  ·rw [if_pos q]
   exact ⟨b, o, c, by rw [← q]; rfl, HW3.out, HBL.out, HOQ.out⟩
  ·rw [if_neg q]
   exact ⟨_, rfl⟩
set_option maxRecDepth 10000 in
set_option maxHeartbeats 2000000 in
theorem region1_any (W : World) (b g : Nat) (y : WV) (F : Fld) (l : List Rcd) (i s : Int) (h : WAt W b y F l) (hF : F.check = 0) (hg : W.heap[g]? = some (.cells #[.int .i64 i, .int .i64 s] 30 (0,0))) :
 Calls Tryz.prog 74 #[.pointer (some ⟨b, 0, none⟩), .pointer (some ⟨g, 0, none⟩)] W fun e w' => e = .returned (.bool (cornB F i s)) ∧ Below W.heap.size W w' := by
 have HC := hidE (corner_any W b y F l i s h hF)
 have kk := rowc hg
 clear h hF hg
 go_enter Tryz.func74, Tryz.ntmps74
 go_wp2_with fail
 refine HC.out.mono ?_
 rintro e w1 ⟨rfl, hb1⟩
 go_wp2_with fail
 go_ret
 exact ⟨rfl, hb1⟩
theorem inv_corn {F : Fld} {i s : Int} (h : flagE (cornB F i s) = 0) : limB F i = true ∧ staB F s = true := by
 unfold flagE cornB at h
 cases p : limB F i <;> cases q : staB F s <;> simp_all
set_option maxRecDepth 10000 in
set_option maxHeartbeats 2000000 in
theorem regionL_any (w : World) (x : FV) (F : Fld) (ar : Option Addr) (cr : Nat) (l : List Rcd) (i s : Int) (h : FldAt w x F) (hr : RcdsAt w ar l) (hn : l.length ≤ 100000) (hk : ∀ r ∈ l, (0 ≤ r.call.kind ∧ r.call.kind ≤ 255) ∧ r.deed.size ≤ 9223372036854775807) :
 Calls Tryz.prog 24 #[x.val F, .slice ar l.length cr, .agg #[.int .i64 i, .int .i64 s]] w fun e w' => e = .returned (.tuple #[.int .i64 (regionE F l i s).1, .int .i64 (regionE F l i s).2.1, .int .i64 (regionE F l i s).2.2]) ∧ Below w.heap.size w w' := by
 obtain ⟨w0, hw0⟩ : ∃ W, W = (w.alloc (.cells (x.arr F) 27)).alloc (.cells #[.int .i64 i, .int .i64 s] 30) := ⟨_, rfl⟩
 have B0 := hidE (show Below w.heap.size w w0 by rw [hw0]; exact ((Below.refl _ _).alloc (Nat.le_refl _) _).alloc (by simp) _)
 have X0 := hidE (show Kb [(w.heap.size + 1, .cells #[.int .i64 i, .int .i64 s] 30), (w.heap.size, .cells (x.arr F) 27)] w0 by
  rw [hw0]
  have := Kb.alloc (o := .cells #[.int .i64 i, .int .i64 s] 30) (Kb.alloc (W := w) (o := .cells (x.arr F) 27) (L := []) trivial)
  simpa using this)
 have HA := hidE (agreed_any w0 x F ar cr l (h.below B0.out) (hr.below B0.out (Nat.le_refl _)) hn hk 74 #[.pointer (some ⟨w.heap.size + 1, 0, none⟩)] (cornB F i s) (enters_of Tryz.func74 (by kernel_rfl) rfl)
  (fun hg W b o c hw hb => region1_any W b (w.heap.size + 1) _ F l i s hw hg.fld (blk_below hb (lt_of_block X0.out.1) X0.out.1)))
 have HRG := hidE (fun (q : matchE F l (flagE (cornB F i s)) = 0) W b y (hw : WAt W b y F l) => (by
  obtain ⟨q1, q2, q3⟩ := match_zero.1 q
  obtain ⟨q4, q5⟩ := inv_corn q2
  exact regionW_any W b y F l i s hw q1 q3 q4 q5))
 obtain ⟨⟨R1, R2, R3⟩, hR⟩ : ∃ R, regionE F l i s = R := ⟨_, rfl⟩
 rw [hR]
 unfold regionE at hR
 obtain ⟨M, hM⟩ : ∃ M, matchE F l (flagE (cornB F i s)) = M := ⟨_, rfl⟩
 rw [hM] at HA HRG hR
 have kk := rowc X0.out.2.1
 clear hM h hr hn hk
 unfold FV.val FV.arr at *
 go_enter Tryz.func24, Tryz.ntmps24
 go_upto_region 1 with fail
 rw [← hw0]
 clear hw0
 go_wp2_with fail
 refine HA.out.mono ?_
 rintro e w1 ⟨hp, hb1⟩
 have B1 := hidE (B0.out.trans (hb1.mono B0.out.size))
 have X1 := hidE (X0.out.next hb1)
 clear hb1 HA kk X0
 unfold AgreedPost at hp
 by_cases h0 : M = 0
 rotate_left
 ·have hzb : (M != 0) = true := by simpa using h0
  rw [if_neg h0] at hp
  rw [if_pos h0] at hR
  obtain ⟨v, rfl⟩ := hp
  cases hR
  clear h0
  go_wp2_with fail
  refine bodyPost_ret (by simp [results, Tryz.results24, go_sem]) rfl ⟨rfl, B1.out⟩
 subst h0
 rw [if_pos rfl] at hp
 rw [if_neg (by simp)] at hR
 obtain ⟨b, o, c, rfl, hw, hbl⟩ := hp
 have HW := hidE hw
 have kx := rowc X1.out.1
 have HCA := HRG.out rfl w1 b _ hw
 cases hR
 clear hw hbl
 obtain ⟨lo, hlo⟩ : ∃ v, lowE F l (ptS F i s) = v := ⟨_, rfl⟩
 obtain ⟨hi9, hhi⟩ : ∃ v, highE F l (ptS F i s) = v := ⟨_, rfl⟩
 rw [hlo, hhi] at HCA
 have HLO := hidE hlo
 have HHI := hidE hhi
 clear hlo hhi
 have HCB := hidE HCA
 clear HCA
 go_wp2_with fail
 refine HCB.out.mono ?_
 rintro e w3 ⟨rfl, hb3⟩
 have B3 := hidE (B1.out.trans (hb3.mono B1.out.size))
 clear hb3
 go_wp2_with fail
 refine bodyPost_ret (v := .tuple #[.int .i64 lo, .int .i64 hi9, .int .i64 0]) (by simp [results, Tryz.results24, go_sem]) rfl ⟨by rw [HLO.out, HHI.out], B3.out⟩
set_option maxRecDepth 10000 in
set_option maxHeartbeats 2000000 in
theorem width1_any (W : World) (b g1 g2 : Nat) (y : WV) (F : Fld) (l : List Rcd) (i s j t : Int) (h : WAt W b y F l) (hF : F.check = 0) (hg1 : W.heap[g1]? = some (.cells #[.int .i64 i, .int .i64 s] 30 (0,0))) (hg2 : W.heap[g2]? = some (.cells #[.int .i64 j, .int .i64 t] 30 (0,0))) :
 Calls Tryz.prog 81 #[.pointer (some ⟨b, 0, none⟩), .pointer (some ⟨g1, 0, none⟩), .pointer (some ⟨g2, 0, none⟩)] W fun e w' => e = .returned (.bool (cornB F i s && cornB F j t)) ∧ Below W.heap.size W w' := by
 have HC := hidE (corner_any W b y F l i s h hF)
 have HC2 := hidE (fun W2 (hb : Below W.heap.size W W2) => corner_any W2 b y F l j t (h.next hb) hF)
 obtain ⟨p, hp⟩ : ∃ p, cornB F i s = p := ⟨_, rfl⟩
 obtain ⟨q, hq⟩ : ∃ p, cornB F j t = p := ⟨_, rfl⟩
 rw [hp] at HC ⊢
 rw [hq] at HC2 ⊢
 have kk := rowc hg1
 have HG2 := hidE hg2
 clear hp hq h hF hg1 hg2
 cases p
 ·go_enter Tryz.func81, Tryz.ntmps81
  go_wp2_with (go_at_call 75; refine HC.out.mono ?_; rintro e w1 ⟨rfl, hb1⟩)
  go_ret
  exact ⟨rfl, hb1⟩
 ·go_enter Tryz.func81, Tryz.ntmps81
  go_wp2_with fail
  refine HC.out.mono ?_
  rintro e w1 ⟨rfl, hb1⟩
  have kk2 := rowc (blk_below hb1 (lt_of_block HG2.out) HG2.out)
  clear kk
  go_wp2_with fail
  refine (HC2.out _ hb1).mono ?_
  rintro e w2 ⟨rfl, hb2⟩
  go_wp2_with fail
  go_ret
  exact ⟨by simp, hb1.trans (hb2.mono hb1.size)⟩
theorem inv_corn2 {F : Fld} {i s j t : Int} (h : flagE (cornB F i s && cornB F j t) = 0) : (limB F i = true ∧ staB F s = true) ∧ limB F j = true ∧ staB F t = true := by
 unfold flagE cornB at h
 cases p : limB F i <;> cases q : staB F s <;> cases p2 : limB F j <;> cases q2 : staB F t <;> simp_all
set_option maxRecDepth 100000 in
set_option maxHeartbeats 4000000 in
theorem widthL_any (w : World) (x : FV) (F : Fld) (ar : Option Addr) (cr : Nat) (l : List Rcd) (i s j t : Int) (h : FldAt w x F) (hr : RcdsAt w ar l) (hn : l.length ≤ 100000) (hk : ∀ r ∈ l, (0 ≤ r.call.kind ∧ r.call.kind ≤ 255) ∧ r.deed.size ≤ 9223372036854775807) :
 Calls Tryz.prog 26 #[x.val F, .slice ar l.length cr, .agg #[.int .i64 i, .int .i64 s], .agg #[.int .i64 j, .int .i64 t]] w fun e w' => e = .returned (.tuple #[.int .i64 (widthE F l i s j t).1, .int .i64 (widthE F l i s j t).2.1, .int .i64 (widthE F l i s j t).2.2]) ∧ Below w.heap.size w w' := by
 obtain ⟨w0, hw0⟩ : ∃ W, W = ((w.alloc (.cells (x.arr F) 27)).alloc (.cells #[.int .i64 i, .int .i64 s] 30)).alloc (.cells #[.int .i64 j, .int .i64 t] 30) := ⟨_, rfl⟩
 have B0 := hidE (show Below w.heap.size w w0 by rw [hw0]; exact (((Below.refl _ _).alloc (Nat.le_refl _) _).alloc (by simp) _).alloc (by simp; omega) _)
 have X0 := hidE (show Kb [(w.heap.size + 1 + 1, .cells #[.int .i64 j, .int .i64 t] 30), (w.heap.size + 1, .cells #[.int .i64 i, .int .i64 s] 30), (w.heap.size, .cells (x.arr F) 27)] w0 by
  rw [hw0]
  have := Kb.alloc (o := .cells #[.int .i64 j, .int .i64 t] 30) (Kb.alloc (o := .cells #[.int .i64 i, .int .i64 s] 30) (Kb.alloc (W := w) (o := .cells (x.arr F) 27) (L := []) trivial))
  simpa using this)
 have HA := hidE (agreed_any w0 x F ar cr l (h.below B0.out) (hr.below B0.out (Nat.le_refl _)) hn hk 81 #[.pointer (some ⟨w.heap.size + 1, 0, none⟩), .pointer (some ⟨w.heap.size + 1 + 1, 0, none⟩)] (cornB F i s && cornB F j t) (enters_of Tryz.func81 (by kernel_rfl) rfl)
  (fun hg W b o c hw hb => width1_any W b (w.heap.size + 1) (w.heap.size + 1 + 1) _ F l i s j t hw hg.fld (blk_below hb (lt_of_block X0.out.2.1) X0.out.2.1) (blk_below hb (lt_of_block X0.out.1) X0.out.1)))
 have HP1 := hidE (fun (q : matchE F l (flagE (cornB F i s && cornB F j t)) = 0) b y W (hw : WAt W b y F l) => (by
  obtain ⟨q1, q2, q3⟩ := match_zero.1 q
  obtain ⟨⟨q4, q5⟩, q6, q7⟩ := inv_corn2 q2
  exact pointW_any W b y F l i s hw q1.fld q4 q5))
 have HP2 := hidE (fun (q : matchE F l (flagE (cornB F i s && cornB F j t)) = 0) b y W (hw : WAt W b y F l) => (by
  obtain ⟨q1, q2, q3⟩ := match_zero.1 q
  obtain ⟨⟨q4, q5⟩, q6, q7⟩ := inv_corn2 q2
  exact pointW_any W b y F l j t hw q1.fld q6 q7))
 have HBW := hidE (fun (q : matchE F l (flagE (cornB F i s && cornB F j t)) = 0) b y W (hw : WAt W b y F l) => (by
  obtain ⟨q1, q2, q3⟩ := match_zero.1 q
  obtain ⟨⟨q4, q5⟩, q6, q7⟩ := inv_corn2 q2
  have := between_any W (ptN F) y.o y.c (sysL F l) (ptS F i s) (ptS F j t) (by have := pt_le q1.fld; unfold i64ok; omega) (Nat.le_trans hw.cap.1 hw.cap.2) hw.bnd
  rw [between_eq q1 q3 (ptS_bd q4 q5).2.1 (ptS_bd q6 q7).2.1] at this
  exact this))
 obtain ⟨⟨R1, R2, R3⟩, hR⟩ : ∃ R, widthE F l i s j t = R := ⟨_, rfl⟩
 rw [hR]
 unfold widthE at hR
 obtain ⟨M, hM⟩ : ∃ M, matchE F l (flagE (cornB F i s && cornB F j t)) = M := ⟨_, rfl⟩
 rw [hM] at HA HP1 HP2 HBW hR
 have kk := rowc X0.out.2.2.1
 clear hM h hr hn hk
 unfold FV.val FV.arr at *
 go_enter Tryz.func26, Tryz.ntmps26
 go_upto_region 1 with fail
 rw [← hw0]
 clear hw0
 go_wp2_with fail
 refine HA.out.mono ?_
 rintro e w1 ⟨hp, hb1⟩
 have B1 := hidE (B0.out.trans (hb1.mono B0.out.size))
 have X1 := hidE (X0.out.next hb1)
 clear hb1 HA kk X0
 unfold AgreedPost at hp
 by_cases h0 : M = 0
 rotate_left
 ·have hzb : (M != 0) = true := by simpa using h0
  rw [if_neg h0] at hp
  rw [if_pos h0] at hR
  obtain ⟨v, rfl⟩ := hp
  cases hR
  clear h0
  go_wp2_with fail
  refine bodyPost_ret (by simp [results, Tryz.results26, go_sem]) rfl ⟨rfl, B1.out⟩
 subst h0
 rw [if_pos rfl] at hp
 rw [if_neg (by simp)] at hR
 obtain ⟨b, o, c, rfl, hw, hbl⟩ := hp
 have HW0 := hidE hw
 have HPA := HP1.out rfl b ⟨x, o, c, ar, cr⟩
 have HPB := HP2.out rfl b ⟨x, o, c, ar, cr⟩
 have HBT := HBW.out rfl b ⟨x, o, c, ar, cr⟩
 cases hR
 clear hw hbl HP1 HP2 HBW
 obtain ⟨lo, hlo⟩ : ∃ v, -distN (ptN F) (sysL F l) (ptS F j t) (ptS F i s) = v := ⟨_, rfl⟩
 obtain ⟨hi9, hhi⟩ : ∃ v, distN (ptN F) (sysL F l) (ptS F i s) (ptS F j t) = v := ⟨_, rfl⟩
 obtain ⟨p, hp⟩ : ∃ v : Int, ((ptS F i s : Nat) : Int) = v := ⟨_, rfl⟩
 obtain ⟨q, hq⟩ : ∃ v : Int, ((ptS F j t : Nat) : Int) = v := ⟨_, rfl⟩
 obtain ⟨P, hP⟩ : ∃ P : Int, ((ptN F : Nat) : Int) = P := ⟨_, rfl⟩
 have hc1 : ((⟨x, o, c, ar, cr⟩ : WV).arr F l)[0]? = some (.int .i64 P) := by rw [← hP]; rfl
 rw [hlo, hhi, hp, hq, hP] at HBT
 rw [hp] at HPA
 rw [hq] at HPB
 unfold Sp.arr at HBT
 have HLO := hidE hlo
 have HHI := hidE hhi
 have HQA := hidE HPA
 have HQB := hidE HPB
 have HR := hidE HBT
 clear hlo hhi hp hq hP HPA HPB HBT
 go_upto_region 4 with fail
 go_cut [10, 12] (fun u t' wx => ∃ g, t' = .pointer (some ⟨g, 0, none⟩) ∧ u = .int .i64 0 ∧ Hid (wx.heap[g]? = some (.cells #[.int .i64 lo, .int .i64 hi9, .bool true, .bool true] 115 (0,0))) ∧ Hid (Below w1.heap.size w1 wx))
 case first =>
  have HW := HW0
  have HLT := hidE HW.out.lt
  have HBX := hidE HW.out.box
  refine wp_region_F (S := Below w1.heap.size w1) (last := 100) (by kernel_rfl) ?_
  obtain ⟨W0, hW0⟩ : ∃ W, W = w1.drew := ⟨_, rfl⟩
  have hS0 : Below w1.heap.size w1 W0 := by rw [hW0]; exact (Below.refl _ _).drew
  rw [← hW0]
  clear hW0
  refine tF 0 24 (.pointer (some ⟨b, 0, none⟩)) rfl (by kernel_rfl) rfl (fun _ _ _ h => h) (fun V hV => ?_) hS0 ?_
  ·simp [go_sem, execOp]
  try simp only [sA, sB, sC]
  refine tF 1 25 (.pointer (some ⟨b, 0, none⟩)) rfl (by kernel_rfl) rfl (fun _ _ _ h => h) (fun V hV => ?_) hS0 ?_
  ·simp [go_sem, execOp]
  try simp only [sA, sB, sC]
  refine tF 2 26 (.pointer (some ⟨b, 0, none⟩)) rfl (by kernel_rfl) rfl (fun _ _ _ h => h) (fun V hV => ?_) hS0 ?_
  ·simp [go_sem, execOp]
  try simp only [sA, sB, sC]
  refine tF 3 27 (.agg #[.int .i64 P, .slice o (sysL F l).length c]) rfl (by kernel_rfl) rfl (fun _ _ _ h => h) (fun V hV => ?_) hS0 ?_
  ·(have z0 : V.cell? ⟨b, 0, none⟩ = some (.int .i64 P) := (rowc (blk_below hV HLT.out HBX.out) 0).trans hc1; have z1 : V.cell? ⟨b, 1, none⟩ = some (.slice o (sysL F l).length c) := (rowc (blk_below hV HLT.out HBX.out) 1).trans rfl; simp [go_sem, execOp, z0, z1])
  try simp only [sA, sB, sC]
  refine tF 4 28 (.pointer (some ⟨b, 0, none⟩)) rfl (by kernel_rfl) rfl (fun _ _ _ h => h) (fun V hV => ?_) hS0 ?_
  ·simp [go_sem, execOp]
  try simp only [sA, sB, sC]
  refine tF 5 29 (.agg #[.int .i64 i, .int .i64 s]) rfl (by kernel_rfl) rfl (fun _ _ _ h => h) (fun V hV => ?_) hS0 ?_
  ·exact yload rfl rfl (blk_below hV (lt_of_block X1.out.2.1) X1.out.2.1) Tryz.underlying30 rfl (by kernel_rfl)
  try simp only [sA, sB, sC]
  refine tF 7 31 (.pointer (some ⟨b, 0, none⟩)) rfl (by kernel_rfl) rfl (fun _ _ _ h => h) (fun V hV => ?_) hS0 ?_
  ·simp [go_sem, execOp]
  try simp only [sA, sB, sC]
  refine tF 8 32 (.agg #[.int .i64 j, .int .i64 t]) rfl (by kernel_rfl) rfl (fun _ _ _ h => h) (fun V hV => ?_) hS0 ?_
  ·exact yload rfl rfl (blk_below hV (lt_of_block X1.out.1) X1.out.1) Tryz.underlying30 rfl (by kernel_rfl)
  try simp only [sA, sB, sC]
  refine wpAnyF_two 6 14 rfl rfl (by kernel_rfl) (fun K hK => ?_) (fun K hK => ?_)
  ·go_simp
   go_at_call 83
   refine (HQA.out _ (HW.out.next hS0)).mono ?_
   rintro e wq1 ⟨rfl, hb1⟩
   have hS1 : Below w1.heap.size w1 wq1 := hS0.trans (hb1.mono hS0.size)
   clear hb1
   go_wp2_with fail
   refine hK.out _ _ (.inr hS1) ?_
   clear hK K
   try simp only [Act.put, sA, sB, sC]
   refine wpAnyF_two 9 14 rfl rfl (by kernel_rfl) (fun K hK => ?_) (fun K hK => ?_)
   ·go_simp
    go_at_call 83
    refine (HQB.out _ (HW.out.next hS1)).mono ?_
    rintro e wq2 ⟨rfl, hb2⟩
    have hS2 : Below w1.heap.size w1 wq2 := hS1.trans (hb2.mono hS1.size)
    clear hb2
    go_wp2_with fail
    refine hK.out _ _ (.inr hS2) ?_
    clear hK K
    try simp only [Act.put, sA, sB, sC]
    refine wpAnyF_two 10 14 rfl rfl (by kernel_rfl) (fun K hK => ?_) (fun K hK => ?_)
    ·go_simp
     go_at_call 82
     refine (HR.out _ (HW.out.next hS2)).mono ?_
     rintro e wq3 ⟨rfl, hb3⟩
     have hS3 : Below w1.heap.size w1 wq3 := hS2.trans (hb3.mono hS2.size)
     clear hb3
     go_wp2_with fail
     refine hK.out _ _ (.inr hS3) ?_
     clear hK K
     try simp only [Act.put, sA, sB, sC]
     refine tF 11 23 (.tuple #[.agg #[.int .i64 lo, .int .i64 hi9, .bool true, .bool true], .int .i64 0]) rfl (by kernel_rfl) rfl (fun _ _ _ h => h) (fun V hV => ?_) hS3 ?_
     ·simp [go_sem, execOp]
     try simp only [sA, sB, sC]
     refine tF 12 35 (.agg #[.int .i64 lo, .int .i64 hi9, .bool true, .bool true]) rfl (by kernel_rfl) rfl (fun _ _ _ h => h) (fun V hV => ?_) hS3 ?_
     ·simp [go_sem, execOp]
     try simp only [sA, sB, sC]
     refine tF 13 36 (.int .i64 0) rfl (by kernel_rfl) rfl (fun _ _ _ h => h) (fun V hV => ?_) hS3 ?_
     ·simp [go_sem, execOp]
     try simp only [sA, sB, sC]
     refine wpAnyF_step 14 rfl (by kernel_rfl) (fun K hK => ?_)
     go_simp
     obtain ⟨wq4, hW4⟩ : ∃ Z, Z = wq3.alloc (.cells #[.int .i64 0, .int .i64 0, .bool false, .bool false] 115) := ⟨_, rfl⟩
     rw [← hW4]
     have hS4 : Below w1.heap.size w1 wq4 := by rw [hW4]; exact hS3.alloc hS3.size _
     have XG4 : wq4.heap[wq3.heap.size]? = some (.cells #[.int .i64 0, .int .i64 0, .bool false, .bool false] 115 (0,0)) := by rw [hW4]; exact heap_alloc_new _ _
     have HGE : w1.heap.size ≤ wq3.heap.size := hS3.size
     obtain ⟨g, hg⟩ : ∃ g, wq3.heap.size = g := ⟨_, rfl⟩
     rw [hg] at XG4 HGE ⊢
     clear hW4 hg
     refine hK.out _ _ (.inr hS4) ?_
     clear hK K
     try simp only [Act.put, sA, sB, sC]
     refine wpAnyF_step 15 rfl (by kernel_rfl) (fun K hK => ?_)
     refine Eq.mpr (if_pos (by kernel_rfl)) ?_
     refine wp_store_row 115 _ _ rfl g #[.int .i64 lo, .int .i64 hi9, .bool true, .bool true] rfl rfl 115 _ XG4 (by kernel_rfl) rfl (by simp [Value.oneCell']) ?_
     have XF := setRow_heap _ _ _ #[.int .i64 lo, .int .i64 hi9, .bool true, .bool true] _ _ XG4
     have hSF := below_setRow (cs := #[.int .i64 lo, .int .i64 hi9, .bool true, .bool true]) hS4 HGE
     refine hK.out _ _ (.inr hSF) ?_
     clear hK K
     try simp only [Act.put, sA]
     refine tF 16 10 (.int .i64 0) rfl (by kernel_rfl) rfl (fun _ _ _ h => h) (fun V hV => ?_) hSF ?_
     ·simp [go_sem, execOp]
     try simp only [sA, sB, sC]
     refine wpAnyF_done (by kernel_rfl) ?_ _
     go_wp2_with fail
     go_meet
     exact ⟨g, rfl, rfl, hidE XF, hidE hSF⟩
    ·go_simp
     obtain ⟨wq3, hW3⟩ : ∃ Z, Z = wq2.alloc (.cells #[.int .i64 0, .int .i64 0, .bool false, .bool false] 115) := ⟨_, rfl⟩
     rw [← hW3]
     have hS3 : Below w1.heap.size w1 wq3 := by rw [hW3]; exact hS2.alloc hS2.size _
     have XG3 : wq3.heap[wq2.heap.size]? = some (.cells #[.int .i64 0, .int .i64 0, .bool false, .bool false] 115 (0,0)) := by rw [hW3]; exact heap_alloc_new _ _
     have HGE : w1.heap.size ≤ wq2.heap.size := hS2.size
     obtain ⟨g, hg⟩ : ∃ g, wq2.heap.size = g := ⟨_, rfl⟩
     rw [hg] at XG3 HGE ⊢
     clear hW3 hg
     refine hK.out _ _ (.inr hS3) ?_
     clear hK K
     try simp only [Act.put, sA, sB, sC]
     refine wpAnyF_step 10 rfl (by kernel_rfl) (fun K hK => ?_)
     go_simp
     go_at_call 82
     refine (HR.out _ (HW.out.next hS3)).mono ?_
     rintro e wq4 ⟨rfl, hb4⟩
     have hS4 : Below w1.heap.size w1 wq4 := hS3.trans (hb4.mono hS3.size)
     have XG4 := blk_below hb4 (lt_of_block XG3) XG3
     clear XG3
     clear hb4
     go_wp2_with fail
     refine hK.out _ _ (.inr hS4) ?_
     clear hK K
     try simp only [Act.put, sA, sB, sC]
     refine tF 11 23 (.tuple #[.agg #[.int .i64 lo, .int .i64 hi9, .bool true, .bool true], .int .i64 0]) rfl (by kernel_rfl) rfl (fun _ _ _ h => h) (fun V hV => ?_) hS4 ?_
     ·simp [go_sem, execOp]
     try simp only [sA, sB, sC]
     refine tF 12 35 (.agg #[.int .i64 lo, .int .i64 hi9, .bool true, .bool true]) rfl (by kernel_rfl) rfl (fun _ _ _ h => h) (fun V hV => ?_) hS4 ?_
     ·simp [go_sem, execOp]
     try simp only [sA, sB, sC]
     refine tF 13 36 (.int .i64 0) rfl (by kernel_rfl) rfl (fun _ _ _ h => h) (fun V hV => ?_) hS4 ?_
     ·simp [go_sem, execOp]
     try simp only [sA, sB, sC]
     refine wpAnyF_step 15 rfl (by kernel_rfl) (fun K hK => ?_)
     refine Eq.mpr (if_pos (by kernel_rfl)) ?_
     refine wp_store_row 115 _ _ rfl g #[.int .i64 lo, .int .i64 hi9, .bool true, .bool true] rfl rfl 115 _ XG4 (by kernel_rfl) rfl (by simp [Value.oneCell']) ?_
     have XF := setRow_heap _ _ _ #[.int .i64 lo, .int .i64 hi9, .bool true, .bool true] _ _ XG4
     have hSF := below_setRow (cs := #[.int .i64 lo, .int .i64 hi9, .bool true, .bool true]) hS4 HGE
     refine hK.out _ _ (.inr hSF) ?_
     clear hK K
     try simp only [Act.put, sA]
     refine tF 16 10 (.int .i64 0) rfl (by kernel_rfl) rfl (fun _ _ _ h => h) (fun V hV => ?_) hSF ?_
     ·simp [go_sem, execOp]
     try simp only [sA, sB, sC]
     refine wpAnyF_done (by kernel_rfl) ?_ _
     go_wp2_with fail
     go_meet
     exact ⟨g, rfl, rfl, hidE XF, hidE hSF⟩
   ·go_simp
    obtain ⟨wq2, hW2⟩ : ∃ Z, Z = wq1.alloc (.cells #[.int .i64 0, .int .i64 0, .bool false, .bool false] 115) := ⟨_, rfl⟩
    rw [← hW2]
    have hS2 : Below w1.heap.size w1 wq2 := by rw [hW2]; exact hS1.alloc hS1.size _
    have XG2 : wq2.heap[wq1.heap.size]? = some (.cells #[.int .i64 0, .int .i64 0, .bool false, .bool false] 115 (0,0)) := by rw [hW2]; exact heap_alloc_new _ _
    have HGE : w1.heap.size ≤ wq1.heap.size := hS1.size
    obtain ⟨g, hg⟩ : ∃ g, wq1.heap.size = g := ⟨_, rfl⟩
    rw [hg] at XG2 HGE ⊢
    clear hW2 hg
    refine hK.out _ _ (.inr hS2) ?_
    clear hK K
    try simp only [Act.put, sA, sB, sC]
    refine wpAnyF_step 9 rfl (by kernel_rfl) (fun K hK => ?_)
    go_simp
    go_at_call 83
    refine (HQB.out _ (HW.out.next hS2)).mono ?_
    rintro e wq3 ⟨rfl, hb3⟩
    have hS3 : Below w1.heap.size w1 wq3 := hS2.trans (hb3.mono hS2.size)
    have XG3 := blk_below hb3 (lt_of_block XG2) XG2
    clear XG2
    clear hb3
    go_wp2_with fail
    refine hK.out _ _ (.inr hS3) ?_
    clear hK K
    try simp only [Act.put, sA, sB, sC]
    refine wpAnyF_step 10 rfl (by kernel_rfl) (fun K hK => ?_)
    go_simp
    go_at_call 82
    refine (HR.out _ (HW.out.next hS3)).mono ?_
    rintro e wq4 ⟨rfl, hb4⟩
    have hS4 : Below w1.heap.size w1 wq4 := hS3.trans (hb4.mono hS3.size)
    have XG4 := blk_below hb4 (lt_of_block XG3) XG3
    clear XG3
    clear hb4
    go_wp2_with fail
    refine hK.out _ _ (.inr hS4) ?_
    clear hK K
    try simp only [Act.put, sA, sB, sC]
    refine tF 11 23 (.tuple #[.agg #[.int .i64 lo, .int .i64 hi9, .bool true, .bool true], .int .i64 0]) rfl (by kernel_rfl) rfl (fun _ _ _ h => h) (fun V hV => ?_) hS4 ?_
    ·simp [go_sem, execOp]
    try simp only [sA, sB, sC]
    refine tF 12 35 (.agg #[.int .i64 lo, .int .i64 hi9, .bool true, .bool true]) rfl (by kernel_rfl) rfl (fun _ _ _ h => h) (fun V hV => ?_) hS4 ?_
    ·simp [go_sem, execOp]
    try simp only [sA, sB, sC]
    refine tF 13 36 (.int .i64 0) rfl (by kernel_rfl) rfl (fun _ _ _ h => h) (fun V hV => ?_) hS4 ?_
    ·simp [go_sem, execOp]
    try simp only [sA, sB, sC]
    refine wpAnyF_step 15 rfl (by kernel_rfl) (fun K hK => ?_)
    refine Eq.mpr (if_pos (by kernel_rfl)) ?_
    refine wp_store_row 115 _ _ rfl g #[.int .i64 lo, .int .i64 hi9, .bool true, .bool true] rfl rfl 115 _ XG4 (by kernel_rfl) rfl (by simp [Value.oneCell']) ?_
    have XF := setRow_heap _ _ _ #[.int .i64 lo, .int .i64 hi9, .bool true, .bool true] _ _ XG4
    have hSF := below_setRow (cs := #[.int .i64 lo, .int .i64 hi9, .bool true, .bool true]) hS4 HGE
    refine hK.out _ _ (.inr hSF) ?_
    clear hK K
    try simp only [Act.put, sA]
    refine tF 16 10 (.int .i64 0) rfl (by kernel_rfl) rfl (fun _ _ _ h => h) (fun V hV => ?_) hSF ?_
    ·simp [go_sem, execOp]
    try simp only [sA, sB, sC]
    refine wpAnyF_done (by kernel_rfl) ?_ _
    go_wp2_with fail
    go_meet
    exact ⟨g, rfl, rfl, hidE XF, hidE hSF⟩
  ·go_simp
   obtain ⟨wq1, hW1⟩ : ∃ Z, Z = W0.alloc (.cells #[.int .i64 0, .int .i64 0, .bool false, .bool false] 115) := ⟨_, rfl⟩
   rw [← hW1]
   have hS1 : Below w1.heap.size w1 wq1 := by rw [hW1]; exact hS0.alloc hS0.size _
   have XG1 : wq1.heap[W0.heap.size]? = some (.cells #[.int .i64 0, .int .i64 0, .bool false, .bool false] 115 (0,0)) := by rw [hW1]; exact heap_alloc_new _ _
   have HGE : w1.heap.size ≤ W0.heap.size := hS0.size
   obtain ⟨g, hg⟩ : ∃ g, W0.heap.size = g := ⟨_, rfl⟩
   rw [hg] at XG1 HGE ⊢
   clear hW1 hg
   refine hK.out _ _ (.inr hS1) ?_
   clear hK K
   try simp only [Act.put, sA, sB, sC]
   refine wpAnyF_step 6 rfl (by kernel_rfl) (fun K hK => ?_)
   go_simp
   go_at_call 83
   refine (HQA.out _ (HW.out.next hS1)).mono ?_
   rintro e wq2 ⟨rfl, hb2⟩
   have hS2 : Below w1.heap.size w1 wq2 := hS1.trans (hb2.mono hS1.size)
   have XG2 := blk_below hb2 (lt_of_block XG1) XG1
   clear XG1
   clear hb2
   go_wp2_with fail
   refine hK.out _ _ (.inr hS2) ?_
   clear hK K
   try simp only [Act.put, sA, sB, sC]
   refine wpAnyF_step 9 rfl (by kernel_rfl) (fun K hK => ?_)
   go_simp
   go_at_call 83
   refine (HQB.out _ (HW.out.next hS2)).mono ?_
   rintro e wq3 ⟨rfl, hb3⟩
   have hS3 : Below w1.heap.size w1 wq3 := hS2.trans (hb3.mono hS2.size)
   have XG3 := blk_below hb3 (lt_of_block XG2) XG2
   clear XG2
   clear hb3
   go_wp2_with fail
   refine hK.out _ _ (.inr hS3) ?_
   clear hK K
   try simp only [Act.put, sA, sB, sC]
   refine wpAnyF_step 10 rfl (by kernel_rfl) (fun K hK => ?_)
   go_simp
   go_at_call 82
   refine (HR.out _ (HW.out.next hS3)).mono ?_
   rintro e wq4 ⟨rfl, hb4⟩
   have hS4 : Below w1.heap.size w1 wq4 := hS3.trans (hb4.mono hS3.size)
   have XG4 := blk_below hb4 (lt_of_block XG3) XG3
   clear XG3
   clear hb4
   go_wp2_with fail
   refine hK.out _ _ (.inr hS4) ?_
   clear hK K
   try simp only [Act.put, sA, sB, sC]
   refine tF 11 23 (.tuple #[.agg #[.int .i64 lo, .int .i64 hi9, .bool true, .bool true], .int .i64 0]) rfl (by kernel_rfl) rfl (fun _ _ _ h => h) (fun V hV => ?_) hS4 ?_
   ·simp [go_sem, execOp]
   try simp only [sA, sB, sC]
   refine tF 12 35 (.agg #[.int .i64 lo, .int .i64 hi9, .bool true, .bool true]) rfl (by kernel_rfl) rfl (fun _ _ _ h => h) (fun V hV => ?_) hS4 ?_
   ·simp [go_sem, execOp]
   try simp only [sA, sB, sC]
   refine tF 13 36 (.int .i64 0) rfl (by kernel_rfl) rfl (fun _ _ _ h => h) (fun V hV => ?_) hS4 ?_
   ·simp [go_sem, execOp]
   try simp only [sA, sB, sC]
   refine wpAnyF_step 15 rfl (by kernel_rfl) (fun K hK => ?_)
   refine Eq.mpr (if_pos (by kernel_rfl)) ?_
   refine wp_store_row 115 _ _ rfl g #[.int .i64 lo, .int .i64 hi9, .bool true, .bool true] rfl rfl 115 _ XG4 (by kernel_rfl) rfl (by simp [Value.oneCell']) ?_
   have XF := setRow_heap _ _ _ #[.int .i64 lo, .int .i64 hi9, .bool true, .bool true] _ _ XG4
   have hSF := below_setRow (cs := #[.int .i64 lo, .int .i64 hi9, .bool true, .bool true]) hS4 HGE
   refine hK.out _ _ (.inr hSF) ?_
   clear hK K
   try simp only [Act.put, sA]
   refine tF 16 10 (.int .i64 0) rfl (by kernel_rfl) rfl (fun _ _ _ h => h) (fun V hV => ?_) hSF ?_
   ·simp [go_sem, execOp]
   try simp only [sA, sB, sC]
   refine wpAnyF_done (by kernel_rfl) ?_ _
   go_wp2_with fail
   go_meet
   exact ⟨g, rfl, rfl, hidE XF, hidE hSF⟩
 case rest =>
 obtain ⟨g, rfl, rfl, HG, HB⟩ := hcut
 obtain ⟨W3, rfl⟩ : ∃ x : World, x = wc := ⟨wc, rfl⟩
 have kg := rowc HG.out
 clear HG HR HQA HQB
 go_wp2_with fail
 go_quiet (fail)
 go_wp2_with fail
 refine bodyPost_ret (v := .tuple #[.int .i64 lo, .int .i64 hi9, .int .i64 0]) (by simp [results, Tryz.results26, go_sem]) rfl ⟨by rw [HLO.out, HHI.out], (B1.out.trans (HB.out.mono B1.out.size)).trans (below_drewN' _ _)⟩
def Par.vals (p : Par) : Array Value := #[.string p.name, .int .i64 p.south, .int .i64 p.wst, .int .i64 p.est]
set_option maxRecDepth 10000 in
set_option maxHeartbeats 2000000 in
theorem thereW_any (w : World) (b : Nat) (y : WV) (F : Fld) (l : List Rcd) (k : Nat) (s : Int) (h : WAt w b y F l) (hk : k < F.prs.length) :
 Calls Tryz.prog 103 #[.pointer (some ⟨b, 0, none⟩), .int .i64 (k : Int), .int .i64 s] w fun e w' => e = .returned (.bool (thereB (parAt F k) s)) ∧ Below w.heap.size w w' := by
 obtain ⟨pb, po, e1, hbl, hcc⟩ := RecsAt.at h.fld.pr hk
 have ep : F.prs[k] = parAt F k := by unfold parAt; simp [List.getD_eq_getElem?_getD, hk]
 rw [ep] at hcc
 obtain ⟨p, hp⟩ : ∃ p, parAt F k = p := ⟨_, rfl⟩
 rw [hp] at hcc ⊢
 have HRG := hidE (fun (j : Nat) (v : Value) (hv : p.vals.toList[j]? = some v) => (by
  have hj : j < 4 := (List.getElem?_eq_some_iff.1 hv).1
  exact (hcc j hj).trans (show p.cells[j]? = some v from hv) : w.cell? ⟨pb, po + k * 4 + j, none⟩ = some v))
 have HRG2 := hidE (show w.rangeAt pb (po + k * 4) p.vals.toList from HRG.out)
 have kk := rowc h.box
 unfold WV.arr at kk
 rw [e1] at kk
 unfold thereB
 clear ep hp hcc h HRG e1
 go_enter Tryz.func103, Tryz.ntmps103
 go_upto_region 2 with (first | (refine wpList_load_mid rfl 133 _ rfl pb (po + k * 4) rfl _ _ HRG2.out Tryz.underlying133 rfl (by kernel_rfl) ?_) | (refine wpList_store_row rfl 133 _ _ rfl w.heap.size p.vals rfl rfl 133 _ (heap_alloc_new _ _) (by kernel_rfl) (by kernel_rfl) (by simp [Par.vals, Value.oneCell']) ?_; rw [World.setRow_alloc_new]))
 refine wp_nm ?_
 intro W2 hW2
 have HB2 := hidE (show Below w.heap.size w W2 by rw [hW2]; exact (Below.refl _ _).alloc (Nat.le_refl _) _)
 have kr := rowc (show W2.heap[w.heap.size]? = some (.cells p.vals 133 (0,0)) by rw [hW2]; exact heap_alloc_new _ _)
 unfold Par.vals at kr
 clear hW2 HRG2 kk hbl
 by_cases q1 : p.wst ≤ s
 ·by_cases q2 : s < p.est
  ·go_wp2_with fail
   go_ret
   exact ⟨by simp [q1, q2], HB2.out⟩
  ·go_wp2_with fail
   go_ret
   exact ⟨by simp; omega, HB2.out⟩
 ·go_wp2_with fail
  go_ret
  exact ⟨by simp; omega, HB2.out⟩
theorem results_cell_pair {P : Program} {fn : Func} {p u : Tmp} {ty ty2 : TypeId} (h : fn.results = #[.cell p ty, .cell u ty2]) (tmps : Array Value) (w : World) (g g2 : Nat) (t t2 : TypeId) (cs cs2 : Array Value) (fr fr2 : Nat × Nat) (d d2 : TypeDesc)
 (hp : tmps.getD p undef = .pointer (some ⟨g, 0, none⟩)) (hg : w.heap[g]? = some (.cells cs t fr))
 (hu : P.underlying ty = some d) (hd : (match d with | .struct _ | .array _ _ => true | _ => false) = true) (hi : (P.info? ty).map (·.size) = some cs.size)
 (hp2 : tmps.getD u undef = .pointer (some ⟨g2, 0, none⟩)) (hg2 : w.heap[g2]? = some (.cells cs2 t2 fr2))
 (hu2 : P.underlying ty2 = some d2) (hd2 : (match d2 with | .struct _ | .array _ _ => true | _ => false) = true) (hi2 : (P.info? ty2).map (·.size) = some cs2.size) :
 (results fn tmps).run P w = .ok (.tuple #[.agg cs, .agg cs2]) w := by
 have hp' : tmps[p]?.getD undef = .pointer (some ⟨g, 0, none⟩) := by simpa using hp
 have hp2' : tmps[u]?.getD undef = .pointer (some ⟨g2, 0, none⟩) := by simpa using hp2
 simp [results, h, hp', hp2', asAddr, run_loadVar_row w g t ty cs fr d hg hu hd hi, run_loadVar_row w g2 t2 ty2 cs2 fr2 d2 hg2 hu2 hd2 hi2]
set_option maxRecDepth 10000 in
set_option maxHeartbeats 2000000 in
theorem sidesW_any (w : World) (b : Nat) (y : WV) (F : Fld) (l : List Rcd) (k : Nat) (s : Int) (h : WAt w b y F l) (hk : k < F.prs.length) (hp9 : 0 ≤ (parAt F k).south ∧ (parAt F k).south ≤ 1000) :
 Calls Tryz.prog 178 #[.pointer (some ⟨b, 0, none⟩), .int .i64 (k : Int), .int .i64 s] w fun e w' => e = .returned (.tuple #[.agg #[.int .i64 (parAt F k).south, .int .i64 s], .agg #[.int .i64 ((parAt F k).south + 1), .int .i64 s]]) ∧ Below w.heap.size w w' := by
 obtain ⟨w0, hw0⟩ : ∃ W, W = (w.alloc (.cells #[.int .i64 0, .int .i64 0] 30)).alloc (.cells #[.int .i64 0, .int .i64 0] 30) := ⟨_, rfl⟩
 have B0 := hidE (show Below w.heap.size w w0 by rw [hw0]; exact ((Below.refl _ _).alloc (Nat.le_refl _) _).alloc (by simp) _)
 have X0 := hidE (show Kb [(w.heap.size + 1, .cells #[.int .i64 0, .int .i64 0] 30), (w.heap.size, .cells #[.int .i64 0, .int .i64 0] 30)] w0 by
  rw [hw0]
  have := Kb.alloc (o := .cells #[.int .i64 0, .int .i64 0] 30) (Kb.alloc (W := w) (o := .cells #[.int .i64 0, .int .i64 0] 30) (L := []) trivial)
  simpa using this)
 have h0 := h.next B0.out
 obtain ⟨pb, po, e1, hbl, hcc⟩ := RecsAt.at h0.fld.pr hk
 have ep : F.prs[k] = parAt F k := by unfold parAt; simp [List.getD_eq_getElem?_getD, hk]
 rw [ep] at hcc
 obtain ⟨p, hp⟩ : ∃ p, (parAt F k).south = p := ⟨_, rfl⟩
 have c1 : w0.cell? ⟨pb, po + k * 4 + 1, none⟩ = some (.int .i64 p) := (hcc 1 (by decide)).trans (by rw [← hp]; rfl)
 rw [hp] at hp9 ⊢
 have wp1 : IntKind.i64.wrap (p + 1) = p + 1 := IntWalk.i64_in _ (by omega)
 have kk := rowc h0.box
 unfold WV.arr at kk
 rw [e1] at kk
 clear ep hp hcc h h0 e1 hp9 hbl
 go_enter Tryz.func178, Tryz.ntmps178
 go_upto_region 1 with fail
 rw [← hw0]
 clear hw0
 go_wp2_with (first | (refine wpList_store_row rfl 30 _ _ rfl w.heap.size #[.int .i64 p, .int .i64 s] rfl rfl 30 _ X0.out.2.1 (by kernel_rfl) rfl (by simp [Value.oneCell']) ?_) | (refine wpList_store_row rfl 30 _ _ rfl (w.heap.size + 1) #[.int .i64 (p + 1), .int .i64 s] rfl rfl 30 _ ((setRow_other _ _ _ _ (by omega)).trans X0.out.1) (by kernel_rfl) rfl (by simp [Value.oneCell']) ?_))
 refine bodyPost_ret (results_cell_pair Tryz.results178 _ _ w.heap.size (w.heap.size + 1) 30 30 #[.int .i64 p, .int .i64 s] #[.int .i64 (p + 1), .int .i64 s] (0,0) (0,0) _ _ rfl ((setRow_other _ _ _ _ (by omega)).trans (setRow_heap _ _ _ _ _ _ X0.out.2.1)) Tryz.underlying30 rfl (by kernel_rfl) rfl (setRow_heap _ _ _ _ _ _ ((setRow_other _ _ _ _ (by omega)).trans X0.out.1)) Tryz.underlying30 rfl (by kernel_rfl)) rfl ⟨rfl, below_setRow (below_setRow B0.out (Nat.le_refl w.heap.size) _) (Nat.le_succ w.heap.size) _⟩
set_option maxRecDepth 10000 in
set_option maxHeartbeats 2000000 in
theorem sureW_any (w : World) (b : Nat) (y : WV) (F : Fld) (l : List Rcd) (k : Nat) (s : Int) (h : WAt w b y F l) (hk : k < F.prs.length) (hg : Good F l) (ha : agreeB F l = true) (hs : staB F s = true) :
 Calls Tryz.prog 104 #[.pointer (some ⟨b, 0, none⟩), .int .i64 (k : Int), .int .i64 s] w fun e w' => e = .returned (.tuple #[.int .i64 (sureE F l (parAt F k) s).1, .int .i64 (sureE F l (parAt F k) s).2]) ∧ Below w.heap.size w w' := by
 have hm : parAt F k ∈ F.prs := by unfold parAt; simp [List.getD_eq_getElem?_getD, hk]
 obtain ⟨hl1, hl2⟩ := par_lims hg.fld hm
 have hb1 := inR_iff.1 hl1
 have fl := (fld_facts hg.fld).2.1
 have HSD := hidE (sidesW_any w b y F l k s h hk (by omega))
 have HHI := hidE (fun W (hw : WAt W b y F l) => highW_any W b y F l (parAt F k).south s hw hg ha hl1 hs)
 have HLO := hidE (fun W (hw : WAt W b y F l) => lowW_any W b y F l ((parAt F k).south + 1) s hw hg ha hl2 hs)
 have HW := hidE h
 unfold sureE
 obtain ⟨p, hp⟩ : ∃ p, (parAt F k).south = p := ⟨_, rfl⟩
 obtain ⟨v1, hv1⟩ : ∃ v, highE F l (ptS F (parAt F k).south s) = v := ⟨_, rfl⟩
 obtain ⟨v2, hv2⟩ : ∃ v, lowE F l (ptS F ((parAt F k).south + 1) s) = v := ⟨_, rfl⟩
 rw [hv1] at HHI
 rw [hv2] at HLO
 dsimp only
 rw [hv1, hv2]
 rw [hp] at HSD HHI HLO
 clear hm hl1 hl2 hb1 fl hp hv1 hv2 h hk hg ha hs
 go_enter Tryz.func104, Tryz.ntmps104
 go_wp2_with fail
 refine HSD.out.mono ?_
 rintro e w1 ⟨rfl, hb1⟩
 have B1 := hidE hb1
 have W1 := hidE (HW.out.next hb1)
 clear hb1 HSD HW
 have HK := hidE (show Kb [(w1.heap.size + 1, .cells #[.int .i64 0, .int .i64 0] 30), (w1.heap.size, .cells #[.int .i64 0, .int .i64 0] 30)] ((w1.alloc (.cells #[.int .i64 0, .int .i64 0] 30)).alloc (.cells #[.int .i64 0, .int .i64 0] 30)) by
  have := Kb.alloc (o := .cells #[.int .i64 0, .int .i64 0] 30) (Kb.alloc (W := w1) (o := .cells #[.int .i64 0, .int .i64 0] 30) (L := []) trivial)
  simpa using this)
 go_upto_region 2 with (first | (refine wpList_store_row rfl 30 _ _ rfl w1.heap.size #[.int .i64 p, .int .i64 s] rfl rfl 30 _ HK.out.2.1 (by kernel_rfl) rfl (by simp [Value.oneCell']) ?_) | (refine wpList_store_row rfl 30 _ _ rfl (w1.heap.size + 1) #[.int .i64 (p + 1), .int .i64 s] rfl rfl 30 _ ((setRow_other _ _ _ _ (by omega)).trans HK.out.1) (by kernel_rfl) rfl (by simp [Value.oneCell']) ?_))
 refine wp_nm ?_
 intro W3 hW3
 have XP := hidE (show W3.heap[w1.heap.size]? = some (.cells #[.int .i64 p, .int .i64 s] 30 (0,0)) by rw [hW3]; exact (setRow_other _ _ _ _ (by omega)).trans (setRow_heap _ _ _ _ _ _ HK.out.2.1))
 have XQ := hidE (show W3.heap[w1.heap.size + 1]? = some (.cells #[.int .i64 (p + 1), .int .i64 s] 30 (0,0)) by rw [hW3]; exact setRow_heap _ _ _ _ _ _ ((setRow_other _ _ _ _ (by omega)).trans HK.out.1))
 have hb3 : Below w1.heap.size w1 W3 := by
  rw [hW3]
  exact below_setRow (below_setRow (((Below.refl _ _).alloc (Nat.le_refl _) _).alloc (by simp) _) (Nat.le_refl w1.heap.size) _) (Nat.le_succ w1.heap.size) _
 have B3 := hidE (B1.out.trans (hb3.mono B1.out.size))
 have W3A := hidE (W1.out.next hb3)
 have kp := rowc XP.out
 obtain ⟨A, hA⟩ : ∃ A, w1.heap.size = A := ⟨_, rfl⟩
 rw [hA] at XP XQ kp ⊢
 simp only [Act.put]
 clear hW3 hb3 HK hA B1 W1
 go_wp2_with fail
 refine (HHI.out _ W3A.out).mono ?_
 rintro e w4 ⟨rfl, hb4⟩
 have kq := rowc (blk_below hb4 (lt_of_block XQ.out) XQ.out)
 have W4A := hidE (W3A.out.next hb4)
 have B4 := hidE (B3.out.trans (hb4.mono B3.out.size))
 clear hb4 kp XP XQ HHI
 go_wp2_with fail
 refine (HLO.out _ W4A.out).mono ?_
 rintro e w5 ⟨rfl, hb5⟩
 have B5 := hidE (B4.out.trans (hb5.mono B4.out.size))
 clear hb5 kq
 go_wp2_with fail
 go_ret2
 exact ⟨rfl, B5.out⟩
set_option maxRecDepth 10000 in
set_option maxHeartbeats 2000000 in
theorem sure1_any (W : World) (b g1 g2 : Nat) (y : WV) (F : Fld) (l : List Rcd) (k s : Int) (h : WAt W b y F l) (hF : F.check = 0) (hg1 : W.heap[g1]? = some (.cells #[.int .i64 k] 3 (0,0))) (hg2 : W.heap[g2]? = some (.cells #[.int .i64 s] 3 (0,0))) :
 Calls Tryz.prog 101 #[.pointer (some ⟨b, 0, none⟩), .pointer (some ⟨g1, 0, none⟩), .pointer (some ⟨g2, 0, none⟩)] W fun e w' => e = .returned (.bool (inR k 0 ((F.prs.length : Int) - 1) && staB F s)) ∧ Below W.heap.size W w' := by
 have fs := (fld_facts hF).1
 have fp : F.prs.length ≤ 1000 := by have := fld_facts hF; omega
 have wl : IntKind.i64.wrap ((F.prs.length : Int) - 1) = (F.prs.length : Int) - 1 := IntWalk.i64_in _ (by omega)
 have ws : IntKind.i64.wrap ((F.sts.length : Int) - 1) = (F.sts.length : Int) - 1 := IntWalk.i64_in _ (by omega)
 have H1 := hidE (fun W => inL_any k 0 ((F.prs.length : Int) - 1) W)
 have H2 := hidE (fun W => inL_any s 0 ((F.sts.length : Int) - 1) W)
 unfold staB
 obtain ⟨p, hp⟩ : ∃ p, inR k 0 ((F.prs.length : Int) - 1) = p := ⟨_, rfl⟩
 obtain ⟨q, hq⟩ : ∃ p, inR s 0 ((F.sts.length : Int) - 1) = p := ⟨_, rfl⟩
 rw [hp] at H1 ⊢
 rw [hq] at H2 ⊢
 have HX := h
 have G1 := hidE hg1
 have G2 := hidE hg2
 clear hp hq h hF hg1 hg2 fs fp
 have hS0 : Below W.heap.size W W.drew := (Below.refl _ _).drew
 go_enter Tryz.func101, Tryz.ntmps101
 go_upto_region 1 with fail
 cases p with
 | false =>
   refine wp_region_F (S := Below W.heap.size W) (last := 100) (by kernel_rfl) ?_
   refine tF 0 5 (.int .i64 k) rfl (by kernel_rfl) rfl (fun _ _ _ h => h) (fun V hV => ?_) hS0 ?_
   ·(have z : V.cell? ⟨g1, 0, none⟩ = some (.int .i64 k) := ce (i := 0) (blk_below hV (lt_of_block G1.out) G1.out) rfl; simp [go_sem, execOp, z])
   try simp only [sA, sB, sC]
   refine tF 1 6 (.pointer (some ⟨b, 0, none⟩)) rfl (by kernel_rfl) rfl (fun _ _ _ h => h) (fun V hV => ?_) hS0 ?_
   ·simp [go_sem, execOp]
   try simp only [sA, sB, sC]
   refine tF 2 7 (.pointer (some ⟨b, 0, none⟩)) rfl (by kernel_rfl) rfl (fun _ _ _ h => h) (fun V hV => ?_) hS0 ?_
   ·simp [go_sem, execOp]
   try simp only [sA, sB, sC]
   refine tF 3 8 (.pointer (some ⟨b, 2, none⟩)) rfl (by kernel_rfl) rfl (fun _ _ _ h => h) (fun V hV => ?_) hS0 ?_
   ·simp [go_sem, execOp]
   try simp only [sA, sB, sC]
   refine tF 4 9 (.pointer (some ⟨b, 4, none⟩)) rfl (by kernel_rfl) rfl (fun _ _ _ h => h) (fun V hV => ?_) hS0 ?_
   ·simp [go_sem, execOp]
   try simp only [sA, sB, sC]
   refine tF 5 10 (.slice y.x.aP F.prs.length y.x.cP) rfl (by kernel_rfl) rfl (fun _ _ _ h => h) (fun V hV => ?_) hS0 ?_
   ·(have z : V.cell? ⟨b, 4, none⟩ = some (.slice y.x.aP F.prs.length y.x.cP) := ce (i := 4) (blk_below hV HX.lt HX.box) rfl; simp [go_sem, execOp, z])
   try simp only [sA, sB, sC]
   refine tF 6 11 (.int .i64 ((F.prs.length : Int))) rfl (by kernel_rfl) rfl (fun _ _ _ h => h) (fun V hV => ?_) hS0 ?_
   ·simp [go_sem, execOp]
   try simp only [sA, sB, sC]
   refine tF 7 12 (.int .i64 ((F.prs.length : Int) - 1)) rfl (by kernel_rfl) rfl (fun _ _ _ h => h) (fun V hV => ?_) hS0 ?_
   ·simp [go_sem, execOp, wl]
   try simp only [sA, sB, sC]
   refine wpAnyF_step 8 rfl (by kernel_rfl) (fun K hK => ?_)
   go_simp
   go_at_call 102
   refine (H1.out _).mono ?_
   rintro e wq ⟨rfl, rfl⟩
   have hS1 := hS0
   go_wp2_with fail
   refine hK.out _ _ (.inr hS1) ?_
   clear hK K
   try simp only [Act.put, sA, sB, sC]
   refine tF 9 14 (.bool false) rfl (by kernel_rfl) rfl (fun _ _ _ h => h) (fun V hV => ?_) hS1 ?_
   ·simp [go_sem, execOp]
   try simp only [sA, sB, sC]
   refine tO 10 15 rfl (by kernel_rfl) rfl (fun _ _ _ h => h) hS1 ?_
   try simp only [sA, sB, sC]
   refine tO 11 16 rfl (by kernel_rfl) rfl (fun _ _ _ h => h) hS1 ?_
   try simp only [sA, sB, sC]
   refine tO 12 17 rfl (by kernel_rfl) rfl (fun _ _ _ h => h) hS1 ?_
   try simp only [sA, sB, sC]
   refine tO 13 18 rfl (by kernel_rfl) rfl (fun _ _ _ h => h) hS1 ?_
   try simp only [sA, sB, sC]
   refine tO 14 19 rfl (by kernel_rfl) rfl (fun _ _ _ h => h) hS1 ?_
   try simp only [sA, sB, sC]
   refine tO 15 20 rfl (by kernel_rfl) rfl (fun _ _ _ h => h) hS1 ?_
   try simp only [sA, sB, sC]
   refine tO 16 21 rfl (by kernel_rfl) rfl (fun _ _ _ h => h) hS1 ?_
   try simp only [sA, sB, sC]
   refine tO 17 22 rfl (by kernel_rfl) rfl (fun _ _ _ h => h) hS1 ?_
   try simp only [sA, sB, sC]
   refine tO 18 23 rfl (by kernel_rfl) rfl (fun _ _ _ h => h) hS1 ?_
   try simp only [sA, sB, sC]
   refine tF 19 24 (.bool false) rfl (by kernel_rfl) rfl (fun _ _ _ h => h) (fun V hV => ?_) hS1 ?_
   ·simp [go_sem, execOp]
   try simp only [sA, sB, sC]
   refine tF 20 4 (.bool false) rfl (by kernel_rfl) rfl (fun _ _ _ h => h) (fun V hV => ?_) hS1 ?_
   ·simp [go_sem, execOp]
   try simp only [sA, sB, sC]
   refine wpAnyF_done (by kernel_rfl) ?_ _
   go_wp2_with fail
   go_ret
   exact ⟨by simp, hS1⟩
 | true =>
   refine wp_region_F (S := Below W.heap.size W) (last := 100) (by kernel_rfl) ?_
   refine tF 0 5 (.int .i64 k) rfl (by kernel_rfl) rfl (fun _ _ _ h => h) (fun V hV => ?_) hS0 ?_
   ·(have z : V.cell? ⟨g1, 0, none⟩ = some (.int .i64 k) := ce (i := 0) (blk_below hV (lt_of_block G1.out) G1.out) rfl; simp [go_sem, execOp, z])
   try simp only [sA, sB, sC]
   refine tF 1 6 (.pointer (some ⟨b, 0, none⟩)) rfl (by kernel_rfl) rfl (fun _ _ _ h => h) (fun V hV => ?_) hS0 ?_
   ·simp [go_sem, execOp]
   try simp only [sA, sB, sC]
   refine tF 2 7 (.pointer (some ⟨b, 0, none⟩)) rfl (by kernel_rfl) rfl (fun _ _ _ h => h) (fun V hV => ?_) hS0 ?_
   ·simp [go_sem, execOp]
   try simp only [sA, sB, sC]
   refine tF 3 8 (.pointer (some ⟨b, 2, none⟩)) rfl (by kernel_rfl) rfl (fun _ _ _ h => h) (fun V hV => ?_) hS0 ?_
   ·simp [go_sem, execOp]
   try simp only [sA, sB, sC]
   refine tF 4 9 (.pointer (some ⟨b, 4, none⟩)) rfl (by kernel_rfl) rfl (fun _ _ _ h => h) (fun V hV => ?_) hS0 ?_
   ·simp [go_sem, execOp]
   try simp only [sA, sB, sC]
   refine tF 5 10 (.slice y.x.aP F.prs.length y.x.cP) rfl (by kernel_rfl) rfl (fun _ _ _ h => h) (fun V hV => ?_) hS0 ?_
   ·(have z : V.cell? ⟨b, 4, none⟩ = some (.slice y.x.aP F.prs.length y.x.cP) := ce (i := 4) (blk_below hV HX.lt HX.box) rfl; simp [go_sem, execOp, z])
   try simp only [sA, sB, sC]
   refine tF 6 11 (.int .i64 ((F.prs.length : Int))) rfl (by kernel_rfl) rfl (fun _ _ _ h => h) (fun V hV => ?_) hS0 ?_
   ·simp [go_sem, execOp]
   try simp only [sA, sB, sC]
   refine tF 7 12 (.int .i64 ((F.prs.length : Int) - 1)) rfl (by kernel_rfl) rfl (fun _ _ _ h => h) (fun V hV => ?_) hS0 ?_
   ·simp [go_sem, execOp, wl]
   try simp only [sA, sB, sC]
   refine wpAnyF_step 8 rfl (by kernel_rfl) (fun K hK => ?_)
   go_simp
   go_at_call 102
   refine (H1.out _).mono ?_
   rintro e wq ⟨rfl, rfl⟩
   have hS1 := hS0
   go_wp2_with fail
   refine hK.out _ _ (.inr hS1) ?_
   clear hK K
   try simp only [Act.put, sA, sB, sC]
   refine tF 9 14 (.bool true) rfl (by kernel_rfl) rfl (fun _ _ _ h => h) (fun V hV => ?_) hS1 ?_
   ·simp [go_sem, execOp]
   try simp only [sA, sB, sC]
   refine tF 10 15 (.int .i64 s) rfl (by kernel_rfl) rfl (fun _ _ _ h => h) (fun V hV => ?_) hS1 ?_
   ·(have z : V.cell? ⟨g2, 0, none⟩ = some (.int .i64 s) := ce (i := 0) (blk_below hV (lt_of_block G2.out) G2.out) rfl; simp [go_sem, execOp, z])
   try simp only [sA, sB, sC]
   refine tF 11 16 (.pointer (some ⟨b, 0, none⟩)) rfl (by kernel_rfl) rfl (fun _ _ _ h => h) (fun V hV => ?_) hS1 ?_
   ·simp [go_sem, execOp]
   try simp only [sA, sB, sC]
   refine tF 12 17 (.pointer (some ⟨b, 0, none⟩)) rfl (by kernel_rfl) rfl (fun _ _ _ h => h) (fun V hV => ?_) hS1 ?_
   ·simp [go_sem, execOp]
   try simp only [sA, sB, sC]
   refine tF 13 18 (.pointer (some ⟨b, 2, none⟩)) rfl (by kernel_rfl) rfl (fun _ _ _ h => h) (fun V hV => ?_) hS1 ?_
   ·simp [go_sem, execOp]
   try simp only [sA, sB, sC]
   refine tF 14 19 (.pointer (some ⟨b, 2, none⟩)) rfl (by kernel_rfl) rfl (fun _ _ _ h => h) (fun V hV => ?_) hS1 ?_
   ·simp [go_sem, execOp]
   try simp only [sA, sB, sC]
   refine tF 15 20 (.slice y.x.aS F.sts.length y.x.cS) rfl (by kernel_rfl) rfl (fun _ _ _ h => h) (fun V hV => ?_) hS1 ?_
   ·(have z : V.cell? ⟨b, 2, none⟩ = some (.slice y.x.aS F.sts.length y.x.cS) := ce (i := 2) (blk_below hV HX.lt HX.box) rfl; simp [go_sem, execOp, z])
   try simp only [sA, sB, sC]
   refine tF 16 21 (.int .i64 ((F.sts.length : Int))) rfl (by kernel_rfl) rfl (fun _ _ _ h => h) (fun V hV => ?_) hS1 ?_
   ·simp [go_sem, execOp]
   try simp only [sA, sB, sC]
   refine tF 17 22 (.int .i64 ((F.sts.length : Int) - 1)) rfl (by kernel_rfl) rfl (fun _ _ _ h => h) (fun V hV => ?_) hS1 ?_
   ·simp [go_sem, execOp, ws]
   try simp only [sA, sB, sC]
   refine wpAnyF_step 18 rfl (by kernel_rfl) (fun K hK => ?_)
   go_simp
   go_at_call 102
   refine (H2.out _).mono ?_
   rintro e wq ⟨rfl, rfl⟩
   have hS2 := hS1
   go_wp2_with fail
   refine hK.out _ _ (.inr hS2) ?_
   clear hK K
   try simp only [Act.put, sA, sB, sC]
   refine tF 19 24 (.bool q) rfl (by kernel_rfl) rfl (fun _ _ _ h => h) (fun V hV => ?_) hS2 ?_
   ·simp [go_sem, execOp]
   try simp only [sA, sB, sC]
   refine tF 20 4 (.bool q) rfl (by kernel_rfl) rfl (fun _ _ _ h => h) (fun V hV => ?_) hS2 ?_
   ·simp [go_sem, execOp]
   try simp only [sA, sB, sC]
   refine wpAnyF_done (by kernel_rfl) ?_ _
   go_wp2_with fail
   go_ret
   exact ⟨by simp, hS2⟩
theorem inv_sure {F : Fld} {k s : Int} (h : flagE (inR k 0 ((F.prs.length : Int) - 1) && staB F s) = 0) : (∃ n : Nat, k = n ∧ n < F.prs.length) ∧ staB F s = true := by
 unfold flagE at h
 cases p : inR k 0 ((F.prs.length : Int) - 1) <;> cases q : staB F s <;> simp_all
 have := inR_iff.1 p
 exact ⟨k.toNat, by omega, by omega⟩
set_option maxRecDepth 10000 in
set_option maxHeartbeats 2000000 in
theorem sureL_any (w : World) (x : FV) (F : Fld) (ar : Option Addr) (cr : Nat) (l : List Rcd) (k s : Int) (h : FldAt w x F) (hr : RcdsAt w ar l) (hn : l.length ≤ 100000) (hk : ∀ r ∈ l, (0 ≤ r.call.kind ∧ r.call.kind ≤ 255) ∧ r.deed.size ≤ 9223372036854775807) :
 Calls Tryz.prog 41 #[x.val F, .slice ar l.length cr, .int .i64 k, .int .i64 s] w fun e w' => e = .returned (.tuple #[.int .i64 (sureLE F l k s).1, .int .i64 (sureLE F l k s).2.1, .int .i64 (sureLE F l k s).2.2]) ∧ Below w.heap.size w w' := by
 obtain ⟨w0, hw0⟩ : ∃ W, W = ((w.alloc (.cells (x.arr F) 27)).alloc (.cells #[.int .i64 k] 3)).alloc (.cells #[.int .i64 s] 3) := ⟨_, rfl⟩
 have B0 := hidE (show Below w.heap.size w w0 by rw [hw0]; exact (((Below.refl _ _).alloc (Nat.le_refl _) _).alloc (by simp) _).alloc (by simp; omega) _)
 have X0 := hidE (show Kb [(w.heap.size + 1 + 1, .cells #[.int .i64 s] 3), (w.heap.size + 1, .cells #[.int .i64 k] 3), (w.heap.size, .cells (x.arr F) 27)] w0 by
  rw [hw0]
  have := Kb.alloc (o := .cells #[.int .i64 s] 3) (Kb.alloc (o := .cells #[.int .i64 k] 3) (Kb.alloc (W := w) (o := .cells (x.arr F) 27) (L := []) trivial))
  simpa using this)
 have HA := hidE (agreed_any w0 x F ar cr l (h.below B0.out) (hr.below B0.out (Nat.le_refl _)) hn hk 101 #[.pointer (some ⟨w.heap.size + 1, 0, none⟩), .pointer (some ⟨w.heap.size + 1 + 1, 0, none⟩)] (inR k 0 ((F.prs.length : Int) - 1) && staB F s) (enters_of Tryz.func101 (by kernel_rfl) rfl)
  (fun hg W b o c hw hb => sure1_any W b (w.heap.size + 1) (w.heap.size + 1 + 1) _ F l k s hw hg.fld (blk_below hb (lt_of_block X0.out.2.1) X0.out.2.1) (blk_below hb (lt_of_block X0.out.1) X0.out.1)))
 obtain ⟨⟨R1, R2, R3⟩, hR⟩ : ∃ R, sureLE F l k s = R := ⟨_, rfl⟩
 rw [hR]
 unfold sureLE at hR
 have HMZ := hidE (fun (q : matchE F l (flagE (inR k 0 ((F.prs.length : Int) - 1) && staB F s)) = 0) => match_zero.1 q)
 obtain ⟨M, hM⟩ : ∃ M, matchE F l (flagE (inR k 0 ((F.prs.length : Int) - 1) && staB F s)) = M := ⟨_, rfl⟩
 rw [hM] at HA hR HMZ
 have kk := rowc X0.out.2.2.1
 clear hM h hr hn hk
 unfold FV.val FV.arr at *
 go_enter Tryz.func41, Tryz.ntmps41
 go_upto_region 1 with fail
 rw [← hw0]
 clear hw0
 go_wp2_with fail
 refine HA.out.mono ?_
 rintro e w1 ⟨hp, hb1⟩
 have B1 := hidE (B0.out.trans (hb1.mono B0.out.size))
 have X1 := hidE (X0.out.next hb1)
 clear hb1 HA kk X0
 unfold AgreedPost at hp
 by_cases h0 : M = 0
 rotate_left
 ·have hzb : (M != 0) = true := by simpa using h0
  rw [if_neg h0] at hp
  rw [if_pos h0] at hR
  obtain ⟨v, rfl⟩ := hp
  cases hR
  clear h0 HMZ
  go_wp2_with fail
  refine bodyPost_ret (by simp [results, Tryz.results41, go_sem]) rfl ⟨rfl, B1.out⟩
 subst h0
 rw [if_pos rfl] at hp
 rw [if_neg (by simp)] at hR
 obtain ⟨b, o, c, rfl, hw, hbl⟩ := hp
 obtain ⟨q1, q2, q3⟩ := HMZ.out rfl
 obtain ⟨⟨n, hkn, hnl⟩, q5⟩ := inv_sure q2
 subst hkn
 rw [show ((n : Int)).toNat = n from rfl] at hR
 have HTH := hidE (thereW_any w1 b _ F l n s hw hnl)
 have HSU := hidE (fun W (q : WAt W b ⟨x, o, c, ar, cr⟩ F l) => sureW_any W b ⟨x, o, c, ar, cr⟩ F l n s q hnl q1 q3 q5)
 obtain ⟨tb, htb⟩ : ∃ t, thereB (parAt F n) s = t := ⟨_, rfl⟩
 obtain ⟨⟨v1, v2⟩, hv⟩ : ∃ v, sureE F l (parAt F n) s = v := ⟨_, rfl⟩
 rw [htb] at HTH hR
 rw [hv] at HSU hR
 have HW := hidE hw
 have kx := rowc X1.out.1
 have ky := rowc X1.out.2.1
 clear hw hbl HMZ q1 q2 q3 q5 hnl htb hv
 go_wp2_with fail
 refine HTH.out.mono ?_
 rintro e w2 ⟨rfl, hb2⟩
 have B2 := hidE (B1.out.trans (hb2.mono B1.out.size))
 have X2 := hidE (X1.out.next hb2)
 have W2 := hidE (HW.out.next hb2)
 clear hb2 kx ky HTH X1 HW
 cases tb
 ·rw [if_pos rfl] at hR
  cases hR
  go_wp2_with fail
  refine bodyPost_ret (by simp [results, Tryz.results41, go_sem]) rfl ⟨rfl, B2.out⟩
 rw [if_neg (by simp)] at hR
 have kx := rowc X2.out.1
 have ky := rowc X2.out.2.1
 go_wp2_with fail
 refine (HSU.out _ W2.out).mono ?_
 rintro e w3 ⟨rfl, hb3⟩
 have B3 := hidE (B2.out.trans (hb3.mono B2.out.size))
 clear hb3 kx ky X2
 by_cases q : v2 ≤ v1
 ·rw [if_pos q] at hR
  cases hR
  go_wp2_with fail
  refine bodyPost_ret (by simp [results, Tryz.results41, go_sem]) rfl ⟨rfl, B3.out⟩
 ·rw [if_neg q] at hR
  cases hR
  go_wp2_with fail
  refine bodyPost_ret (by simp [results, Tryz.results41, go_sem]) rfl ⟨rfl, B3.out⟩
theorem index1_any (w : World) (q : Int) (b : Nat) (a : Option Addr) (n cap : Nat) (hn : n ≤ 9223372036854775807) (hc : w.cell? ⟨b, 1, none⟩ = some (.slice a n cap)) :
 Calls Tryz.prog 231 #[.int .i64 q, .pointer (some ⟨b, 0, none⟩)] w fun e w' => e = .returned (.bool (!inR q 0 ((n : Int) - 1))) ∧ w = w' := by
 have hw : IntKind.i64.wrap ((n : Int) - 1) = (n : Int) - 1 := IntWalk.i64_in _ (by omega)
 go_enter Tryz.func231, Tryz.ntmps231
 go_wp2_with (go_at_call 232; refine (within_any _ _ _ _).mono ?_; rintro e w' ⟨rfl, rfl⟩)
 go_ret
 exact ⟨rfl, rfl⟩
theorem index_any (w : World) (N : Int) (a : Option Addr) (cap n : Nat) (a2 : Option Addr) (cap2 : Nat) (l : List Int) (hn : n ≤ 9223372036854775807) (hl : l.length ≤ 9223372036854775807) (h : IntsAt w a2 l) :
 Calls Tryz.prog 158 #[.agg #[.int .i64 N, .slice a n cap], .slice a2 l.length cap2] w fun e w' => e = .returned (.bool (indexP n l)) ∧ Below w.heap.size w w' := by
 have H := hidE h
 clear h
 have hc : (w.alloc (.cells #[.int .i64 N, .slice a n cap] 61)).cell? ⟨w.heap.size, 1, none⟩ = some (.slice a n cap) := by simp [go_sem]
 have T : TestsInts Tryz.prog 231 #[.pointer (some ⟨w.heap.size, 0, none⟩)] (w.alloc (.cells #[.int .i64 N, .slice a n cap] 61)) l (fun q => !inR q 0 ((n : Int) - 1)) :=
  fun k hk W hb => (index1_any W _ w.heap.size a n cap hn ((hb.cell (by simp)).trans hc)).mono fun e W' ⟨he, hw⟩ => ⟨he, hw ▸ Below.refl _ _⟩
 have HT := hidE T
 have E := hidE (enters_of Tryz.func231 (by kernel_rfl) rfl)
 clear T hc
 go_enter Tryz.func158, Tryz.ntmps158
 go_wp2_with (go_at_call 215; refine (containsFuncInts_any _ a2 cap2 l _ _ _ hl (H.out.alloc _) HT.out E.out).mono ?_; rintro e w' ⟨rfl, hb⟩)
 go_ret
 exact ⟨rfl, ((Below.refl _ _).alloc (Nat.le_refl _) _).trans (hb.mono (by simp))⟩
def SysPost (r : Int × List Bd × Int) (base : Nat) (e : Ending) (w' : World) : Prop := ∃ v, e = .returned (.tuple #[.agg #[.int .i64 r.1, v], .int .i64 r.2.2]) ∧ BoundsOut r.2.1 base v w'
theorem boundsOut_nil (base : Nat) (w : World) : BoundsOut [] base (.slice none 0 0) w := World.ownsRow_nil _ _ _ _
theorem ownsRow_kept0 {W W' : World} {base : Nat} {e : TypeId} {size : Nat} {v : Value} {n : Nat} {xs : List Value} (h : W.ownsRow base e size v n xs) (hb : Below W.heap.size W W') : W'.ownsRow base e size v n xs :=
 ownsRow_of_block h (fun q hq => hb.block q (owns_lt' h hq))
def withoutE (N : Int) (bs : List Bd) (l : List Int) : Int × List Bd × Int := if checkP N bs = 0 then (N, withoutP bs l, 0) else (0, [], checkP N bs)
set_option maxRecDepth 100000 in
set_option maxHeartbeats 1000000 in
theorem withoutS_any (w : World) (N : Int) (a : Option Addr) (cap : Nat) (bs : List Bd) (a2 : Option Addr) (cap2 : Nat) (l : List Int) (hN : i64ok N) (hl : bs.length ≤ 9223372036854775807) (hs : SliceOk a bs.length cap) (h : BoundsAt w a bs) (hl2 : l.length ≤ 9223372036854775807) (h2 : IntsAt w a2 l) :
 Calls Tryz.prog 96 #[.agg #[.int .i64 N, .slice a bs.length cap], .slice a2 l.length cap2] w fun e w' => SysPost (withoutE N bs l) w.heap.size e w' ∧ Below w.heap.size w w' := by
 obtain ⟨W0, hW0⟩ : ∃ W0, W0 = (w.alloc (.cells #[.int .i64 N, .slice a bs.length cap] 61)).alloc (.cells #[.int .i64 0, .slice none 0 0] 61) := ⟨_, rfl⟩
 have b0 : Below w.heap.size w W0 := by rw [hW0]; exact ((Below.refl _ _).alloc (Nat.le_refl _) _).alloc (by simp) _
 have x0 : W0.heap[w.heap.size]? = some (.cells #[.int .i64 N, .slice a bs.length cap] 61 (0,0)) := by rw [hW0, Below.heap_alloc _ _ _ (by simp), heap_alloc_new]
 have x4 : W0.heap[w.heap.size + 1]? = some (.cells #[.int .i64 0, .slice none 0 0] 61 (0,0)) := by rw [hW0, heap_alloc_at _ _ _ (by simp)]
 have hck := check_any W0 N a cap bs hN hl (h.below b0 (Nat.le_refl _))
 have HW0 := hidE hW0
 have B0 := hidE b0
 have X0 := hidE x0
 have X4 := hidE x4
 have H := hidE h
 have H2 := hidE h2
 clear hW0 b0 x0 x4 h h2
 by_cases hc : checkP N bs = 0
 ·obtain ⟨n0, n1, n2, _⟩ := checkP_zero hc
  have hwo := fun W hb hb2 => without_any W N a cap bs a2 cap2 l (by omega) hs hb hl2 hb2
  have hd : withoutE N bs l = (N, withoutP bs l, 0) := by unfold withoutE; rw [if_pos hc]
  rw [hc] at hck
  obtain ⟨L, hL⟩ : ∃ L, withoutP bs l = L := ⟨_, rfl⟩
  rw [hL] at hwo hd
  have HCK := hidE hck
  have HWO := hidE hwo
  have HD := hidE hd
  clear hck hwo hd hc hN hL n0 n1 n2
  go_enter Tryz.func96, Tryz.ntmps96
  go_upto_region 1 with fail
  rw [← HW0.out]
  have e0 : W0.cell? ⟨w.heap.size, 0, none⟩ = some (.int .i64 N) := c_e X0.out rfl
  have e1 : W0.cell? ⟨w.heap.size, 1, none⟩ = some (.slice a bs.length cap) := c_e X0.out rfl
  go_wp2_with fail
  refine HCK.out.mono ?_
  rintro e w1 ⟨rfl, hb1⟩
  have y0 := blk_below hb1 (lt_of_block X0.out) X0.out
  have y4 := blk_below hb1 (lt_of_block X4.out) X4.out
  have f0 : w1.cell? ⟨w.heap.size, 0, none⟩ = some (.int .i64 N) := c_e y0 rfl
  have f1 : w1.cell? ⟨w.heap.size, 1, none⟩ = some (.slice a bs.length cap) := c_e y0 rfl
  have B1 := hidE (B0.out.trans (hb1.mono B0.out.size))
  have Y4 := hidE y4
  clear e0 e1 y0 y4 hb1
  go_wp2_with fail
  refine (HWO.out _ (H.out.below B1.out (Nat.le_refl _)) (H2.out.below B1.out (Nat.le_refl _))).mono ?_
  rintro e w2 ⟨v, rfl, ho, hb2⟩
  obtain ⟨o, c, rfl, _⟩ := boundsAt_of_out ho
  have y2 := blk_below hb2 (lt_of_block Y4.out) Y4.out
  have g0 : w2.cell? ⟨w.heap.size + 1, 0, none⟩ = some (.int .i64 0) := c_e y2 rfl
  have g1 : w2.cell? ⟨w.heap.size + 1, 1, none⟩ = some (.slice none 0 0) := c_e y2 rfl
  have g2 : ∀ i, w2.frozen? ⟨w.heap.size + 1, i, none⟩ = false := fun i => frozen_of_row _ _ _ _ _ y2
  have l4 := lt_of_block Y4.out
  have B2 := hidE (B1.out.trans (hb2.mono B1.out.size))
  have HO := hidE ho
  have HS1 := hidE B1.out.size
  clear f0 f1 hb2 ho y2
  go_wp2_with fail
  refine bodyPost_ret (v := .tuple #[.agg #[.int .i64 N, .slice o L.length c], .int .i64 0]) (by simp [results, Tryz.results96, go_sem, g0, g1]) rfl ⟨?_, ?_⟩
  ·rw [HD.out]
   exact ⟨_, rfl, ownsRow_base (ownsRow_setCell_below (ownsRow_setCell_below HO.out (by exact l4) _) (by exact l4) _) HS1.out⟩
  ·exact (B2.out.setCell (by simp) _).setCell (by simp) _
 ·have hd : withoutE N bs l = (0, [], checkP N bs) := by unfold withoutE; rw [if_neg hc]
  obtain ⟨cc, hcc⟩ : ∃ c, checkP N bs = c := ⟨_, rfl⟩
  rw [hcc] at hd hc hck
  have hcb : (cc != 0) = true := by simpa using hc
  have HCK := hidE hck
  have HD := hidE hd
  clear hck hd hc hcc hN
  go_enter Tryz.func96, Tryz.ntmps96
  go_upto_region 1 with fail
  rw [← HW0.out]
  have e0 : W0.cell? ⟨w.heap.size, 0, none⟩ = some (.int .i64 N) := c_e X0.out rfl
  have e1 : W0.cell? ⟨w.heap.size, 1, none⟩ = some (.slice a bs.length cap) := c_e X0.out rfl
  go_wp2_with fail
  refine HCK.out.mono ?_
  rintro e w1 ⟨rfl, hb1⟩
  have y2 := blk_below hb1 (lt_of_block X4.out) X4.out
  have g0 : w1.cell? ⟨w.heap.size + 1, 0, none⟩ = some (.int .i64 0) := c_e y2 rfl
  have g1 : w1.cell? ⟨w.heap.size + 1, 1, none⟩ = some (.slice none 0 0) := c_e y2 rfl
  have g2 : ∀ i, w1.frozen? ⟨w.heap.size + 1, i, none⟩ = false := fun i => frozen_of_row _ _ _ _ _ y2
  have B1 := hidE (B0.out.trans (hb1.mono B0.out.size))
  clear e0 e1 hb1 y2
  go_wp2_with fail
  refine bodyPost_ret (v := .tuple #[.agg #[.int .i64 0, .slice none 0 0], .int .i64 cc]) (by simp [results, Tryz.results96, go_sem, g0, g1]) rfl ⟨?_, ?_⟩
  ·rw [HD.out]
   exact ⟨_, rfl, boundsOut_nil _ _⟩
  ·exact (B1.out.setCell (by simp) _).setCell (by simp) _
def recordsE (N : Int) (bs : List Bd) (l : List Int) : List Int × Int := if checkP N bs ≠ 0 then ([], checkP N bs) else if indexP bs.length l = true then (recordsP (l.map (bAt bs)), 0) else ([], 1)
theorem bAt_at {bs : List Bd} {q : Nat} (h : q < bs.length) : bAt bs (q : Int) = bs[q] := by
 unfold bAt; rw [Int.toNat_natCast, List.getD_eq_getElem?_getD, List.getElem?_eq_getElem h]; rfl
theorem map_take_succY {α β : Type} (f : α → β) {l : List α} {k : Nat} (hk : k < l.length) : (l.take (k + 1)).map f = (l.take k).map f ++ [f l[k]] := by
 rw [List.take_succ_eq_append_getElem hk, List.map_append]; rfl
set_option maxRecDepth 100000 in
set_option maxHeartbeats 2000000 in
theorem recordsS_any (w : World) (N : Int) (a : Option Addr) (cap : Nat) (bs : List Bd) (a2 : Option Addr) (cap2 : Nat) (l : List Int) (hN : i64ok N) (hl : bs.length ≤ 9223372036854775807) (h : BoundsAt w a bs) (hl2 : l.length ≤ 4000) (h2 : IntsAt w a2 l) :
 Calls Tryz.prog 87 #[.agg #[.int .i64 N, .slice a bs.length cap], .slice a2 l.length cap2] w fun e w' => PathPost (recordsE N bs l).1 (recordsE N bs l).2 w.heap.size e w' ∧ Below w.heap.size w w' := by
 have b0 : Below w.heap.size w (w.alloc (.cells #[.int .i64 N, .slice a bs.length cap] 61)) := (Below.refl _ _).alloc (Nat.le_refl _) _
 have hck := check_any (w.alloc (.cells #[.int .i64 N, .slice a bs.length cap] 61)) N a cap bs hN hl (h.below b0 (Nat.le_refl _))
 have hix := fun W hb => index_any W N a cap bs.length a2 cap2 l hl (by omega) hb
 have B0 := hidE b0
 have H := hidE h
 have H2 := hidE h2
 clear b0 h h2
 by_cases hc : checkP N bs = 0
 ·obtain ⟨n0, n1, n2, _⟩ := checkP_zero hc
  rw [hc] at hck
  have hE0 : recordsE N bs l = if indexP bs.length l = true then (recordsP (l.map (bAt bs)), 0) else ([], 1) := by unfold recordsE; rw [if_neg (by simp [hc])]
  have HCK := hidE hck
  clear hck hc hN
  cases hx : indexP bs.length l with
  | false =>
    have hE : recordsE N bs l = ([], 1) := by rw [hE0, hx]; simp
    clear hE0
    rw [hx] at hix
    have HE := hidE hE
    have HIX := hidE hix
    clear hE hix hx
    go_enter Tryz.func87, Tryz.ntmps87
    go_wp2_with fail
    refine HCK.out.mono ?_
    rintro e w1 ⟨rfl, hb1⟩
    have x1 := blk_below hb1 (by simp) (heap_alloc_new w (.cells #[.int .i64 N, .slice a bs.length cap] 61))
    have e0 : w1.cell? ⟨w.heap.size, 0, none⟩ = some (.int .i64 N) := c_e x1 rfl
    have e1 : w1.cell? ⟨w.heap.size, 1, none⟩ = some (.slice a bs.length cap) := c_e x1 rfl
    have B1 := hidE (B0.out.trans (hb1.mono B0.out.size))
    clear x1 hb1
    go_wp2_with fail
    refine (HIX.out _ (H2.out.below B1.out (Nat.le_refl _))).mono ?_
    rintro e w2 ⟨rfl, hb2⟩
    clear e0 e1
    go_wp2_with fail
    refine bodyPost_ret (v := .tuple #[.slice none 0 0, .int .i64 1]) (by simp [results, Tryz.results87, go_sem]) rfl ⟨?_, B1.out.trans (hb2.mono B1.out.size)⟩
    rw [HE.out]
    exact ⟨_, rfl, World.ownsRow_nil _ _ _ _⟩
  | true =>
    have hall := indexP_iff.1 hx
    have hE : recordsE N bs l = (recordsP (l.map (bAt bs)), 0) := by rw [hE0, hx]; simp
    clear hE0
    rw [hx] at hix
    have HE := hidE hE
    have HIX := hidE hix
    have HALL := hidE hall
    clear hE hix hx hall
    go_enter Tryz.func87, Tryz.ntmps87
    go_wp2_with fail
    refine HCK.out.mono ?_
    rintro e w1 ⟨rfl, hb1⟩
    have x1 := blk_below hb1 (by simp) (heap_alloc_new w (.cells #[.int .i64 N, .slice a bs.length cap] 61))
    have e0 : w1.cell? ⟨w.heap.size, 0, none⟩ = some (.int .i64 N) := c_e x1 rfl
    have e1 : w1.cell? ⟨w.heap.size, 1, none⟩ = some (.slice a bs.length cap) := c_e x1 rfl
    have B1 := hidE (B0.out.trans (hb1.mono B0.out.size))
    have X1 := hidE x1
    clear x1 hb1
    go_wp2_with fail
    refine (HIX.out _ (H2.out.below B1.out (Nat.le_refl _))).mono ?_
    rintro e w2 ⟨rfl, hb2⟩
    have X2 := hidE (blk_below hb2 (lt_of_block X1.out) X1.out)
    have B2 := hidE (B1.out.trans (hb2.mono B1.out.size))
    clear e0 e1 hb2
    go_wp2_with fail
    go_loopw [7, 21] (fun v i wr => ∃ k : Nat, k ≤ l.length ∧ i = .int .i64 k ∧ Hid (wr.heap[w.heap.size]? = some (.cells #[.int .i64 N, .slice a bs.length cap] 61 (0,0))) ∧ Hid (BoundsOut ((l.take k).map (bAt bs)) (w.heap.size + 1) v wr) ∧ Hid (Below w.heap.size w wr)) (fun _ i _ => l.length - (intOf i).toNat)
    case atStart => exact ⟨0, by omega, rfl, X2, hidE (boundsOut_nil _ _), B2⟩
    case round =>
     obtain ⟨k, hk, rfl, hx, hown, hb⟩ := hrel
     have l0 : w.heap.size < wr.heap.size := lt_of_block hx.out
     by_cases hlt : k < l.length
     ·have e1 : wr.cell? ⟨w.heap.size, 1, none⟩ = some (.slice a bs.length cap) := c_e hx.out rfl
      obtain ⟨b2, off2, rfl, hbl2, c9⟩ := (H2.out.below hb.out (Nat.le_refl _)).at hlt
      have hq := HALL.out l[k] (List.getElem_mem hlt)
      obtain ⟨q, hqe⟩ : ∃ q : Nat, l[k] = (q : Int) := ⟨l[k].toNat, by omega⟩
      have htk := map_take_succY (bAt bs) hlt
      rw [hqe] at hq c9 htk
      have hql : q < bs.length := by omega
      have qI : (q : Int) < (bs.length : Int) := hq.2
      rw [bAt_at hql] at htk
      obtain ⟨b, off, rfl, hbl, hcs⟩ := (H.out.below hb.out (Nat.le_refl _)).at hql
      obtain ⟨c0, c1, c2, c3⟩ := hcs
      obtain ⟨x, hxx⟩ : ∃ x, bs[q] = x := ⟨_, rfl⟩
      rw [hxx] at c0 c1 c2 c3 htk
      obtain ⟨xs, xd, xm, xr⟩ := x
      simp only at c0 c1 c2 c3
      have hlen : ((l.take k).map (bAt bs)).length ≤ 4000 := by simp; omega
      have ba : Below wr.heap.size wr (wr.alloc (.cells #[.int .i64 xs, .int .i64 xd, .int .i64 xm, .int .i64 xr] 65)) := (Below.refl _ _).alloc (Nat.le_refl _) _
      obtain ⟨v2, W2, hr2, ho2, hb2⟩ := append_bounds (wr.alloc (.cells #[.int .i64 xs, .int .i64 xd, .int .i64 xm, .int .i64 xr] 65)) (w.heap.size + 1) u7 ((l.take k).map (bAt bs)) (World.ownsRow.alloc hown.out _) (some ⟨wr.heap.size, 0, none⟩) 1 [⟨xs, xd, xm, xr⟩]
       (bounds_one (b := ⟨xs, xd, xm, xr⟩) (heap_alloc_new wr _)) (by omega) (by simp) (by simp; omega) 59
      have bW : Below (w.heap.size + 1) wr W2 := (ba.mono (by omega)).trans hb2
      have HR2 := hidE hr2
      have HO2 := hidE ho2
      have HX2 := hidE ((bW.block _ (by omega)).trans hx.out)
      have HBW := hidE (hb.out.trans (bW.mono (by omega)))
      have HTK := hidE htk
      clear hr2 ho2 hb2 ba bW htk hxx hqe hq hlen
      go_wp2_with (at_builtin; refine wpList_op_append rfl (s := .tmp 25) (x := .tmp 31) (t := 59) rfl rfl rfl HR2.out ?_)
      go_roundw
      case rel => exact ⟨k + 1, by omega, by go_num, HX2, hidE (by rw [HTK.out]; exact HO2.out), HBW⟩
      case measure => simp [intOf]; omega
     ·have hall : l.take k = l := List.take_of_length_le (by omega)
      rw [hall] at hown
      obtain ⟨o, c, rfl, hba, _⟩ := boundsAt_of_out hown.out
      have hrec := records_any wr o c (l.map (bAt bs)) (by simp; omega) hba
      rw [List.length_map] at hrec
      have HREC := hidE hrec
      clear hrec hba hown hall
      go_wp2_with fail
      refine HREC.out.mono ?_
      rintro e w3 ⟨v, rfl, hov, hb3⟩
      obtain ⟨o3, c3, rfl, _⟩ := intsAt_of_owns hov
      have HOV := hidE (ownsRow_base hov hb.out.size)
      have HB3 := hidE (hb.out.trans (hb3.mono hb.out.size))
      clear hov hb3
      go_wp2_with fail
      refine bodyPost_ret (v := .tuple #[.slice o3 (recordsP (l.map (bAt bs))).length c3, .int .i64 0]) (by simp [results, Tryz.results87, go_sem]) rfl ⟨?_, HB3.out⟩
      rw [HE.out]
      exact ⟨_, rfl, HOV.out⟩
 ·have hE : recordsE N bs l = ([], checkP N bs) := by unfold recordsE; rw [if_pos hc]
  obtain ⟨cc, hcc⟩ : ∃ c, checkP N bs = c := ⟨_, rfl⟩
  rw [hcc] at hE hc hck
  have hcb : (cc != 0) = true := by simpa using hc
  have HCK := hidE hck
  have HE := hidE hE
  clear hck hE hc hcc hN hix
  go_enter Tryz.func87, Tryz.ntmps87
  go_wp2_with fail
  refine HCK.out.mono ?_
  rintro e w1 ⟨rfl, hb1⟩
  go_wp2_with fail
  refine bodyPost_ret (v := .tuple #[.slice none 0 0, .int .i64 cc]) (by simp [results, Tryz.results87, go_sem]) rfl ⟨?_, B0.out.trans (hb1.mono B0.out.size)⟩
  rw [HE.out]
  exact ⟨_, rfl, World.ownsRow_nil _ _ _ _⟩
def conflictE (F : Fld) (l : List Rcd) : List Int × Bool × Int :=
 if (checkE F l).2 ≠ 0 then ([], false, (checkE F l).2) else if agreeB F l = true then ([], false, 0)
 else (recordsP ((circleP (ptN F) (sysL F l)).1.map (bAt (sysL F l))), true, 0)
theorem circle_agree {F : Fld} {l : List Rcd} (h : Good F l) (ha : agreeB F l = true) : circleP (ptN F) (sysL F l) = ([], false, 0) := by
 unfold agreeB keptP at ha
 unfold circleP
 rw [if_neg (by rw [sys_check h]; simp), if_pos ha]
theorem records_index {F : Fld} {l : List Rcd} (h : Good F l) {c : List Int} (hc : indexP (sysL F l).length c = true) : recordsE (ptN F) (sysL F l) c = (recordsP (c.map (bAt (sysL F l))), 0) := by
 unfold recordsE
 rw [if_neg (by rw [sys_check h]; simp), if_pos hc]
theorem ptN_ok {F : Fld} (h : F.check = 0) : i64ok (ptN F) := by
 have := pt_le h
 unfold i64ok; omega
set_option maxRecDepth 10000 in
set_option maxHeartbeats 2000000 in
theorem conflictL_any (w : World) (x : FV) (F : Fld) (ar : Option Addr) (cr : Nat) (l : List Rcd) (h : FldAt w x F) (hr : RcdsAt w ar l) (hn : l.length ≤ 100000) (hk : ∀ r ∈ l, (0 ≤ r.call.kind ∧ r.call.kind ≤ 255) ∧ r.deed.size ≤ 9223372036854775807) :
 Calls Tryz.prog 29 #[x.val F, .slice ar l.length cr] w fun e w' => ThroughPost (conflictE F l).1 (conflictE F l).2.1 (conflictE F l).2.2 w.heap.size e w' ∧ Below w.heap.size w w' := by
 obtain ⟨w0, hw0⟩ : ∃ W, W = w.alloc (.cells (x.arr F) 27) := ⟨_, rfl⟩
 have B0 := hidE (show Below w.heap.size w w0 by rw [hw0]; exact (Below.refl _ _).alloc (Nat.le_refl _) _)
 have X0 := hidE (show w0.heap[w.heap.size]? = some (.cells (x.arr F) 27 (0,0)) by rw [hw0]; exact heap_alloc_new _ _)
 have HC := hidE (open_any w0 x F ar cr l (h.below B0.out) (hr.below B0.out (Nat.le_refl _)) hn hk)
 have HG := hidE (fun (q : (checkE F l).2 = 0) => (check_iff F l).1 q)
 obtain ⟨⟨CL, CB, CE⟩, hCF⟩ : ∃ R, conflictE F l = R := ⟨_, rfl⟩
 rw [hCF]
 unfold conflictE at hCF
 have HCF := hidE hCF
 clear hCF
 obtain ⟨r2, hR⟩ : ∃ R, (checkE F l).2 = R := ⟨_, rfl⟩
 rw [hR] at HC HG HCF
 clear hR h hr hn hk
 have kk := rowc X0.out
 unfold FV.val FV.arr at *
 go_enter Tryz.func29, Tryz.ntmps29
 go_upto_region 1 with fail
 rw [← hw0]
 clear hw0
 go_wp2_with fail
 refine HC.out.mono ?_
 rintro e w1 ⟨hp, hb1⟩
 have B1 := hidE (B0.out.trans (hb1.mono B0.out.size))
 clear hb1 HC X0 kk
 unfold OpenPost at hp
 by_cases h0 : r2 = 0
 rotate_left
 ·have hzb : (r2 != 0) = true := by simpa using h0
  rw [if_neg h0] at hp
  subst hp
  have hq := HCF.out
  rw [if_pos h0] at hq
  cases hq
  clear h0 HCF HG
  go_wp2_with fail
  refine bodyPost_ret (v := .tuple #[.slice none 0 0, .bool false, .int .i64 CE]) (by simp [results, Tryz.results29, go_sem]) rfl ⟨⟨_, rfl, World.ownsRow_nil _ _ _ _⟩, B1.out⟩
 subst h0
 rw [if_pos rfl] at hp
 obtain ⟨b, o, c, rfl, hw, hbl, -⟩ := hp
 have hG := HG.out rfl
 have hq := HCF.out
 rw [if_neg (by simp)] at hq
 have HN := hidE (ptN_ok hG.fld)
 have HCI := hidE (circle_any w1 (ptN F) o c (sysL F l) HN.out (Nat.le_trans hw.cap.1 hw.cap.2) hw.bnd)
 have HRE := hidE (fun W cl a2 c2 (hb : Below w1.heap.size w1 W) (q : List.length cl ≤ 4000) (hc : IntsAt W a2 cl) => recordsS_any W (ptN F) o c (sysL F l) a2 c2 cl HN.out (Nat.le_trans hw.cap.1 hw.cap.2) (hw.bnd.below hb (Nat.le_refl _)) q hc)
 have HKX := hidE (fun W (hb : Below w1.heap.size w1 W) => rowc (hw.next hb).box)
 have HX := hidE hw.box
 have pl := pt_le hG.fld
 have kx := rowc HX.out
 unfold WV.arr at kx
 cases hag : agreeB F l
 rotate_left
 ·rw [hag, if_pos rfl] at hq
  cases hq
  have hcv := circle_agree hG hag
  rw [hcv] at HCI
  obtain ⟨P, hP⟩ : ∃ P : Int, ((ptN F : Nat) : Int) = P := ⟨_, rfl⟩
  rw [hP] at kx HCI
  obtain ⟨LN, hLN⟩ : ∃ n, (sysL F l).length = n := ⟨_, rfl⟩
  rw [hLN] at kx HCI
  clear hP hLN hcv hag hG HG HCF HRE HKX hw hbl HN pl
  go_wp2_with fail
  refine HCI.out.mono ?_
  rintro e w2 ⟨⟨v, rfl, -⟩, hb2⟩
  have B2 := hidE (B1.out.trans (hb2.mono B1.out.size))
  clear hb2 kx
  go_wp2_with fail
  refine bodyPost_ret (v := .tuple #[.slice none 0 0, .bool false, .int .i64 0]) (by simp [results, Tryz.results29, go_sem]) rfl ⟨⟨_, rfl, World.ownsRow_nil _ _ _ _⟩, B2.out⟩
 rw [hag, if_neg (by simp)] at hq
 obtain ⟨cl, hcv, hix, hlen, -⟩ := conflict_circle hG hag
 rw [hcv] at HCI hq
 have hre := records_index hG hix
 have HLE := hidE (show cl.length ≤ 4000 by omega)
 have HRE2 := hidE (fun W a2 c2 (hb : Below w1.heap.size w1 W) (hc : IntsAt W a2 cl) => by
  have t := HRE.out W cl a2 c2 hb HLE.out hc
  rw [hre] at t
  exact t)
 obtain ⟨RS, hRS⟩ : ∃ r, recordsP (cl.map (bAt (sysL F l))) = r := ⟨_, rfl⟩
 rw [show recordsP (List.map (bAt (sysL F l)) (cl, true, (0 : Int)).1) = RS from hRS] at hq
 rw [hRS] at HRE2
 cases hq
 obtain ⟨P, hP⟩ : ∃ P : Int, ((ptN F : Nat) : Int) = P := ⟨_, rfl⟩
 rw [hP] at kx HCI HRE2
 have HPE := hidE hP
 obtain ⟨LN, hLN⟩ : ∃ n, (sysL F l).length = n := ⟨_, rfl⟩
 rw [hLN] at kx HCI HRE2
 have HLN := hidE hLN
 clear hP hLN hcv hag hG HG HCF HRE hbl HN pl hre hix hlen hRS hw
 go_wp2_with fail
 refine HCI.out.mono ?_
 rintro e w2 ⟨⟨v, rfl, ho⟩, hb2⟩
 obtain ⟨a2, c2, rfl, hin⟩ := owns_intsAt ho
 have B2 := hidE (B1.out.trans (hb2.mono B1.out.size))
 have HR2 := hidE (HRE2.out w2 a2 c2 hb2 hin)
 have ky := HKX.out _ hb2
 unfold WV.arr at ky
 rw [HPE.out, HLN.out] at ky
 obtain ⟨M, hM⟩ : ∃ n, cl.length = n := ⟨_, rfl⟩
 have hM2 : List.length (cl, true, (0 : Int)).1 = M := hM
 rw [hM] at HR2
 rw [hM2]
 clear hb2 kx ho hin HRE2 HKX HCI hM hM2 HLE
 go_wp2_with fail
 refine HR2.out.mono ?_
 rintro e w3 ⟨⟨v, rfl, ho⟩, hb3⟩
 have B3 := hidE (B2.out.trans (hb3.mono B2.out.size))
 have HO := hidE (ownsRow_base ho B2.out.size)
 clear hb3 ky ho HR2
 go_wp2_with fail
 refine bodyPost_ret (v := .tuple #[v, .bool true, .int .i64 0]) (by simp [results, Tryz.results29, go_sem]) rfl ⟨⟨_, rfl, HO.out⟩, B3.out⟩
theorem anything_any (W : World) (v : Value) : Calls Tryz.prog 95 #[v] W fun e w' => e = .returned (.bool true) ∧ Below W.heap.size W w' := by
 go_enter Tryz.func95, Tryz.ntmps95
 go_wp2_with fail
 go_ret
 exact ⟨rfl, Below.refl _ _⟩
end Go.Proofs.YtkhemfnlflbniaaGreatDoor
