/- What the law AreaFair needs beyond the base: Sc, Ar3, Lf. No conditions beyond those stated. -/
import Derived.Test.YthjmkmjojlfejaaGreatB07
import Derived.Test.YthjmkmjojlfejaaGreatB06
import Derived.Test.YthjmkmjojlfejaaGreatB05
import Derived.Test.YthjmkmjojlfejaaGreatB04
import Derived.Test.YthjmkmjojlfejaaGreatB03
import Derived.Test.YthjmkmjojlfejaaGreatB02
import Derived.Test.YthjmkmjojlfejaaGreatB01
import Derived.Shelf.Small.Bits
import Derived.Shelf.Small.Wraps
import Derived.Shelf.Strconv.Itoa0
import Derived.Shelf.Sort.Plain
import Derived.Shelf.Slices.Turned
import Derived.Ground.Names2Prog
import Derived.Shelf.Slices.CompactI
import Derived.Shelf.Slices.SearchI
import Derived.Shelf.Slices.Cells
import Derived.Shelf.Slices.In.SortNone
import Derived.Test.YthjmkmjojlfejaaGreatProg
import Derived.WalkKit
import Derived.Handy
import Derived.RangeFuncRecord
import Derived.Shelf.Abstract
import Derived.Deep.QuietTactic
import Derived.BigQuiet
import Derived.Laws.CopyOwn
import Derived.WalkSmall
import Derived.RangeFuncNested
import Derived.RangeFuncBound
import Derived.RangeFuncCalls
import Derived.RangeFuncLeaves
import Derived.Shelf.RegionOpen
import Derived.OwnWalkIn
import Derived.TacticsInMore
import Derived.LoopNIn
import Derived.LoopIn
import Derived.Maps.AppendAt
import Derived.Deep.Onto
import Derived.OrdersHeld
import Derived.Deep.LoopGhost
import Derived.Deep.WholeRow
import Derived.Deep.OwnRows
import Derived.StillTailTactics
import Derived.Great.Walk
import Derived.Great.BuildSlice
import Derived.WalkMore
import Derived.Deep.MidRow
import Derived.Deep.RegionHeld3
import Derived.Deep.DeepCutAuto
import Derived.Lib.OwnBridge
import Derived.Lib.SliceRun
import Derived.WalkSpells
import Derived.Deep.RegionWith
import Derived.Lib.AppendZerosOnto
import Derived.Deep.CutBlock
import Derived.IntWalk
import Derived.Test.YthjmkmjojlfejaaGreatB13
import Derived.Test.YthjmkmjojlfejaaGreatB09

namespace Go.Proofs.YthjmkmjojlfejaaGreat
open Go Go.RowKit Go.Shelf
/-- A share that is a whole off. -/
def offB (W total x p : Int) : Bool := decide (0 < W) && decide (W ≤ max (x * W - total * p) (-(x * W - total * p)))
def checkShE (total : Int) (parts l : List Int) : Bool × Int :=
  if checkSharesP total parts ≠ 0 then (false, checkSharesP total parts) else if l.length ≠ parts.length ∨ (l.all fun v => inR v 0 total) = false ∨ isum l ≠ total then (false, 0)
  else (!((List.range l.length).any fun i => offB (isum parts) total (l.getD i 0) (parts.getD i 0)), 0)
theorem checkSh1_any (w : World) (A : Nat) (total v : Int) (h : w.cell? ⟨A, 0, none⟩ = some (.int .i64 total)) : Calls Tryz.prog 114 #[.int .i64 v, .pointer (some ⟨A, 0, none⟩)] w fun e w' => e = .returned (.bool (inR v 0 total)) ∧ w = w' := by
  go_enter Tryz.func114, Tryz.ntmps114
  go_wp2_with (go_at_call 86; refine (in_any _ _ _ _).mono ?_; rintro e w' ⟨rfl, rfl⟩)
  go_ret
  exact ⟨rfl, rfl⟩
set_option maxRecDepth 100000 in
set_option maxHeartbeats 16000000 in
theorem checkShE_any (w : World) (total : Int) (a : Option Addr) (cap : Nat) (parts : List Int) (a2 : Option Addr) (cap2 : Nat) (l : List Int) (hl : parts.length ≤ 9223372036854775807) (hl2 : l.length ≤ 9223372036854775807) (h : IntsAt w a parts) (h2 : IntsAt w a2 l) :
    Calls Tryz.prog 43 #[.int .i64 total, .slice a parts.length cap, .slice a2 l.length cap2] w fun e w' => e = .returned (.tuple #[.bool (checkShE total parts l).1, .int .i64 (checkShE total parts l).2]) ∧ Below w.heap.size w w' := by
  obtain ⟨W0, hW0⟩ : ∃ W, W = w.alloc (.cells #[.int .i64 total] 3) := ⟨_, rfl⟩
  have B0 := hidE (show Below w.heap.size w W0 by rw [hW0]; exact (Below.refl _ _).alloc (Nat.le_refl _) _)
  have X0 := hidE (show W0.heap[w.heap.size]? = some (.cells #[.int .i64 total] 3 (0,0)) by rw [hW0]; exact heap_alloc_new w _)
  have hch := checkShares_any W0 total a cap parts hl (by rw [hW0]; exact h.alloc _)
  obtain ⟨P1, hP1⟩ : ∃ z, (checkShE total parts l).1 = z := ⟨_, rfl⟩
  obtain ⟨P2, hP2⟩ : ∃ z, (checkShE total parts l).2 = z := ⟨_, rfl⟩
  rw [hP1, hP2]
  have H := hidE h
  have H2 := hidE h2
  obtain ⟨A, hA⟩ : ∃ A, w.heap.size = A := ⟨_, rfl⟩
  have HA := hidE hA
  rw [hA] at B0 X0
  have l0 := lt_of_block X0.out
  clear h h2
  by_cases hz : checkSharesP total parts = 0
  · obtain ⟨z1, z2, z3, z4⟩ := checkShares_ok hz
    rw [hz] at hch
    have HCH := hidE hch
    have HZ := hidE hz
    clear hch hz
    have HALL := hidE (fun (W : World) (hb : Below A w W) (h0 : W.cell? ⟨A, 0, none⟩ = some (.int .i64 total)) (hs : A < W.heap.size) => all_any W a2 cap2 l 114 #[.pointer (some ⟨A, 0, none⟩)] (fun v => inR v 0 total) hl2 (H2.out.below hb (by rw [HA.out]; exact Nat.le_refl _)) (fun k hk V hV => (checkSh1_any V A total l[k] ((hV.cell (p := ⟨A, 0, none⟩) hs).trans h0)).mono fun _ _ ⟨he, hw⟩ => ⟨he, hw ▸ Below.refl _ _⟩) (enters_of Tryz.func114 (by kernel_rfl) rfl))
    have HSP := hidE (fun (W : World) (hb : Below A w W) => sum_any W a cap parts (by omega) (H.out.below hb (by rw [HA.out]; exact Nat.le_refl _)) (fun k hk => by
      have := isum_take_bd (by decide) z3 k
      omega))
    by_cases hlen : l.length = parts.length
    · cases hal : (l.all fun v => inR v 0 total) with
      | false =>
        unfold checkShE at hP1 hP2
        rw [if_neg (by rw [HZ.out]; simp), if_pos (.inr (.inl hal))] at hP1 hP2
        obtain rfl : false = P1 := hP1
        obtain rfl : (0 : Int) = P2 := hP2
        rw [hal] at HALL
        obtain ⟨L, hL⟩ : ∃ L, l.length = L := ⟨_, rfl⟩
        obtain ⟨n, hn⟩ : ∃ n, parts.length = n := ⟨_, rfl⟩
        rw [hn] at hlen HCH
        rw [hL] at hlen HALL
        have hne : ((L : Int) != (n : Int)) = false := by simp [hlen]
        rw [hL, hn]
        clear hlen hL hn hal z1 z2 z3 z4 HSP H H2
        go_enter Tryz.func43, Tryz.ntmps43
        go_upto_region 1 with fail
        rw [← hW0]
        clear hW0
        have c0 : W0.cell? ⟨A, 0, none⟩ = some (.int .i64 total) := by rw [cell_of_row _ _ _ _ _ _ X0.out]; rfl
        go_wp2_with fail
        refine HCH.out.mono ?_
        rintro e w1 ⟨rfl, hb1⟩
        have B1 := hidE (B0.out.trans (hb1.mono (show A ≤ W0.heap.size by omega)))
        have X1 := hidE (blk_below hb1 l0 X0.out)
        have l1 := lt_of_block X1.out
        have c1 : w1.cell? ⟨A, 0, none⟩ = some (.int .i64 total) := by rw [cell_of_row _ _ _ _ _ _ X1.out]; rfl
        clear hb1 l0 c0
        go_upto_region 4 with fail
        have hS0 : w1.drew.cell? ⟨A, 0, none⟩ = some (.int .i64 total) := c1
        refine wp_region_F (S := fun V => V.cell? ⟨A, 0, none⟩ = some (.int .i64 total)) (last := 100) (by kernel_rfl) ?_
        refine wpAnyN_takeD (i := 0) (d := 19) (v := .slice a2 L cap2) (by decide) rfl rfl (by kernel_rfl) (by kernel_rfl) (by kernel_rfl) (fun _ _ _ h => h) (.inl ⟨rfl, fun V hV => ?_⟩) hS0 ?_
        · simp [go_sem, execOp]
        try simp only [List.setIfInBounds_toArray, List.set_cons_succ, List.set_cons_zero]
        refine wpAnyN_takeD (i := 1) (d := 20) (v := .int .i64 (L : Int)) (by decide) rfl rfl (by kernel_rfl) (by kernel_rfl) (by kernel_rfl) (fun _ _ _ h => h) (.inl ⟨rfl, fun V hV => ?_⟩) hS0 ?_
        · simp [go_sem, execOp]
        try simp only [List.setIfInBounds_toArray, List.set_cons_succ, List.set_cons_zero]
        refine wpAnyN_takeD (i := 2) (d := 21) (v := .slice a n cap) (by decide) rfl rfl (by kernel_rfl) (by kernel_rfl) (by kernel_rfl) (fun _ _ _ h => h) (.inl ⟨rfl, fun V hV => ?_⟩) hS0 ?_
        · simp [go_sem, execOp]
        try simp only [List.setIfInBounds_toArray, List.set_cons_succ, List.set_cons_zero]
        refine wpAnyN_takeD (i := 3) (d := 22) (v := .int .i64 (n : Int)) (by decide) rfl rfl (by kernel_rfl) (by kernel_rfl) (by kernel_rfl) (fun _ _ _ h => h) (.inl ⟨rfl, fun V hV => ?_⟩) hS0 ?_
        · simp [go_sem, execOp]
        try simp only [List.setIfInBounds_toArray, List.set_cons_succ, List.set_cons_zero]
        refine wpAnyN_takeD (i := 4) (d := 23) (v := .bool false) (by decide) rfl rfl (by kernel_rfl) (by kernel_rfl) (by kernel_rfl) (fun _ _ _ h => h) (.inl ⟨rfl, fun V hV => ?_⟩) hS0 ?_
        · simp [go_sem, execOp, hne]
        try simp only [List.setIfInBounds_toArray, List.set_cons_succ, List.set_cons_zero]
        refine wpAnyN_takeD (i := 5) (d := 24) (v := .bool false) (by decide) rfl rfl (by kernel_rfl) (by kernel_rfl) (by kernel_rfl) (fun _ _ _ h => h) (.inl ⟨rfl, fun V hV => ?_⟩) hS0 ?_
        · simp [go_sem, execOp]
        try simp only [List.setIfInBounds_toArray, List.set_cons_succ, List.set_cons_zero]
        refine wpAnyN_takeD (i := 6) (d := 25) (v := .slice a2 L cap2) (by decide) rfl rfl (by kernel_rfl) (by kernel_rfl) (by kernel_rfl) (fun _ _ _ h => h) (.inl ⟨rfl, fun V hV => ?_⟩) hS0 ?_
        · simp [go_sem, execOp]
        try simp only [List.setIfInBounds_toArray, List.set_cons_succ, List.set_cons_zero]
        refine wpAnyN_takeD (i := 7) (d := 26) (v := .func (.func 114) #[] #[.pointer (some ⟨A, 0, none⟩)]) (by decide) rfl rfl (by kernel_rfl) (by kernel_rfl) (by kernel_rfl) (fun _ _ _ h => h) (.inl ⟨rfl, fun V hV => ?_⟩) hS0 ?_
        · simp [go_sem, execOp]
        try simp only [List.setIfInBounds_toArray, List.set_cons_succ, List.set_cons_zero]
        refine wpAnyF_step 8 rfl (by kernel_rfl) (fun K hK => ?_)
        go_simp
        go_at_call 84
        refine (HALL.out _ (B1.out.drew) hS0 l1).mono ?_
        rintro e w2 ⟨rfl, hb2⟩
        have hS1 : w2.cell? ⟨A, 0, none⟩ = some (.int .i64 total) := (hb2.cell (p := ⟨A, 0, none⟩) l1).trans hS0
        have B2 := hidE (B1.out.drew.trans (hb2.mono (show A ≤ w1.heap.size by omega)))
        have l2 : A < w2.heap.size := Nat.lt_of_lt_of_le l1 hb2.size
        clear hb2
        go_wp2_with fail
        refine hK.out _ _ (.inr hS1) ?_
        clear hK K
        try simp only [Act.put, List.setIfInBounds_toArray, List.set_cons_succ, List.set_cons_zero]
        refine wpAnyN_takeD (i := 9) (d := 28) (v := .bool true) (by decide) rfl rfl (by kernel_rfl) (by kernel_rfl) (by kernel_rfl) (fun _ _ _ h => h) (.inl ⟨rfl, fun V hV => ?_⟩) hS1 ?_
        · simp [go_sem, execOp]
        try simp only [List.setIfInBounds_toArray, List.set_cons_succ, List.set_cons_zero]
        refine wpAnyN_takeD (i := 10) (d := 29) (v := .bool true) (by decide) rfl rfl (by kernel_rfl) (by kernel_rfl) (by kernel_rfl) (fun _ _ _ h => h) (.inl ⟨rfl, fun V hV => ?_⟩) hS1 ?_
        · simp [go_sem, execOp]
        try simp only [List.setIfInBounds_toArray, List.set_cons_succ, List.set_cons_zero]
        refine wpAnyN_takeD (i := 11) (d := 30) (v := .bool true) (by decide) rfl rfl (by kernel_rfl) (by kernel_rfl) (by kernel_rfl) (fun _ _ _ h => h) (.inl ⟨rfl, fun V hV => ?_⟩) hS1 ?_
        · simp [go_sem, execOp]
        try simp only [List.setIfInBounds_toArray, List.set_cons_succ, List.set_cons_zero]
        refine wpAnyN_takeD (i := 12) (d := 31) (v := undef) (by decide) rfl rfl (by kernel_rfl) (by kernel_rfl) (by kernel_rfl) (fun _ _ _ h => h) (.inr ⟨by kernel_rfl, rfl⟩) hS1 ?_
        try simp only [List.setIfInBounds_toArray, List.set_cons_succ, List.set_cons_zero]
        refine wpAnyN_takeD (i := 13) (d := 32) (v := undef) (by decide) rfl rfl (by kernel_rfl) (by kernel_rfl) (by kernel_rfl) (fun _ _ _ h => h) (.inr ⟨by kernel_rfl, rfl⟩) hS1 ?_
        try simp only [List.setIfInBounds_toArray, List.set_cons_succ, List.set_cons_zero]
        refine wpAnyN_takeD (i := 14) (d := 33) (v := undef) (by decide) rfl rfl (by kernel_rfl) (by kernel_rfl) (by kernel_rfl) (fun _ _ _ h => h) (.inr ⟨by kernel_rfl, rfl⟩) hS1 ?_
        try simp only [List.setIfInBounds_toArray, List.set_cons_succ, List.set_cons_zero]
        refine wpAnyN_takeD (i := 15) (d := 34) (v := undef) (by decide) rfl rfl (by kernel_rfl) (by kernel_rfl) (by kernel_rfl) (fun _ _ _ h => h) (.inr ⟨by kernel_rfl, rfl⟩) hS1 ?_
        try simp only [List.setIfInBounds_toArray, List.set_cons_succ, List.set_cons_zero]
        refine wpAnyN_takeD (i := 16) (d := 35) (v := .bool true) (by decide) rfl rfl (by kernel_rfl) (by kernel_rfl) (by kernel_rfl) (fun _ _ _ h => h) (.inl ⟨rfl, fun V hV => ?_⟩) hS1 ?_
        · simp [go_sem, execOp]
        try simp only [List.setIfInBounds_toArray, List.set_cons_succ, List.set_cons_zero]
        refine wpAnyF_done (by kernel_rfl) ?_ _
        clear hS0
        go_wp2_with fail
        go_ret2
        exact ⟨rfl, by rw [HA.out]; exact B2.out⟩
      | true =>
        have hxs : ∀ v ∈ l, 0 ≤ v ∧ v ≤ total := by
          intro v hv
          have := List.all_eq_true.1 hal v hv
          unfold inR at this
          simpa using this
        have HXS := hidE hxs
        have HSM := hidE (fun (W : World) (hb : Below A w W) => sum_any W a2 cap2 l (by omega) (H2.out.below hb (by rw [HA.out]; exact Nat.le_refl _)) (fun k hk => by
          have h1 := isum_take_bd (by decide) (fun v hv => ⟨(hxs v hv).1, Int.le_trans (hxs v hv).2 z2.2⟩) k
          omega))
        by_cases hsm : isum l = total
        · unfold checkShE at hP1 hP2
          rw [if_neg (by rw [HZ.out]; simp), if_neg (by rw [hal]; simp [hlen, hsm])] at hP1 hP2
          obtain rfl : (0 : Int) = P2 := hP2
          rw [hal] at HALL
          rw [hsm] at HSM
          have hsn : (total != total) = false := by simp
          obtain ⟨W, hW⟩ : ∃ W, isum parts = W := ⟨_, rfl⟩
          have hWb : 0 ≤ W ∧ W ≤ 50000000 := by
            have := isum_take_bd (by decide) z3 parts.length
            rw [List.take_length] at this
            omega
          rw [hW] at HSP hP1
          have HPS := hidE (fun x hx => z3 x hx)
          have HLL := hidE (show l.length = parts.length from hlen)
          have HP1 := hidE hP1
          obtain ⟨L, hL⟩ : ∃ L, l.length = L := ⟨_, rfl⟩
          obtain ⟨n, hn⟩ : ∃ n, parts.length = n := ⟨_, rfl⟩
          rw [hn] at hlen HCH HSP z1
          rw [hL] at hlen HALL HSM
          have HLE := hidE hL
          have HNE := hidE hn
          have hne : ((L : Int) != (n : Int)) = false := by simp [hlen]
          rw [hL, hn]
          subst hlen
          clear hL hn hal z3 z4 hxs hW hsm hP1 HLL
          go_enter Tryz.func43, Tryz.ntmps43
          go_upto_region 1 with fail
          rw [← hW0]
          clear hW0
          have c0 : W0.cell? ⟨A, 0, none⟩ = some (.int .i64 total) := by rw [cell_of_row _ _ _ _ _ _ X0.out]; rfl
          go_wp2_with fail
          refine HCH.out.mono ?_
          rintro e w1 ⟨rfl, hb1⟩
          have B1 := hidE (B0.out.trans (hb1.mono (show A ≤ W0.heap.size by omega)))
          have X1 := hidE (blk_below hb1 l0 X0.out)
          have l1 := lt_of_block X1.out
          have c1 : w1.cell? ⟨A, 0, none⟩ = some (.int .i64 total) := by rw [cell_of_row _ _ _ _ _ _ X1.out]; rfl
          clear hb1 l0 c0
          go_upto_region 4 with fail
          have hS0 : w1.drew.cell? ⟨A, 0, none⟩ = some (.int .i64 total) := c1
          refine wp_region_F (S := fun V => V.cell? ⟨A, 0, none⟩ = some (.int .i64 total)) (last := 100) (by kernel_rfl) ?_
          refine wpAnyN_takeD (i := 0) (d := 19) (v := .slice a2 L cap2) (by decide) rfl rfl (by kernel_rfl) (by kernel_rfl) (by kernel_rfl) (fun _ _ _ h => h) (.inl ⟨rfl, fun V hV => ?_⟩) hS0 ?_
          · simp [go_sem, execOp]
          try simp only [List.setIfInBounds_toArray, List.set_cons_succ, List.set_cons_zero]
          refine wpAnyN_takeD (i := 1) (d := 20) (v := .int .i64 (L : Int)) (by decide) rfl rfl (by kernel_rfl) (by kernel_rfl) (by kernel_rfl) (fun _ _ _ h => h) (.inl ⟨rfl, fun V hV => ?_⟩) hS0 ?_
          · simp [go_sem, execOp]
          try simp only [List.setIfInBounds_toArray, List.set_cons_succ, List.set_cons_zero]
          refine wpAnyN_takeD (i := 2) (d := 21) (v := .slice a L cap) (by decide) rfl rfl (by kernel_rfl) (by kernel_rfl) (by kernel_rfl) (fun _ _ _ h => h) (.inl ⟨rfl, fun V hV => ?_⟩) hS0 ?_
          · simp [go_sem, execOp]
          try simp only [List.setIfInBounds_toArray, List.set_cons_succ, List.set_cons_zero]
          refine wpAnyN_takeD (i := 3) (d := 22) (v := .int .i64 (L : Int)) (by decide) rfl rfl (by kernel_rfl) (by kernel_rfl) (by kernel_rfl) (fun _ _ _ h => h) (.inl ⟨rfl, fun V hV => ?_⟩) hS0 ?_
          · simp [go_sem, execOp]
          try simp only [List.setIfInBounds_toArray, List.set_cons_succ, List.set_cons_zero]
          refine wpAnyN_takeD (i := 4) (d := 23) (v := .bool false) (by decide) rfl rfl (by kernel_rfl) (by kernel_rfl) (by kernel_rfl) (fun _ _ _ h => h) (.inl ⟨rfl, fun V hV => ?_⟩) hS0 ?_
          · simp [go_sem, execOp]
          try simp only [List.setIfInBounds_toArray, List.set_cons_succ, List.set_cons_zero]
          refine wpAnyN_takeD (i := 5) (d := 24) (v := .bool false) (by decide) rfl rfl (by kernel_rfl) (by kernel_rfl) (by kernel_rfl) (fun _ _ _ h => h) (.inl ⟨rfl, fun V hV => ?_⟩) hS0 ?_
          · simp [go_sem, execOp]
          try simp only [List.setIfInBounds_toArray, List.set_cons_succ, List.set_cons_zero]
          refine wpAnyN_takeD (i := 6) (d := 25) (v := .slice a2 L cap2) (by decide) rfl rfl (by kernel_rfl) (by kernel_rfl) (by kernel_rfl) (fun _ _ _ h => h) (.inl ⟨rfl, fun V hV => ?_⟩) hS0 ?_
          · simp [go_sem, execOp]
          try simp only [List.setIfInBounds_toArray, List.set_cons_succ, List.set_cons_zero]
          refine wpAnyN_takeD (i := 7) (d := 26) (v := .func (.func 114) #[] #[.pointer (some ⟨A, 0, none⟩)]) (by decide) rfl rfl (by kernel_rfl) (by kernel_rfl) (by kernel_rfl) (fun _ _ _ h => h) (.inl ⟨rfl, fun V hV => ?_⟩) hS0 ?_
          · simp [go_sem, execOp]
          try simp only [List.setIfInBounds_toArray, List.set_cons_succ, List.set_cons_zero]
          refine wpAnyF_step 8 rfl (by kernel_rfl) (fun K hK => ?_)
          go_simp
          go_at_call 84
          refine (HALL.out _ (B1.out.drew) hS0 l1).mono ?_
          rintro e w2 ⟨rfl, hb2⟩
          have hS1 : w2.cell? ⟨A, 0, none⟩ = some (.int .i64 total) := (hb2.cell (p := ⟨A, 0, none⟩) l1).trans hS0
          have B2 := hidE (B1.out.drew.trans (hb2.mono (show A ≤ w1.heap.size by omega)))
          have l2 : A < w2.heap.size := Nat.lt_of_lt_of_le l1 hb2.size
          clear hb2
          go_wp2_with fail
          refine hK.out _ _ (.inr hS1) ?_
          clear hK K
          try simp only [Act.put, List.setIfInBounds_toArray, List.set_cons_succ, List.set_cons_zero]
          refine wpAnyN_takeD (i := 9) (d := 28) (v := .bool false) (by decide) rfl rfl (by kernel_rfl) (by kernel_rfl) (by kernel_rfl) (fun _ _ _ h => h) (.inl ⟨rfl, fun V hV => ?_⟩) hS1 ?_
          · simp [go_sem, execOp]
          try simp only [List.setIfInBounds_toArray, List.set_cons_succ, List.set_cons_zero]
          refine wpAnyN_takeD (i := 10) (d := 29) (v := .bool false) (by decide) rfl rfl (by kernel_rfl) (by kernel_rfl) (by kernel_rfl) (fun _ _ _ h => h) (.inl ⟨rfl, fun V hV => ?_⟩) hS1 ?_
          · simp [go_sem, execOp]
          try simp only [List.setIfInBounds_toArray, List.set_cons_succ, List.set_cons_zero]
          refine wpAnyN_takeD (i := 11) (d := 30) (v := .bool false) (by decide) rfl rfl (by kernel_rfl) (by kernel_rfl) (by kernel_rfl) (fun _ _ _ h => h) (.inl ⟨rfl, fun V hV => ?_⟩) hS1 ?_
          · simp [go_sem, execOp]
          try simp only [List.setIfInBounds_toArray, List.set_cons_succ, List.set_cons_zero]
          refine wpAnyN_takeD (i := 12) (d := 31) (v := .slice a2 L cap2) (by decide) rfl rfl (by kernel_rfl) (by kernel_rfl) (by kernel_rfl) (fun _ _ _ h => h) (.inl ⟨rfl, fun V hV => ?_⟩) hS1 ?_
          · simp [go_sem, execOp]
          try simp only [List.setIfInBounds_toArray, List.set_cons_succ, List.set_cons_zero]
          refine wpAnyN_takeD (i := 14) (d := 33) (v := .int .i64 total) (by decide) rfl rfl (by kernel_rfl) (by kernel_rfl) (by kernel_rfl) (fun _ _ _ h => h) (.inl ⟨rfl, fun V hV => ?_⟩) hS1 ?_
          · simp [go_sem, execOp, hV]
          try simp only [List.setIfInBounds_toArray, List.set_cons_succ, List.set_cons_zero]
          refine wpAnyF_step 13 rfl (by kernel_rfl) (fun K hK => ?_)
          go_simp
          go_at_call 88
          refine (HSM.out _ B2.out).mono ?_
          rintro e w3 ⟨rfl, rfl⟩
          go_wp2_with fail
          refine hK.out _ _ (.inr hS1) ?_
          clear hK K
          try simp only [Act.put, List.setIfInBounds_toArray, List.set_cons_succ, List.set_cons_zero]
          refine wpAnyN_takeD (i := 15) (d := 34) (v := .bool false) (by decide) rfl rfl (by kernel_rfl) (by kernel_rfl) (by kernel_rfl) (fun _ _ _ h => h) (.inl ⟨rfl, fun V hV => ?_⟩) hS1 ?_
          · simp [go_sem, execOp]
          try simp only [List.setIfInBounds_toArray, List.set_cons_succ, List.set_cons_zero]
          refine wpAnyN_takeD (i := 16) (d := 35) (v := .bool false) (by decide) rfl rfl (by kernel_rfl) (by kernel_rfl) (by kernel_rfl) (fun _ _ _ h => h) (.inl ⟨rfl, fun V hV => ?_⟩) hS1 ?_
          · simp [go_sem, execOp]
          try simp only [List.setIfInBounds_toArray, List.set_cons_succ, List.set_cons_zero]
          refine wpAnyF_done (by kernel_rfl) ?_ _
          clear hS0
          obtain ⟨wA, rfl⟩ : ∃ W : World, W = w3 := ⟨w3, rfl⟩
          have HSPC := hidE (HSP.out wA B2.out)
          have HI1 := hidE (H.out.below B2.out (by rw [HA.out]; exact Nat.le_refl _))
          have HI2 := hidE (H2.out.below B2.out (by rw [HA.out]; exact Nat.le_refl _))
          have hc0 := hS1
          clear HSP H H2 HSM HALL HCH hS1 c1 X1 B1 l1
          go_wp2_with fail
          refine HSPC.out.mono ?_
          rintro e w4 ⟨rfl, rfl⟩
          clear HSPC
          go_wp2_with fail
          go_loopw [40] (fun i wr => ∃ k : Nat, k ≤ L ∧ i = .int .i64 k ∧ Hid (∀ j, j < k → offB W total (l.getD j 0) (parts.getD j 0) = false) ∧ Hid (OnlyG w4.heap.size w4 wr)) (fun i _ => L - (intOf i).toNat)
          case atStart => exact ⟨0, Nat.zero_le _, rfl, hidE (fun j h => by omega), hidE (OnlyG.refl _ _)⟩
          case round =>
            obtain ⟨k, hk, rfl, HF, HD⟩ := hrel
            obtain ⟨wx, rfl⟩ : ∃ W : World, W = wr := ⟨wr, rfl⟩
            by_cases hlt : k < L
            · obtain ⟨b1, o1, rfl, hb1, hc1⟩ := HI1.out.at (show k < parts.length by rw [HNE.out]; exact hlt)
              obtain ⟨b2, o2, rfl, hb2, hc2⟩ := HI2.out.at (show k < l.length by rw [HLE.out]; exact hlt)
              have hx := HXS.out _ (List.getElem_mem (show k < l.length by rw [HLE.out]; exact hlt))
              have hp := HPS.out _ (List.getElem_mem (show k < parts.length by rw [HNE.out]; exact hlt))
              have hox : offB W total (l.getD k 0) (parts.getD k 0) = (decide (0 < W) && decide (W ≤ max ((l[k]'(by rw [HLE.out]; exact hlt)) * W - total * (parts[k]'(by rw [HNE.out]; exact hlt))) (-((l[k]'(by rw [HLE.out]; exact hlt)) * W - total * (parts[k]'(by rw [HNE.out]; exact hlt)))))) := by rw [getD_get l 0 (show k < l.length by rw [HLE.out]; exact hlt), getD_get parts 0 (show k < parts.length by rw [HNE.out]; exact hlt)]; rfl
              obtain ⟨x, hxe⟩ : ∃ x, l[k]'(by rw [HLE.out]; exact hlt) = x := ⟨_, rfl⟩
              obtain ⟨p, hpe⟩ : ∃ p, parts[k]'(by rw [HNE.out]; exact hlt) = p := ⟨_, rfl⟩
              rw [hxe] at hc2 hx hox
              rw [hpe] at hc1 hp hox
              clear hxe hpe
              have q1 : wx.cell? ⟨b1, o1 + k, none⟩ = some (.int .i64 p) := (HD.out.cell (p := ⟨b1, o1 + k, none⟩) (Nat.ne_of_lt hb1)).trans hc1
              have q2 : wx.cell? ⟨b2, o2 + k, none⟩ = some (.int .i64 x) := (HD.out.cell (p := ⟨b2, o2 + k, none⟩) (Nat.ne_of_lt hb2)).trans hc2
              have q0 : wx.cell? ⟨A, 0, none⟩ = some (.int .i64 total) := (HD.out.cell (p := ⟨A, 0, none⟩) (Nat.ne_of_lt l2)).trans hc0
              have u1 : 0 ≤ x * W := Int.mul_nonneg hx.1 hWb.1
              have u2 : x * W ≤ 5000000000000000000 := Int.le_trans (Int.mul_le_mul (Int.le_trans hx.2 z2.2) hWb.2 hWb.1 (by decide)) (by decide)
              have v1 : 0 ≤ total * p := Int.mul_nonneg z2.1 hp.1
              have v2 : total * p ≤ 100000000000000000 := Int.le_trans (Int.mul_le_mul z2.2 hp.2 hp.1 (by decide)) (by decide)
              obtain ⟨m1, hm1⟩ : ∃ m, x * W = m := ⟨_, rfl⟩
              obtain ⟨m2, hm2⟩ : ∃ m, total * p = m := ⟨_, rfl⟩
              rw [hm1] at u1 u2 hox
              rw [hm2] at v1 v2 hox
              have hwm1 : IntKind.i64.wrap m1 = m1 := IntWalk.i64_in _ (by omega)
              have hwm2 : IntKind.i64.wrap m2 = m2 := IntWalk.i64_in _ (by omega)
              obtain ⟨D, hD⟩ : ∃ D, m1 - m2 = D := ⟨_, rfl⟩
              have hwD : IntKind.i64.wrap D = D := IntWalk.i64_in _ (by omega)
              have hwD2 : IntKind.i64.wrap (-D) = -D := IntWalk.i64_in _ (by omega)
              rw [hD] at hox
              obtain ⟨M, hM⟩ : ∃ M, max D (-D) = M := ⟨_, rfl⟩
              rw [hM] at hox
              have HOX := hidE hox
              clear hox
              by_cases hw0 : 0 < W
              · have hd0 : decide (W > 0) = true := by simp; omega
                have hd0' : decide (0 < W) = true := by simp; omega
                by_cases hbig : W ≤ M
                · have hd1 : decide (M ≥ W) = true := by simp; omega
                  have hd1' : decide (W ≤ M) = true := by simp; omega
                  have HAN := hidE (show (!((List.range L).any fun i => offB W total (l.getD i 0) (parts.getD i 0))) = false by
                    rw [Bool.not_eq_false', List.any_eq_true]
                    exact ⟨k, List.mem_range.2 hlt, by rw [HOX.out, hd0', hd1']; rfl⟩)
                  go_upto_region 10 with fail
                  go_quiet (fail)
                  go_wp2_with fail
                  go_ret2
                  exact ⟨by have := HP1.out; rw [HLE.out] at this; rw [HAN.out] at this; rw [← this]; rfl, by rw [HA.out]; exact B2.out.trans ((HD.out.trans (OnlyG.drewN _ _)).bl.mono (Nat.le_of_lt l2))⟩
                · have hd1 : decide (M ≥ W) = false := by simp; omega
                  have hd1' : decide (W ≤ M) = false := by simp; omega
                  have HF2 := hidE (fun j (hj : j < k + 1) => show offB W total (l.getD j 0) (parts.getD j 0) = false by
                    by_cases hjk : j < k
                    · exact HF.out j hjk
                    · obtain rfl : j = k := by omega
                      rw [HOX.out, hd1', Bool.and_false])
                  go_upto_region 10 with fail
                  go_quiet (fail)
                  go_wp2_with fail
                  go_roundw
                  case rel => exact ⟨k + 1, by omega, by go_num, HF2, hidE (HD.out.trans (OnlyG.drewN _ _))⟩
                  case measure => simp [intOf]; omega
              · have hd0 : decide (W > 0) = false := by simp; omega
                have hd0' : decide (0 < W) = false := by simp; omega
                have HF2 := hidE (fun j (hj : j < k + 1) => show offB W total (l.getD j 0) (parts.getD j 0) = false by
                  by_cases hjk : j < k
                  · exact HF.out j hjk
                  · obtain rfl : j = k := by omega
                    rw [HOX.out, hd0', Bool.false_and])
                go_upto_region 10 with fail
                go_quiet (fail)
                go_wp2_with fail
                go_roundw
                case rel => exact ⟨k + 1, by omega, by go_num, HF2, hidE (HD.out.trans (OnlyG.drewN _ _))⟩
                case measure => simp [intOf]; omega
            · obtain rfl : k = L := by omega
              have HAN := hidE (show (!((List.range k).any fun i => offB W total (l.getD i 0) (parts.getD i 0))) = true by
                rw [Bool.not_eq_true', List.any_eq_false]
                intro j hj
                rw [HF.out j (List.mem_range.1 hj)]; decide)
              go_wp2_with fail
              go_ret2
              exact ⟨by have := HP1.out; rw [HLE.out] at this; rw [HAN.out] at this; rw [← this]; rfl, by rw [HA.out]; exact B2.out.trans (HD.out.bl.mono (Nat.le_of_lt l2))⟩
        · unfold checkShE at hP1 hP2
          rw [if_neg (by rw [HZ.out]; simp), if_pos (.inr (.inr hsm))] at hP1 hP2
          obtain rfl : false = P1 := hP1
          obtain rfl : (0 : Int) = P2 := hP2
          rw [hal] at HALL
          obtain ⟨sl, hsl⟩ : ∃ sl, isum l = sl := ⟨_, rfl⟩
          rw [hsl] at hsm HSM
          have hsn : (sl != total) = true := by simpa using hsm
          obtain ⟨L, hL⟩ : ∃ L, l.length = L := ⟨_, rfl⟩
          obtain ⟨n, hn⟩ : ∃ n, parts.length = n := ⟨_, rfl⟩
          rw [hn] at hlen HCH
          rw [hL] at hlen HALL HSM
          have hne : ((L : Int) != (n : Int)) = false := by simp [hlen]
          rw [hL, hn]
          clear hlen hL hn hal z1 z2 z3 z4 HSP H H2 hxs hsl hsm
          go_enter Tryz.func43, Tryz.ntmps43
          go_upto_region 1 with fail
          rw [← hW0]
          clear hW0
          have c0 : W0.cell? ⟨A, 0, none⟩ = some (.int .i64 total) := by rw [cell_of_row _ _ _ _ _ _ X0.out]; rfl
          go_wp2_with fail
          refine HCH.out.mono ?_
          rintro e w1 ⟨rfl, hb1⟩
          have B1 := hidE (B0.out.trans (hb1.mono (show A ≤ W0.heap.size by omega)))
          have X1 := hidE (blk_below hb1 l0 X0.out)
          have l1 := lt_of_block X1.out
          have c1 : w1.cell? ⟨A, 0, none⟩ = some (.int .i64 total) := by rw [cell_of_row _ _ _ _ _ _ X1.out]; rfl
          clear hb1 l0 c0
          go_upto_region 4 with fail
          have hS0 : w1.drew.cell? ⟨A, 0, none⟩ = some (.int .i64 total) := c1
          refine wp_region_F (S := fun V => V.cell? ⟨A, 0, none⟩ = some (.int .i64 total)) (last := 100) (by kernel_rfl) ?_
          refine wpAnyN_takeD (i := 0) (d := 19) (v := .slice a2 L cap2) (by decide) rfl rfl (by kernel_rfl) (by kernel_rfl) (by kernel_rfl) (fun _ _ _ h => h) (.inl ⟨rfl, fun V hV => ?_⟩) hS0 ?_
          · simp [go_sem, execOp]
          try simp only [List.setIfInBounds_toArray, List.set_cons_succ, List.set_cons_zero]
          refine wpAnyN_takeD (i := 1) (d := 20) (v := .int .i64 (L : Int)) (by decide) rfl rfl (by kernel_rfl) (by kernel_rfl) (by kernel_rfl) (fun _ _ _ h => h) (.inl ⟨rfl, fun V hV => ?_⟩) hS0 ?_
          · simp [go_sem, execOp]
          try simp only [List.setIfInBounds_toArray, List.set_cons_succ, List.set_cons_zero]
          refine wpAnyN_takeD (i := 2) (d := 21) (v := .slice a n cap) (by decide) rfl rfl (by kernel_rfl) (by kernel_rfl) (by kernel_rfl) (fun _ _ _ h => h) (.inl ⟨rfl, fun V hV => ?_⟩) hS0 ?_
          · simp [go_sem, execOp]
          try simp only [List.setIfInBounds_toArray, List.set_cons_succ, List.set_cons_zero]
          refine wpAnyN_takeD (i := 3) (d := 22) (v := .int .i64 (n : Int)) (by decide) rfl rfl (by kernel_rfl) (by kernel_rfl) (by kernel_rfl) (fun _ _ _ h => h) (.inl ⟨rfl, fun V hV => ?_⟩) hS0 ?_
          · simp [go_sem, execOp]
          try simp only [List.setIfInBounds_toArray, List.set_cons_succ, List.set_cons_zero]
          refine wpAnyN_takeD (i := 4) (d := 23) (v := .bool false) (by decide) rfl rfl (by kernel_rfl) (by kernel_rfl) (by kernel_rfl) (fun _ _ _ h => h) (.inl ⟨rfl, fun V hV => ?_⟩) hS0 ?_
          · simp [go_sem, execOp, hne]
          try simp only [List.setIfInBounds_toArray, List.set_cons_succ, List.set_cons_zero]
          refine wpAnyN_takeD (i := 5) (d := 24) (v := .bool false) (by decide) rfl rfl (by kernel_rfl) (by kernel_rfl) (by kernel_rfl) (fun _ _ _ h => h) (.inl ⟨rfl, fun V hV => ?_⟩) hS0 ?_
          · simp [go_sem, execOp]
          try simp only [List.setIfInBounds_toArray, List.set_cons_succ, List.set_cons_zero]
          refine wpAnyN_takeD (i := 6) (d := 25) (v := .slice a2 L cap2) (by decide) rfl rfl (by kernel_rfl) (by kernel_rfl) (by kernel_rfl) (fun _ _ _ h => h) (.inl ⟨rfl, fun V hV => ?_⟩) hS0 ?_
          · simp [go_sem, execOp]
          try simp only [List.setIfInBounds_toArray, List.set_cons_succ, List.set_cons_zero]
          refine wpAnyN_takeD (i := 7) (d := 26) (v := .func (.func 114) #[] #[.pointer (some ⟨A, 0, none⟩)]) (by decide) rfl rfl (by kernel_rfl) (by kernel_rfl) (by kernel_rfl) (fun _ _ _ h => h) (.inl ⟨rfl, fun V hV => ?_⟩) hS0 ?_
          · simp [go_sem, execOp]
          try simp only [List.setIfInBounds_toArray, List.set_cons_succ, List.set_cons_zero]
          refine wpAnyF_step 8 rfl (by kernel_rfl) (fun K hK => ?_)
          go_simp
          go_at_call 84
          refine (HALL.out _ (B1.out.drew) hS0 l1).mono ?_
          rintro e w2 ⟨rfl, hb2⟩
          have hS1 : w2.cell? ⟨A, 0, none⟩ = some (.int .i64 total) := (hb2.cell (p := ⟨A, 0, none⟩) l1).trans hS0
          have B2 := hidE (B1.out.drew.trans (hb2.mono (show A ≤ w1.heap.size by omega)))
          have l2 : A < w2.heap.size := Nat.lt_of_lt_of_le l1 hb2.size
          clear hb2
          go_wp2_with fail
          refine hK.out _ _ (.inr hS1) ?_
          clear hK K
          try simp only [Act.put, List.setIfInBounds_toArray, List.set_cons_succ, List.set_cons_zero]
          refine wpAnyN_takeD (i := 9) (d := 28) (v := .bool false) (by decide) rfl rfl (by kernel_rfl) (by kernel_rfl) (by kernel_rfl) (fun _ _ _ h => h) (.inl ⟨rfl, fun V hV => ?_⟩) hS1 ?_
          · simp [go_sem, execOp]
          try simp only [List.setIfInBounds_toArray, List.set_cons_succ, List.set_cons_zero]
          refine wpAnyN_takeD (i := 10) (d := 29) (v := .bool false) (by decide) rfl rfl (by kernel_rfl) (by kernel_rfl) (by kernel_rfl) (fun _ _ _ h => h) (.inl ⟨rfl, fun V hV => ?_⟩) hS1 ?_
          · simp [go_sem, execOp]
          try simp only [List.setIfInBounds_toArray, List.set_cons_succ, List.set_cons_zero]
          refine wpAnyN_takeD (i := 11) (d := 30) (v := .bool false) (by decide) rfl rfl (by kernel_rfl) (by kernel_rfl) (by kernel_rfl) (fun _ _ _ h => h) (.inl ⟨rfl, fun V hV => ?_⟩) hS1 ?_
          · simp [go_sem, execOp]
          try simp only [List.setIfInBounds_toArray, List.set_cons_succ, List.set_cons_zero]
          refine wpAnyN_takeD (i := 12) (d := 31) (v := .slice a2 L cap2) (by decide) rfl rfl (by kernel_rfl) (by kernel_rfl) (by kernel_rfl) (fun _ _ _ h => h) (.inl ⟨rfl, fun V hV => ?_⟩) hS1 ?_
          · simp [go_sem, execOp]
          try simp only [List.setIfInBounds_toArray, List.set_cons_succ, List.set_cons_zero]
          refine wpAnyN_takeD (i := 14) (d := 33) (v := .int .i64 total) (by decide) rfl rfl (by kernel_rfl) (by kernel_rfl) (by kernel_rfl) (fun _ _ _ h => h) (.inl ⟨rfl, fun V hV => ?_⟩) hS1 ?_
          · simp [go_sem, execOp, hV]
          try simp only [List.setIfInBounds_toArray, List.set_cons_succ, List.set_cons_zero]
          refine wpAnyF_step 13 rfl (by kernel_rfl) (fun K hK => ?_)
          go_simp
          go_at_call 88
          refine (HSM.out _ B2.out).mono ?_
          rintro e w3 ⟨rfl, rfl⟩
          go_wp2_with fail
          refine hK.out _ _ (.inr hS1) ?_
          clear hK K
          try simp only [Act.put, List.setIfInBounds_toArray, List.set_cons_succ, List.set_cons_zero]
          refine wpAnyN_takeD (i := 15) (d := 34) (v := .bool true) (by decide) rfl rfl (by kernel_rfl) (by kernel_rfl) (by kernel_rfl) (fun _ _ _ h => h) (.inl ⟨rfl, fun V hV => ?_⟩) hS1 ?_
          · simp [go_sem, execOp, hsn]
          try simp only [List.setIfInBounds_toArray, List.set_cons_succ, List.set_cons_zero]
          refine wpAnyN_takeD (i := 16) (d := 35) (v := .bool true) (by decide) rfl rfl (by kernel_rfl) (by kernel_rfl) (by kernel_rfl) (fun _ _ _ h => h) (.inl ⟨rfl, fun V hV => ?_⟩) hS1 ?_
          · simp [go_sem, execOp]
          try simp only [List.setIfInBounds_toArray, List.set_cons_succ, List.set_cons_zero]
          refine wpAnyF_done (by kernel_rfl) ?_ _
          clear hS0
          go_wp2_with fail
          go_ret2
          exact ⟨rfl, by rw [HA.out]; exact B2.out⟩
    · unfold checkShE at hP1 hP2
      rw [if_neg (by rw [HZ.out]; simp), if_pos (.inl hlen)] at hP1 hP2
      obtain rfl : false = P1 := hP1
      obtain rfl : (0 : Int) = P2 := hP2
      obtain ⟨L, hL⟩ : ∃ L, l.length = L := ⟨_, rfl⟩
      obtain ⟨n, hn⟩ : ∃ n, parts.length = n := ⟨_, rfl⟩
      rw [hn] at hlen HCH
      rw [hL] at hlen
      have hne : ((L : Int) != (n : Int)) = true := by simp; omega
      rw [hL, hn]
      clear hlen hL hn z1 z2 z3 z4 HSP H H2 HALL
      go_enter Tryz.func43, Tryz.ntmps43
      go_upto_region 1 with fail
      rw [← hW0]
      clear hW0
      have c0 : W0.cell? ⟨A, 0, none⟩ = some (.int .i64 total) := by rw [cell_of_row _ _ _ _ _ _ X0.out]; rfl
      go_wp2_with fail
      refine HCH.out.mono ?_
      rintro e w1 ⟨rfl, hb1⟩
      have B1 := hidE (B0.out.trans (hb1.mono (show A ≤ W0.heap.size by omega)))
      have X1 := hidE (blk_below hb1 l0 X0.out)
      have l1 := lt_of_block X1.out
      have c1 : w1.cell? ⟨A, 0, none⟩ = some (.int .i64 total) := by rw [cell_of_row _ _ _ _ _ _ X1.out]; rfl
      clear hb1 l0 c0
      go_upto_region 4 with fail
      have hS0 : w1.drew.cell? ⟨A, 0, none⟩ = some (.int .i64 total) := c1
      refine wp_region_F (S := fun V => V.cell? ⟨A, 0, none⟩ = some (.int .i64 total)) (last := 100) (by kernel_rfl) ?_
      refine wpAnyN_takeD (i := 0) (d := 19) (v := .slice a2 L cap2) (by decide) rfl rfl (by kernel_rfl) (by kernel_rfl) (by kernel_rfl) (fun _ _ _ h => h) (.inl ⟨rfl, fun V hV => ?_⟩) hS0 ?_
      · simp [go_sem, execOp]
      try simp only [List.setIfInBounds_toArray, List.set_cons_succ, List.set_cons_zero]
      refine wpAnyN_takeD (i := 1) (d := 20) (v := .int .i64 (L : Int)) (by decide) rfl rfl (by kernel_rfl) (by kernel_rfl) (by kernel_rfl) (fun _ _ _ h => h) (.inl ⟨rfl, fun V hV => ?_⟩) hS0 ?_
      · simp [go_sem, execOp]
      try simp only [List.setIfInBounds_toArray, List.set_cons_succ, List.set_cons_zero]
      refine wpAnyN_takeD (i := 2) (d := 21) (v := .slice a n cap) (by decide) rfl rfl (by kernel_rfl) (by kernel_rfl) (by kernel_rfl) (fun _ _ _ h => h) (.inl ⟨rfl, fun V hV => ?_⟩) hS0 ?_
      · simp [go_sem, execOp]
      try simp only [List.setIfInBounds_toArray, List.set_cons_succ, List.set_cons_zero]
      refine wpAnyN_takeD (i := 3) (d := 22) (v := .int .i64 (n : Int)) (by decide) rfl rfl (by kernel_rfl) (by kernel_rfl) (by kernel_rfl) (fun _ _ _ h => h) (.inl ⟨rfl, fun V hV => ?_⟩) hS0 ?_
      · simp [go_sem, execOp]
      try simp only [List.setIfInBounds_toArray, List.set_cons_succ, List.set_cons_zero]
      refine wpAnyN_takeD (i := 4) (d := 23) (v := .bool true) (by decide) rfl rfl (by kernel_rfl) (by kernel_rfl) (by kernel_rfl) (fun _ _ _ h => h) (.inl ⟨rfl, fun V hV => ?_⟩) hS0 ?_
      · simp [go_sem, execOp, hne]
      try simp only [List.setIfInBounds_toArray, List.set_cons_succ, List.set_cons_zero]
      refine wpAnyN_takeD (i := 5) (d := 24) (v := .bool true) (by decide) rfl rfl (by kernel_rfl) (by kernel_rfl) (by kernel_rfl) (fun _ _ _ h => h) (.inl ⟨rfl, fun V hV => ?_⟩) hS0 ?_
      · simp [go_sem, execOp]
      try simp only [List.setIfInBounds_toArray, List.set_cons_succ, List.set_cons_zero]
      refine wpAnyN_takeD (i := 6) (d := 25) (v := undef) (by decide) rfl rfl (by kernel_rfl) (by kernel_rfl) (by kernel_rfl) (fun _ _ _ h => h) (.inr ⟨by kernel_rfl, rfl⟩) hS0 ?_
      try simp only [List.setIfInBounds_toArray, List.set_cons_succ, List.set_cons_zero]
      refine wpAnyN_takeD (i := 7) (d := 26) (v := undef) (by decide) rfl rfl (by kernel_rfl) (by kernel_rfl) (by kernel_rfl) (fun _ _ _ h => h) (.inr ⟨by kernel_rfl, rfl⟩) hS0 ?_
      try simp only [List.setIfInBounds_toArray, List.set_cons_succ, List.set_cons_zero]
      refine wpAnyN_takeD (i := 8) (d := 27) (v := undef) (by decide) rfl rfl (by kernel_rfl) (by kernel_rfl) (by kernel_rfl) (fun _ _ _ h => h) (.inr ⟨by kernel_rfl, rfl⟩) hS0 ?_
      try simp only [List.setIfInBounds_toArray, List.set_cons_succ, List.set_cons_zero]
      refine wpAnyN_takeD (i := 9) (d := 28) (v := undef) (by decide) rfl rfl (by kernel_rfl) (by kernel_rfl) (by kernel_rfl) (fun _ _ _ h => h) (.inr ⟨by kernel_rfl, rfl⟩) hS0 ?_
      try simp only [List.setIfInBounds_toArray, List.set_cons_succ, List.set_cons_zero]
      refine wpAnyN_takeD (i := 10) (d := 29) (v := .bool true) (by decide) rfl rfl (by kernel_rfl) (by kernel_rfl) (by kernel_rfl) (fun _ _ _ h => h) (.inl ⟨rfl, fun V hV => ?_⟩) hS0 ?_
      · simp [go_sem, execOp]
      try simp only [List.setIfInBounds_toArray, List.set_cons_succ, List.set_cons_zero]
      refine wpAnyN_takeD (i := 11) (d := 30) (v := .bool true) (by decide) rfl rfl (by kernel_rfl) (by kernel_rfl) (by kernel_rfl) (fun _ _ _ h => h) (.inl ⟨rfl, fun V hV => ?_⟩) hS0 ?_
      · simp [go_sem, execOp]
      try simp only [List.setIfInBounds_toArray, List.set_cons_succ, List.set_cons_zero]
      refine wpAnyN_takeD (i := 12) (d := 31) (v := undef) (by decide) rfl rfl (by kernel_rfl) (by kernel_rfl) (by kernel_rfl) (fun _ _ _ h => h) (.inr ⟨by kernel_rfl, rfl⟩) hS0 ?_
      try simp only [List.setIfInBounds_toArray, List.set_cons_succ, List.set_cons_zero]
      refine wpAnyN_takeD (i := 13) (d := 32) (v := undef) (by decide) rfl rfl (by kernel_rfl) (by kernel_rfl) (by kernel_rfl) (fun _ _ _ h => h) (.inr ⟨by kernel_rfl, rfl⟩) hS0 ?_
      try simp only [List.setIfInBounds_toArray, List.set_cons_succ, List.set_cons_zero]
      refine wpAnyN_takeD (i := 14) (d := 33) (v := undef) (by decide) rfl rfl (by kernel_rfl) (by kernel_rfl) (by kernel_rfl) (fun _ _ _ h => h) (.inr ⟨by kernel_rfl, rfl⟩) hS0 ?_
      try simp only [List.setIfInBounds_toArray, List.set_cons_succ, List.set_cons_zero]
      refine wpAnyN_takeD (i := 15) (d := 34) (v := undef) (by decide) rfl rfl (by kernel_rfl) (by kernel_rfl) (by kernel_rfl) (fun _ _ _ h => h) (.inr ⟨by kernel_rfl, rfl⟩) hS0 ?_
      try simp only [List.setIfInBounds_toArray, List.set_cons_succ, List.set_cons_zero]
      refine wpAnyN_takeD (i := 16) (d := 35) (v := .bool true) (by decide) rfl rfl (by kernel_rfl) (by kernel_rfl) (by kernel_rfl) (fun _ _ _ h => h) (.inl ⟨rfl, fun V hV => ?_⟩) hS0 ?_
      · simp [go_sem, execOp]
      try simp only [List.setIfInBounds_toArray, List.set_cons_succ, List.set_cons_zero]
      refine wpAnyF_done (by kernel_rfl) ?_ _
      clear hS0
      go_wp2_with fail
      go_ret2
      exact ⟨rfl, by rw [HA.out]; exact B1.out.drew⟩
  · unfold checkShE at hP1 hP2
    rw [if_pos hz] at hP1 hP2
    obtain rfl : false = P1 := hP1
    have HP2 := hidE hP2
    obtain ⟨z, hz2⟩ : ∃ z, checkSharesP total parts = z := ⟨_, rfl⟩
    rw [hz2] at hch HP2 hz
    have HP3 := hidE (show z = P2 from HP2.out)
    have HCH := hidE hch
    have hz3 : (z != 0) = true := by simpa using hz
    clear hch hz2 hP2 HP2 H H2
    go_enter Tryz.func43, Tryz.ntmps43
    go_upto_region 1 with fail
    rw [← hW0]
    clear hW0
    have c0 : W0.cell? ⟨A, 0, none⟩ = some (.int .i64 total) := by rw [cell_of_row _ _ _ _ _ _ X0.out]; rfl
    go_wp2_with fail
    refine HCH.out.mono ?_
    rintro e w1 ⟨rfl, hb1⟩
    have B1 := hidE (B0.out.trans (hb1.mono (show A ≤ W0.heap.size by omega)))
    clear hb1
    go_wp2_with fail
    go_ret2
    exact ⟨by rw [← HP3.out]; rfl, by rw [HA.out]; exact B1.out⟩
end Go.Proofs.YthjmkmjojlfejaaGreat

namespace Go.Proofs.YthjmkmjojlfejaaGreat
theorem more_before {total : Int} {parts : List Int} {a b : Nat} (ha : a < parts.length) (hle : remLe (shRem total parts) a b = true) (hb : b ∈ more total parts) : a ∈ more total parts := by
  unfold more at *
  have ham : a ∈ remOrd (shRem total parts) := (remOrd_perm _).mem_iff.2 (List.mem_range.2 (by simpa [shRem] using ha))
  obtain ⟨p, hp, e⟩ := List.getElem_of_mem ham
  obtain ⟨q, hq, e2⟩ := List.mem_take_iff_getElem.1 hb
  refine List.mem_take_iff_getElem.2 ⟨p, ?_, e⟩
  apply Classical.byContradiction
  intro hn
  have hlt : q < p := by omega
  have := List.pairwise_iff_getElem.1 (remOrd_sorted (shRem total parts)) q p (by omega) hp hlt
  rw [e, e2] at this
  have := remLe_anti _ hle this
  subst this
  have hnd := List.pairwise_iff_getElem.1 (remOrd_nodup (shRem total parts)) q p (by omega) hp hlt
  exact hnd (by rw [e, e2])
/-- Greater parts get no less; of equal ones the first may get one more. -/
theorem shares_order {total : Int} {parts : List Int} (h : ShOk total parts) {k i : Nat} (hk : k < parts.length) (hi : i < parts.length) (hlt : parts.getD i 0 < parts.getD k 0) : (sharesP total parts).getD i 0 ≤ (sharesP total parts).getD k 0 := by
  rw [shares_at hk, shares_at hi]
  have hw := shWhole_pos parts
  have hm : total * parts.getD i 0 ≤ total * parts.getD k 0 := Int.mul_le_mul_of_nonneg_left (by omega) h.tot
  have hq := Int.ediv_le_ediv (show 0 < shWhole parts by omega) hm
  by_cases hin : i ∈ more total parts
  · by_cases heq : total * parts.getD i 0 / shWhole parts = total * parts.getD k 0 / shWhole parts
    · have h1 := Int.mul_ediv_add_emod (total * parts.getD i 0) (shWhole parts)
      have h2 := Int.mul_ediv_add_emod (total * parts.getD k 0) (shWhole parts)
      rw [heq] at h1
      have hr : total * parts.getD i 0 % shWhole parts ≤ total * parts.getD k 0 % shWhole parts := by omega
      have hle : remLe (shRem total parts) k i = true := by
        simp only [remLe, Bool.or_eq_true, Bool.and_eq_true, decide_eq_true_eq]
        rw [shRem_at hk, shRem_at hi]
        rcases Int.lt_or_eq_of_le hr with q | q
        · exact .inl q
        · -- the products are equal, so nothing is shared out
          have e : total * parts.getD i 0 = total * parts.getD k 0 := by omega
          have ht : total = 0 := by
            rcases Int.lt_or_eq_of_le h.tot with t | t
            · have := Int.mul_lt_mul_of_pos_left hlt t; omega
            · exact t.symm
          have hp := more_pos h hin
          rw [shRem_at hi, ht] at hp
          simp at hp
      rw [if_pos hin, if_pos (more_before hk hle hin)]
      omega
    · rw [if_pos hin]; split <;> omega
  · rw [if_neg hin]; split <;> omega
theorem shares_equal {total : Int} {parts : List Int} {k i : Nat} (hk : k < parts.length) (hi : i < parts.length) (hki : k < i) (he : parts.getD k 0 = parts.getD i 0) : (sharesP total parts).getD i 0 ≤ (sharesP total parts).getD k 0 ∧ (sharesP total parts).getD k 0 ≤ (sharesP total parts).getD i 0 + 1 := by
  rw [shares_at hk, shares_at hi, he]
  by_cases hin : i ∈ more total parts
  · have hle : remLe (shRem total parts) k i = true := by
      simp only [remLe, Bool.or_eq_true, Bool.and_eq_true, decide_eq_true_eq]
      rw [shRem_at hk, shRem_at hi, he]
      exact .inr ⟨rfl, by omega⟩
    rw [if_pos hin, if_pos (more_before hk hle hin)]
    omega
  · rw [if_neg hin]; split <;> omega
end Go.Proofs.YthjmkmjojlfejaaGreat

namespace Go.Proofs.YthjmkmjojlfejaaGreat
open Go Go.RowKit Go.Shelf
theorem fair_check {total : Int} {parts : List Int} (hz : checkSharesP total parts = 0) : checkShE total parts (sharesP total parts) = (true, 0) := by
  obtain ⟨z1, z2, z3, z4⟩ := checkShares_ok hz
  have hlen := sharesP_len total parts
  have hall : ((sharesP total parts).all fun v => inR v 0 total) = true := by
    rw [List.all_eq_true]
    intro v hv
    have := shares_le z4 v hv
    unfold inR
    simp only [Bool.and_eq_true, decide_eq_true_eq]
    omega
  have hsum := sharesP_sum z4
  unfold checkShE
  rw [if_neg (by rw [hz]; simp), if_neg (by rw [hall]; simp [hlen, hsum])]
  congr 1
  have : ((List.range (sharesP total parts).length).any fun i => offB (isum parts) total ((sharesP total parts).getD i 0) (parts.getD i 0)) = false := by
    rw [List.any_eq_false]
    intro i hi
    have hi2 : i < parts.length := by rw [← hlen]; exact List.mem_range.1 hi
    have h1 := shares_near z4 hi2
    have hW : shWhole parts = max 1 (isum parts) := rfl
    unfold offB
    by_cases hp : 0 < isum parts
    · have e : shWhole parts = isum parts := by omega
      rw [e] at h1
      simp only [hp, decide_true, Bool.true_and, decide_eq_true_eq]
      omega
    · simp [hp]
  rw [this]; rfl
set_option maxRecDepth 100000 in
set_option maxHeartbeats 16000000 in
theorem areaFair_of (hal : AliveOk) (w : World) (total : Int) (a : Option Addr) (cap : Nat) (parts : List Int) (hl : parts.length ≤ 9223372036854775807) (h : IntsAt w a parts) :
    Calls Tryz.prog 9 #[.int .i64 total, .slice a parts.length cap] w fun e w' => e = .returned (.bool true) ∧ Below w.heap.size w w' := by
  have HAL := hidE hal
  have H := hidE h
  clear hal h
  have HS1 := hidE (fun W hW => sharesE_any W total a cap parts hl hW)
  by_cases hb1 : 60 < parts.length
  · have hd : decide ((parts.length : Int) > 60) = true := by simp; omega
    have hd' : decide (60 < parts.length) = true := by simp; omega
    go_enter Tryz.func9, Tryz.ntmps9
    go_wp2_with fail
    refine (HAL.out _).mono ?_
    rintro e w1 ⟨rfl, hb⟩
    go_wp2_with fail
    go_ret
    exact ⟨rfl, hb⟩
  have hd : decide ((parts.length : Int) > 60) = false := by simp; omega
  have hd' : decide (60 < parts.length) = false := by simp; omega
  by_cases hz : checkSharesP total parts = 0
  · obtain ⟨z1, z2, z3, z4⟩ := checkShares_ok hz
    have hE : sharesE total parts = (sharesP total parts, 0) := by unfold sharesE; rw [if_pos hz]
    rw [hE] at HS1
    have hch := fair_check hz
    have hlen := sharesP_len total parts
    have HSUM := hidE (sharesP_sum z4)
    have HLEB := hidE (shares_le z4)
    have HORD := hidE (fun (k i : Nat) (h1 : k < parts.length) (h2 : i < parts.length) (h3 : parts.getD i 0 < parts.getD k 0) => shares_order z4 h1 h2 h3)
    have HEQ := hidE (fun (k i : Nat) (h1 : k < parts.length) (h2 : i < parts.length) (h3 : k < i) (h4 : parts.getD k 0 = parts.getD i 0) => shares_equal (total := total) h1 h2 h3 h4)
    obtain ⟨S, hS⟩ : ∃ S, sharesP total parts = S := ⟨_, rfl⟩
    rw [hS] at HS1 hch hlen HSUM HLEB HORD HEQ
    have HC1 := hidE (fun W o c hW hW2 => checkShE_any W total a cap parts o c S hl (by omega) hW hW2)
    rw [hch] at HC1
    clear hS hE hch hz z3 z4
    obtain ⟨n, hn⟩ : ∃ n, parts.length = n := ⟨_, rfl⟩
    rw [hn] at hlen hd hd' HS1 HC1 z1 ⊢
    simp only [hn] at HORD HEQ
    rw [hlen] at HC1
    have HPN := hidE hn
    have HSN := hidE hlen
    clear hn hb1
    go_enter Tryz.func9, Tryz.ntmps9
    go_wp2_with fail
    refine (HS1.out _ H.out).mono ?_
    rintro e w1 ⟨⟨v1, rfl, ho1⟩, hb1⟩
    have B1 := hidE hb1
    have HB1 := hidE (H.out.below hb1 (Nat.le_refl _))
    obtain ⟨o1, c1, rfl, hi1, _⟩ := intsAt_of_owns ho1
    have HI1 := hidE hi1
    rw [hlen]
    clear hb1 ho1 hi1 HS1
    go_wp2_with fail
    refine (HC1.out _ _ _ HB1.out HI1.out).mono ?_
    rintro e w2 ⟨rfl, hb2⟩
    have B2 := hidE (B1.out.trans (hb2.mono B1.out.size))
    have HI2 := hidE (HI1.out.below hb2 (Nat.le_refl _))
    have HP2 := hidE (HB1.out.below hb2 (Nat.le_refl _))
    clear hb2 HI1 HB1 H HC1
    clear hlen
    have hne : ((n : Int) != (n : Int)) = false := by simp
    go_wp2_with fail
    clear hne
    go_loopw [9, 53] (fun x y wr => ∃ i : Nat, i ≤ n ∧ x = .int .i64 (isum (S.take i)) ∧ y = .int .i64 i ∧ Hid (OnlyG w2.heap.size w2 wr)) (fun _ y _ => n - (intOf y).toNat)
    case atStart => exact ⟨0, Nat.zero_le _, rfl, rfl, hidE (OnlyG.refl _ _)⟩
    case round =>
      obtain ⟨i, hi, rfl, rfl, HD⟩ := hrel
      obtain ⟨wx, rfl⟩ : ∃ W : World, W = wr := ⟨wr, rfl⟩
      have hpre := isum_take_bd (c := 100000000000) (by decide) (fun x hx => ⟨(HLEB.out x hx).1, Int.le_trans (HLEB.out x hx).2 z2.2⟩) i
      by_cases hin : i < n
      · have his : i < S.length := by rw [HSN.out]; exact hin
        have hip : i < parts.length := by rw [HPN.out]; exact hin
        obtain ⟨b1, q1, rfl, hb1, hc1⟩ := HI2.out.at his
        obtain ⟨b2, q2, rfl, hb2, hc2⟩ := HP2.out.at hip
        have hsb := HLEB.out _ (List.getElem_mem his)
        have HST := hidE (isum_take S his)
        rw [← getD_get S 0 his] at hc1 hsb HST
        rw [← getD_get parts 0 hip] at hc2
        obtain ⟨si, hsi⟩ : ∃ x, S.getD i 0 = x := ⟨_, rfl⟩
        obtain ⟨pi, hpi⟩ : ∃ x, parts.getD i 0 = x := ⟨_, rfl⟩
        rw [hsi] at hc1 hsb HST
        rw [hpi] at hc2
        have HSI := hidE hsi
        have HPI := hidE hpi
        obtain ⟨sm, hsm⟩ : ∃ x, isum (S.take i) = x := ⟨_, rfl⟩
        rw [hsm] at hpre HST ⊢
        have cs : wx.cell? ⟨b1, q1 + i, none⟩ = some (.int .i64 si) := (HD.out.cell (p := ⟨b1, q1 + i, none⟩) (Nat.ne_of_lt hb1)).trans hc1
        have hws : IntKind.i64.wrap (sm + si) = sm + si := IntWalk.i64_in _ (by omega)
        have HIN := hidE hin
        clear hsi hpi hsm
        go_wp2_with fail
        go_loopw [62] (fun y wr => ∃ m : Nat, m ≤ i ∧ y = .int .i64 m ∧ Hid (OnlyG w2.heap.size w2 wr)) (fun y _ => i - (intOf y).toNat)
        case atStart => exact ⟨0, Nat.zero_le _, rfl, HD⟩
        case round =>
          obtain ⟨m, hm, rfl, HD2⟩ := hrel
          obtain ⟨wz, rfl⟩ : ∃ W : World, W = wr := ⟨wr, rfl⟩
          by_cases hmi : m < i
          · have hms : m < S.length := by omega
            have hmp : m < parts.length := by omega
            obtain ⟨_, _, e3, _, hc3⟩ := HI2.out.at hms
            obtain ⟨_, _, e4, _, hc4⟩ := HP2.out.at hmp
            cases e3
            cases e4
            rw [← getD_get S 0 hms] at hc3
            rw [← getD_get parts 0 hmp] at hc4
            have o1 := HORD.out m i (by omega) hin
            have o2 := HORD.out i m hin (by omega)
            have o3 := HEQ.out m i (by omega) hin hmi
            rw [HSI.out, HPI.out] at o1 o2 o3
            obtain ⟨sk, hsk⟩ : ∃ x, S.getD m 0 = x := ⟨_, rfl⟩
            obtain ⟨pk, hpk⟩ : ∃ x, parts.getD m 0 = x := ⟨_, rfl⟩
            rw [hsk] at hc3 o1 o2 o3
            rw [hpk] at hc4 o1 o2 o3
            have k1 : wz.cell? ⟨b1, q1 + m, none⟩ = some (.int .i64 sk) := (HD2.out.cell (p := ⟨b1, q1 + m, none⟩) (Nat.ne_of_lt hb1)).trans hc3
            have k2 : wz.cell? ⟨b2, q2 + m, none⟩ = some (.int .i64 pk) := (HD2.out.cell (p := ⟨b2, q2 + m, none⟩) (Nat.ne_of_lt hb2)).trans hc4
            have k3 : wz.cell? ⟨b2, q2 + i, none⟩ = some (.int .i64 pi) := (HD2.out.cell (p := ⟨b2, q2 + i, none⟩) (Nat.ne_of_lt hb2)).trans hc2
            have hw1 : IntKind.i64.wrap (si + 1) = si + 1 := IntWalk.i64_in _ (by omega)
            clear hc3 hc4 hsk hpk
            rcases Int.lt_trichotomy pk pi with hc | hc | hc
            · have w1 := o2 hc
              have d0 : decide (pk > pi) = false := by simp; omega
              have d1 : decide (pi < pk) = false := by simp; omega
              have d2 : decide (pk < pi) = true := by simp; omega
              have d3 : decide (sk > si) = false := by simp; omega
              have d4 : decide (si < sk) = false := by simp; omega
              have d5 : (pk == pi) = false := by simp; omega
              clear o1 o2 o3 hc w1
              go_upto_region 17 with fail
              go_quiet (fail)
              go_upto_region 18 with fail
              go_quiet (fail)
              go_upto_region 20 with fail
              go_quiet (fail)
              go_wp2_with fail
              go_roundw
              case rel => exact ⟨m + 1, by omega, by go_num, hidE (HD2.out.trans (OnlyG.drewN _ _))⟩
              case measure => simp [intOf]; omega
            · have w1 := o3 hc
              have d0 : decide (pk > pi) = false := by simp; omega
              have d1 : decide (pi < pk) = false := by simp; omega
              have d2 : decide (pk < pi) = false := by simp; omega
              have d3 : (pk == pi) = true := by simp; omega
              have d4 : decide (sk < si) = false := by simp; omega
              have d5 : decide (sk > si + 1) = false := by simp; omega
              have d6 : decide (si + 1 < sk) = false := by simp; omega
              clear o1 o2 o3 hc w1
              go_upto_region 17 with fail
              go_quiet (fail)
              go_upto_region 18 with fail
              go_quiet (fail)
              go_upto_region 20 with fail
              go_quiet (fail)
              go_wp2_with fail
              go_roundw
              case rel => exact ⟨m + 1, by omega, by go_num, hidE (HD2.out.trans (OnlyG.drewN _ _))⟩
              case measure => simp [intOf]; omega
            · have w1 := o1 hc
              have d0 : decide (pk > pi) = true := by simp; omega
              have d1 : decide (pi < pk) = true := by simp; omega
              have d2 : decide (sk < si) = false := by simp; omega
              have d3 : decide (pk < pi) = false := by simp; omega
              have d4 : (pk == pi) = false := by simp; omega
              clear o1 o2 o3 hc w1
              go_upto_region 17 with fail
              go_quiet (fail)
              go_upto_region 18 with fail
              go_quiet (fail)
              go_upto_region 20 with fail
              go_quiet (fail)
              go_wp2_with fail
              go_roundw
              case rel => exact ⟨m + 1, by omega, by go_num, hidE (HD2.out.trans (OnlyG.drewN _ _))⟩
              case measure => simp [intOf]; omega
          · obtain rfl : m = i := by omega
            go_wp2_with fail
            go_roundw
            case rel => exact ⟨m + 1, HIN.out, by rw [HST.out], by go_num, HD2⟩
            case measure => have := HIN.out; simp [intOf]; omega
      · obtain rfl : i = n := by omega
        have HTK := hidE (show isum (S.take i) = total by rw [List.take_of_length_le (by rw [HSN.out]; exact Nat.le_refl _)]; exact HSUM.out)
        rw [HTK.out]
        go_wp2_with fail
        refine (HAL.out _).mono ?_
        rintro e w5 ⟨rfl, hb5⟩
        have B5 := hidE ((B2.out.trans (HD.out.bl.mono B2.out.size)).trans (hb5.mono (Nat.le_trans B2.out.size (Nat.le_of_eq HD.out.size.symm))))
        clear hb5
        go_wp2_with fail
        go_ret
        exact ⟨by simp, B5.out⟩
  · have hE : sharesE total parts = ([], checkSharesP total parts) := by unfold sharesE; rw [if_neg hz]
    rw [hE] at HS1
    obtain ⟨z, hz2⟩ : ∃ z, checkSharesP total parts = z := ⟨_, rfl⟩
    rw [hz2] at hz HS1
    have hz3 : (z != 0) = true := by simpa using hz
    clear hE hz2
    go_enter Tryz.func9, Tryz.ntmps9
    go_wp2_with fail
    refine (HS1.out _ H.out).mono ?_
    rintro e w1 ⟨⟨v1, rfl, ho1⟩, hb1⟩
    have B1 := hidE hb1
    obtain ⟨o1, c1, rfl, hi1, _⟩ := intsAt_of_owns ho1
    clear hb1 ho1 hi1 HS1
    go_wp2_with fail
    refine (HAL.out _).mono ?_
    rintro e w2 ⟨rfl, hb2⟩
    have B2 := hidE (B1.out.trans (hb2.mono B1.out.size))
    clear hb2
    go_wp2_with fail
    go_ret
    exact ⟨rfl, B2.out⟩
end Go.Proofs.YthjmkmjojlfejaaGreat
