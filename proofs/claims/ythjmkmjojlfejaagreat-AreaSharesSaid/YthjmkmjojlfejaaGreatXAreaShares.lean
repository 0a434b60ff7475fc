/- What the law AreaShares needs beyond the base: Wp, Sc, Sd, Ar2, Sf, Sg, Sk, Ls. No conditions beyond those stated. -/
import Derived.Test.YthjmkmjojlfejaaGreatB02
import Derived.Test.YthjmkmjojlfejaaGreatB01
import Derived.Test.YthjmkmjojlfejaaGreatProg
import Derived.WalkKit
import Derived.Handy
import Derived.RangeFuncRecord
import Derived.Shelf.Abstract
import Derived.Deep.QuietTactic
import Derived.BigQuiet
import Derived.Laws.CopyOwn
import Derived.WalkSmall
import Derived.RangeFuncNested
import Derived.RangeFuncBound
import Derived.RangeFuncCalls
import Derived.RangeFuncLeaves
import Derived.Shelf.RegionOpen
import Derived.OwnWalkIn
import Derived.TacticsInMore
import Derived.LoopNIn
import Derived.LoopIn
import Derived.Maps.AppendAt
import Derived.Deep.Onto
import Derived.OrdersHeld
import Derived.Deep.LoopGhost
import Derived.Deep.WholeRow
import Derived.Deep.OwnRows
import Derived.StillTailTactics
import Derived.Great.Walk
import Derived.Great.BuildSlice
import Derived.WalkMore
import Derived.Deep.MidRow
import Derived.Deep.RegionHeld3
import Derived.Deep.DeepCutAuto
import Derived.Test.YthjmkmjojlfejaaGreatB07
import Derived.Test.YthjmkmjojlfejaaGreatB06
import Derived.Test.YthjmkmjojlfejaaGreatB05
import Derived.Test.YthjmkmjojlfejaaGreatB04
import Derived.Test.YthjmkmjojlfejaaGreatB03
import Derived.Shelf.Small.Bits
import Derived.Shelf.Small.Wraps
import Derived.Shelf.Strconv.Itoa0
import Derived.Shelf.Sort.Plain
import Derived.Shelf.Slices.Turned
import Derived.Ground.Names2Prog
import Derived.Shelf.Slices.CompactI
import Derived.Shelf.Slices.SearchI
import Derived.Shelf.Slices.Cells
import Derived.Shelf.Slices.In.SortNone
import Derived.Lib.OwnBridge
import Derived.Lib.SliceRun
import Derived.WalkSpells
import Derived.Deep.RegionWith
import Derived.Lib.AppendZerosOnto
import Derived.Deep.CutBlock
import Derived.IntWalk
import Derived.Test.YthjmkmjojlfejaaGreatB13

namespace Go.Proofs.YthjmkmjojlfejaaGreat
open Go Go.RowKit Go.Shelf
def IntsOut (l : List Int) (base : Nat) (e : Ending) (w' : World) : Prop := ∃ v, e = .returned v ∧ w'.ownsRow base 3 1 v l.length (intsV l)
end Go.Proofs.YthjmkmjojlfejaaGreat

namespace Go.Proofs.YthjmkmjojlfejaaGreat
open Go Go.RowKit Go.Shelf
/-- A share that is a whole off. -/
def offB (W total x p : Int) : Bool := decide (0 < W) && decide (W ≤ max (x * W - total * p) (-(x * W - total * p)))
def checkShE (total : Int) (parts l : List Int) : Bool × Int :=
  if checkSharesP total parts ≠ 0 then (false, checkSharesP total parts) else if l.length ≠ parts.length ∨ (l.all fun v => inR v 0 total) = false ∨ isum l ≠ total then (false, 0)
  else (!((List.range l.length).any fun i => offB (isum parts) total (l.getD i 0) (parts.getD i 0)), 0)
theorem checkSh1_any (w : World) (A : Nat) (total v : Int) (h : w.cell? ⟨A, 0, none⟩ = some (.int .i64 total)) : Calls Tryz.prog 114 #[.int .i64 v, .pointer (some ⟨A, 0, none⟩)] w fun e w' => e = .returned (.bool (inR v 0 total)) ∧ w = w' := by
  go_enter Tryz.func114, Tryz.ntmps114
  go_wp2_with (go_at_call 86; refine (in_any _ _ _ _).mono ?_; rintro e w' ⟨rfl, rfl⟩)
  go_ret
  exact ⟨rfl, rfl⟩
set_option maxRecDepth 100000 in
set_option maxHeartbeats 16000000 in
theorem checkShE_any (w : World) (total : Int) (a : Option Addr) (cap : Nat) (parts : List Int) (a2 : Option Addr) (cap2 : Nat) (l : List Int) (hl : parts.length ≤ 9223372036854775807) (hl2 : l.length ≤ 9223372036854775807) (h : IntsAt w a parts) (h2 : IntsAt w a2 l) :
    Calls Tryz.prog 43 #[.int .i64 total, .slice a parts.length cap, .slice a2 l.length cap2] w fun e w' => e = .returned (.tuple #[.bool (checkShE total parts l).1, .int .i64 (checkShE total parts l).2]) ∧ Below w.heap.size w w' := by
  obtain ⟨W0, hW0⟩ : ∃ W, W = w.alloc (.cells #[.int .i64 total] 3) := ⟨_, rfl⟩
  have B0 := hidE (show Below w.heap.size w W0 by rw [hW0]; exact (Below.refl _ _).alloc (Nat.le_refl _) _)
  have X0 := hidE (show W0.heap[w.heap.size]? = some (.cells #[.int .i64 total] 3 (0,0)) by rw [hW0]; exact heap_alloc_new w _)
  have hch := checkShares_any W0 total a cap parts hl (by rw [hW0]; exact h.alloc _)
  obtain ⟨P1, hP1⟩ : ∃ z, (checkShE total parts l).1 = z := ⟨_, rfl⟩
  obtain ⟨P2, hP2⟩ : ∃ z, (checkShE total parts l).2 = z := ⟨_, rfl⟩
  rw [hP1, hP2]
  have H := hidE h
  have H2 := hidE h2
  obtain ⟨A, hA⟩ : ∃ A, w.heap.size = A := ⟨_, rfl⟩
  have HA := hidE hA
  rw [hA] at B0 X0
  have l0 := lt_of_block X0.out
  clear h h2
  by_cases hz : checkSharesP total parts = 0
  · obtain ⟨z1, z2, z3, z4⟩ := checkShares_ok hz
    rw [hz] at hch
    have HCH := hidE hch
    have HZ := hidE hz
    clear hch hz
    have HALL := hidE (fun (W : World) (hb : Below A w W) (h0 : W.cell? ⟨A, 0, none⟩ = some (.int .i64 total)) (hs : A < W.heap.size) => all_any W a2 cap2 l 114 #[.pointer (some ⟨A, 0, none⟩)] (fun v => inR v 0 total) hl2 (H2.out.below hb (by rw [HA.out]; exact Nat.le_refl _)) (fun k hk V hV => (checkSh1_any V A total l[k] ((hV.cell (p := ⟨A, 0, none⟩) hs).trans h0)).mono fun _ _ ⟨he, hw⟩ => ⟨he, hw ▸ Below.refl _ _⟩) (enters_of Tryz.func114 (by kernel_rfl) rfl))
    have HSP := hidE (fun (W : World) (hb : Below A w W) => sum_any W a cap parts (by omega) (H.out.below hb (by rw [HA.out]; exact Nat.le_refl _)) (fun k hk => by
      have := isum_take_bd (by decide) z3 k
      omega))
    by_cases hlen : l.length = parts.length
    · cases hal : (l.all fun v => inR v 0 total) with
      | false =>
        unfold checkShE at hP1 hP2
        rw [if_neg (by rw [HZ.out]; simp), if_pos (.inr (.inl hal))] at hP1 hP2
        obtain rfl : false = P1 := hP1
        obtain rfl : (0 : Int) = P2 := hP2
        rw [hal] at HALL
        obtain ⟨L, hL⟩ : ∃ L, l.length = L := ⟨_, rfl⟩
        obtain ⟨n, hn⟩ : ∃ n, parts.length = n := ⟨_, rfl⟩
        rw [hn] at hlen HCH
        rw [hL] at hlen HALL
        have hne : ((L : Int) != (n : Int)) = false := by simp [hlen]
        rw [hL, hn]
        clear hlen hL hn hal z1 z2 z3 z4 HSP H H2
        go_enter Tryz.func43, Tryz.ntmps43
        go_upto_region 1 with fail
        rw [← hW0]
        clear hW0
        have c0 : W0.cell? ⟨A, 0, none⟩ = some (.int .i64 total) := by rw [cell_of_row _ _ _ _ _ _ X0.out]; rfl
        go_wp2_with fail
        refine HCH.out.mono ?_
        rintro e w1 ⟨rfl, hb1⟩
        have B1 := hidE (B0.out.trans (hb1.mono (show A ≤ W0.heap.size by omega)))
        have X1 := hidE (blk_below hb1 l0 X0.out)
        have l1 := lt_of_block X1.out
        have c1 : w1.cell? ⟨A, 0, none⟩ = some (.int .i64 total) := by rw [cell_of_row _ _ _ _ _ _ X1.out]; rfl
        clear hb1 l0 c0
        go_upto_region 4 with fail
        have hS0 : w1.drew.cell? ⟨A, 0, none⟩ = some (.int .i64 total) := c1
        refine wp_region_F (S := fun V => V.cell? ⟨A, 0, none⟩ = some (.int .i64 total)) (last := 100) (by kernel_rfl) ?_
        refine wpAnyN_takeD (i := 0) (d := 19) (v := .slice a2 L cap2) (by decide) rfl rfl (by kernel_rfl) (by kernel_rfl) (by kernel_rfl) (fun _ _ _ h => h) (.inl ⟨rfl, fun V hV => ?_⟩) hS0 ?_
        · simp [go_sem, execOp]
        try simp only [List.setIfInBounds_toArray, List.set_cons_succ, List.set_cons_zero]
        refine wpAnyN_takeD (i := 1) (d := 20) (v := .int .i64 (L : Int)) (by decide) rfl rfl (by kernel_rfl) (by kernel_rfl) (by kernel_rfl) (fun _ _ _ h => h) (.inl ⟨rfl, fun V hV => ?_⟩) hS0 ?_
        · simp [go_sem, execOp]
        try simp only [List.setIfInBounds_toArray, List.set_cons_succ, List.set_cons_zero]
        refine wpAnyN_takeD (i := 2) (d := 21) (v := .slice a n cap) (by decide) rfl rfl (by kernel_rfl) (by kernel_rfl) (by kernel_rfl) (fun _ _ _ h => h) (.inl ⟨rfl, fun V hV => ?_⟩) hS0 ?_
        · simp [go_sem, execOp]
        try simp only [List.setIfInBounds_toArray, List.set_cons_succ, List.set_cons_zero]
        refine wpAnyN_takeD (i := 3) (d := 22) (v := .int .i64 (n : Int)) (by decide) rfl rfl (by kernel_rfl) (by kernel_rfl) (by kernel_rfl) (fun _ _ _ h => h) (.inl ⟨rfl, fun V hV => ?_⟩) hS0 ?_
        · simp [go_sem, execOp]
        try simp only [List.setIfInBounds_toArray, List.set_cons_succ, List.set_cons_zero]
        refine wpAnyN_takeD (i := 4) (d := 23) (v := .bool false) (by decide) rfl rfl (by kernel_rfl) (by kernel_rfl) (by kernel_rfl) (fun _ _ _ h => h) (.inl ⟨rfl, fun V hV => ?_⟩) hS0 ?_
        · simp [go_sem, execOp, hne]
        try simp only [List.setIfInBounds_toArray, List.set_cons_succ, List.set_cons_zero]
        refine wpAnyN_takeD (i := 5) (d := 24) (v := .bool false) (by decide) rfl rfl (by kernel_rfl) (by kernel_rfl) (by kernel_rfl) (fun _ _ _ h => h) (.inl ⟨rfl, fun V hV => ?_⟩) hS0 ?_
        · simp [go_sem, execOp]
        try simp only [List.setIfInBounds_toArray, List.set_cons_succ, List.set_cons_zero]
        refine wpAnyN_takeD (i := 6) (d := 25) (v := .slice a2 L cap2) (by decide) rfl rfl (by kernel_rfl) (by kernel_rfl) (by kernel_rfl) (fun _ _ _ h => h) (.inl ⟨rfl, fun V hV => ?_⟩) hS0 ?_
        · simp [go_sem, execOp]
        try simp only [List.setIfInBounds_toArray, List.set_cons_succ, List.set_cons_zero]
        refine wpAnyN_takeD (i := 7) (d := 26) (v := .func (.func 114) #[] #[.pointer (some ⟨A, 0, none⟩)]) (by decide) rfl rfl (by kernel_rfl) (by kernel_rfl) (by kernel_rfl) (fun _ _ _ h => h) (.inl ⟨rfl, fun V hV => ?_⟩) hS0 ?_
        · simp [go_sem, execOp]
        try simp only [List.setIfInBounds_toArray, List.set_cons_succ, List.set_cons_zero]
        refine wpAnyF_step 8 rfl (by kernel_rfl) (fun K hK => ?_)
        go_simp
        go_at_call 84
        refine (HALL.out _ (B1.out.drew) hS0 l1).mono ?_
        rintro e w2 ⟨rfl, hb2⟩
        have hS1 : w2.cell? ⟨A, 0, none⟩ = some (.int .i64 total) := (hb2.cell (p := ⟨A, 0, none⟩) l1).trans hS0
        have B2 := hidE (B1.out.drew.trans (hb2.mono (show A ≤ w1.heap.size by omega)))
        have l2 : A < w2.heap.size := Nat.lt_of_lt_of_le l1 hb2.size
        clear hb2
        go_wp2_with fail
        refine hK.out _ _ (.inr hS1) ?_
        clear hK K
        try simp only [Act.put, List.setIfInBounds_toArray, List.set_cons_succ, List.set_cons_zero]
        refine wpAnyN_takeD (i := 9) (d := 28) (v := .bool true) (by decide) rfl rfl (by kernel_rfl) (by kernel_rfl) (by kernel_rfl) (fun _ _ _ h => h) (.inl ⟨rfl, fun V hV => ?_⟩) hS1 ?_
        · simp [go_sem, execOp]
        try simp only [List.setIfInBounds_toArray, List.set_cons_succ, List.set_cons_zero]
        refine wpAnyN_takeD (i := 10) (d := 29) (v := .bool true) (by decide) rfl rfl (by kernel_rfl) (by kernel_rfl) (by kernel_rfl) (fun _ _ _ h => h) (.inl ⟨rfl, fun V hV => ?_⟩) hS1 ?_
        · simp [go_sem, execOp]
        try simp only [List.setIfInBounds_toArray, List.set_cons_succ, List.set_cons_zero]
        refine wpAnyN_takeD (i := 11) (d := 30) (v := .bool true) (by decide) rfl rfl (by kernel_rfl) (by kernel_rfl) (by kernel_rfl) (fun _ _ _ h => h) (.inl ⟨rfl, fun V hV => ?_⟩) hS1 ?_
        · simp [go_sem, execOp]
        try simp only [List.setIfInBounds_toArray, List.set_cons_succ, List.set_cons_zero]
        refine wpAnyN_takeD (i := 12) (d := 31) (v := undef) (by decide) rfl rfl (by kernel_rfl) (by kernel_rfl) (by kernel_rfl) (fun _ _ _ h => h) (.inr ⟨by kernel_rfl, rfl⟩) hS1 ?_
        try simp only [List.setIfInBounds_toArray, List.set_cons_succ, List.set_cons_zero]
        refine wpAnyN_takeD (i := 13) (d := 32) (v := undef) (by decide) rfl rfl (by kernel_rfl) (by kernel_rfl) (by kernel_rfl) (fun _ _ _ h => h) (.inr ⟨by kernel_rfl, rfl⟩) hS1 ?_
        try simp only [List.setIfInBounds_toArray, List.set_cons_succ, List.set_cons_zero]
        refine wpAnyN_takeD (i := 14) (d := 33) (v := undef) (by decide) rfl rfl (by kernel_rfl) (by kernel_rfl) (by kernel_rfl) (fun _ _ _ h => h) (.inr ⟨by kernel_rfl, rfl⟩) hS1 ?_
        try simp only [List.setIfInBounds_toArray, List.set_cons_succ, List.set_cons_zero]
        refine wpAnyN_takeD (i := 15) (d := 34) (v := undef) (by decide) rfl rfl (by kernel_rfl) (by kernel_rfl) (by kernel_rfl) (fun _ _ _ h => h) (.inr ⟨by kernel_rfl, rfl⟩) hS1 ?_
        try simp only [List.setIfInBounds_toArray, List.set_cons_succ, List.set_cons_zero]
        refine wpAnyN_takeD (i := 16) (d := 35) (v := .bool true) (by decide) rfl rfl (by kernel_rfl) (by kernel_rfl) (by kernel_rfl) (fun _ _ _ h => h) (.inl ⟨rfl, fun V hV => ?_⟩) hS1 ?_
        · simp [go_sem, execOp]
        try simp only [List.setIfInBounds_toArray, List.set_cons_succ, List.set_cons_zero]
        refine wpAnyF_done (by kernel_rfl) ?_ _
        clear hS0
        go_wp2_with fail
        go_ret2
        exact ⟨rfl, by rw [HA.out]; exact B2.out⟩
      | true =>
        have hxs : ∀ v ∈ l, 0 ≤ v ∧ v ≤ total := by
          intro v hv
          have := List.all_eq_true.1 hal v hv
          unfold inR at this
          simpa using this
        have HXS := hidE hxs
        have HSM := hidE (fun (W : World) (hb : Below A w W) => sum_any W a2 cap2 l (by omega) (H2.out.below hb (by rw [HA.out]; exact Nat.le_refl _)) (fun k hk => by
          have h1 := isum_take_bd (by decide) (fun v hv => ⟨(hxs v hv).1, Int.le_trans (hxs v hv).2 z2.2⟩) k
          omega))
        by_cases hsm : isum l = total
        · unfold checkShE at hP1 hP2
          rw [if_neg (by rw [HZ.out]; simp), if_neg (by rw [hal]; simp [hlen, hsm])] at hP1 hP2
          obtain rfl : (0 : Int) = P2 := hP2
          rw [hal] at HALL
          rw [hsm] at HSM
          have hsn : (total != total) = false := by simp
          obtain ⟨W, hW⟩ : ∃ W, isum parts = W := ⟨_, rfl⟩
          have hWb : 0 ≤ W ∧ W ≤ 50000000 := by
            have := isum_take_bd (by decide) z3 parts.length
            rw [List.take_length] at this
            omega
          rw [hW] at HSP hP1
          have HPS := hidE (fun x hx => z3 x hx)
          have HLL := hidE (show l.length = parts.length from hlen)
          have HP1 := hidE hP1
          obtain ⟨L, hL⟩ : ∃ L, l.length = L := ⟨_, rfl⟩
          obtain ⟨n, hn⟩ : ∃ n, parts.length = n := ⟨_, rfl⟩
          rw [hn] at hlen HCH HSP z1
          rw [hL] at hlen HALL HSM
          have HLE := hidE hL
          have HNE := hidE hn
          have hne : ((L : Int) != (n : Int)) = false := by simp [hlen]
          rw [hL, hn]
          subst hlen
          clear hL hn hal z3 z4 hxs hW hsm hP1 HLL
          go_enter Tryz.func43, Tryz.ntmps43
          go_upto_region 1 with fail
          rw [← hW0]
          clear hW0
          have c0 : W0.cell? ⟨A, 0, none⟩ = some (.int .i64 total) := by rw [cell_of_row _ _ _ _ _ _ X0.out]; rfl
          go_wp2_with fail
          refine HCH.out.mono ?_
          rintro e w1 ⟨rfl, hb1⟩
          have B1 := hidE (B0.out.trans (hb1.mono (show A ≤ W0.heap.size by omega)))
          have X1 := hidE (blk_below hb1 l0 X0.out)
          have l1 := lt_of_block X1.out
          have c1 : w1.cell? ⟨A, 0, none⟩ = some (.int .i64 total) := by rw [cell_of_row _ _ _ _ _ _ X1.out]; rfl
          clear hb1 l0 c0
          go_upto_region 4 with fail
          have hS0 : w1.drew.cell? ⟨A, 0, none⟩ = some (.int .i64 total) := c1
          refine wp_region_F (S := fun V => V.cell? ⟨A, 0, none⟩ = some (.int .i64 total)) (last := 100) (by kernel_rfl) ?_
          refine wpAnyN_takeD (i := 0) (d := 19) (v := .slice a2 L cap2) (by decide) rfl rfl (by kernel_rfl) (by kernel_rfl) (by kernel_rfl) (fun _ _ _ h => h) (.inl ⟨rfl, fun V hV => ?_⟩) hS0 ?_
          · simp [go_sem, execOp]
          try simp only [List.setIfInBounds_toArray, List.set_cons_succ, List.set_cons_zero]
          refine wpAnyN_takeD (i := 1) (d := 20) (v := .int .i64 (L : Int)) (by decide) rfl rfl (by kernel_rfl) (by kernel_rfl) (by kernel_rfl) (fun _ _ _ h => h) (.inl ⟨rfl, fun V hV => ?_⟩) hS0 ?_
          · simp [go_sem, execOp]
          try simp only [List.setIfInBounds_toArray, List.set_cons_succ, List.set_cons_zero]
          refine wpAnyN_takeD (i := 2) (d := 21) (v := .slice a L cap) (by decide) rfl rfl (by kernel_rfl) (by kernel_rfl) (by kernel_rfl) (fun _ _ _ h => h) (.inl ⟨rfl, fun V hV => ?_⟩) hS0 ?_
          · simp [go_sem, execOp]
          try simp only [List.setIfInBounds_toArray, List.set_cons_succ, List.set_cons_zero]
          refine wpAnyN_takeD (i := 3) (d := 22) (v := .int .i64 (L : Int)) (by decide) rfl rfl (by kernel_rfl) (by kernel_rfl) (by kernel_rfl) (fun _ _ _ h => h) (.inl ⟨rfl, fun V hV => ?_⟩) hS0 ?_
          · simp [go_sem, execOp]
          try simp only [List.setIfInBounds_toArray, List.set_cons_succ, List.set_cons_zero]
          refine wpAnyN_takeD (i := 4) (d := 23) (v := .bool false) (by decide) rfl rfl (by kernel_rfl) (by kernel_rfl) (by kernel_rfl) (fun _ _ _ h => h) (.inl ⟨rfl, fun V hV => ?_⟩) hS0 ?_
          · simp [go_sem, execOp]
          try simp only [List.setIfInBounds_toArray, List.set_cons_succ, List.set_cons_zero]
          refine wpAnyN_takeD (i := 5) (d := 24) (v := .bool false) (by decide) rfl rfl (by kernel_rfl) (by kernel_rfl) (by kernel_rfl) (fun _ _ _ h => h) (.inl ⟨rfl, fun V hV => ?_⟩) hS0 ?_
          · simp [go_sem, execOp]
          try simp only [List.setIfInBounds_toArray, List.set_cons_succ, List.set_cons_zero]
          refine wpAnyN_takeD (i := 6) (d := 25) (v := .slice a2 L cap2) (by decide) rfl rfl (by kernel_rfl) (by kernel_rfl) (by kernel_rfl) (fun _ _ _ h => h) (.inl ⟨rfl, fun V hV => ?_⟩) hS0 ?_
          · simp [go_sem, execOp]
          try simp only [List.setIfInBounds_toArray, List.set_cons_succ, List.set_cons_zero]
          refine wpAnyN_takeD (i := 7) (d := 26) (v := .func (.func 114) #[] #[.pointer (some ⟨A, 0, none⟩)]) (by decide) rfl rfl (by kernel_rfl) (by kernel_rfl) (by kernel_rfl) (fun _ _ _ h => h) (.inl ⟨rfl, fun V hV => ?_⟩) hS0 ?_
          · simp [go_sem, execOp]
          try simp only [List.setIfInBounds_toArray, List.set_cons_succ, List.set_cons_zero]
          refine wpAnyF_step 8 rfl (by kernel_rfl) (fun K hK => ?_)
          go_simp
          go_at_call 84
          refine (HALL.out _ (B1.out.drew) hS0 l1).mono ?_
          rintro e w2 ⟨rfl, hb2⟩
          have hS1 : w2.cell? ⟨A, 0, none⟩ = some (.int .i64 total) := (hb2.cell (p := ⟨A, 0, none⟩) l1).trans hS0
          have B2 := hidE (B1.out.drew.trans (hb2.mono (show A ≤ w1.heap.size by omega)))
          have l2 : A < w2.heap.size := Nat.lt_of_lt_of_le l1 hb2.size
          clear hb2
          go_wp2_with fail
          refine hK.out _ _ (.inr hS1) ?_
          clear hK K
          try simp only [Act.put, List.setIfInBounds_toArray, List.set_cons_succ, List.set_cons_zero]
          refine wpAnyN_takeD (i := 9) (d := 28) (v := .bool false) (by decide) rfl rfl (by kernel_rfl) (by kernel_rfl) (by kernel_rfl) (fun _ _ _ h => h) (.inl ⟨rfl, fun V hV => ?_⟩) hS1 ?_
          · simp [go_sem, execOp]
          try simp only [List.setIfInBounds_toArray, List.set_cons_succ, List.set_cons_zero]
          refine wpAnyN_takeD (i := 10) (d := 29) (v := .bool false) (by decide) rfl rfl (by kernel_rfl) (by kernel_rfl) (by kernel_rfl) (fun _ _ _ h => h) (.inl ⟨rfl, fun V hV => ?_⟩) hS1 ?_
          · simp [go_sem, execOp]
          try simp only [List.setIfInBounds_toArray, List.set_cons_succ, List.set_cons_zero]
          refine wpAnyN_takeD (i := 11) (d := 30) (v := .bool false) (by decide) rfl rfl (by kernel_rfl) (by kernel_rfl) (by kernel_rfl) (fun _ _ _ h => h) (.inl ⟨rfl, fun V hV => ?_⟩) hS1 ?_
          · simp [go_sem, execOp]
          try simp only [List.setIfInBounds_toArray, List.set_cons_succ, List.set_cons_zero]
          refine wpAnyN_takeD (i := 12) (d := 31) (v := .slice a2 L cap2) (by decide) rfl rfl (by kernel_rfl) (by kernel_rfl) (by kernel_rfl) (fun _ _ _ h => h) (.inl ⟨rfl, fun V hV => ?_⟩) hS1 ?_
          · simp [go_sem, execOp]
          try simp only [List.setIfInBounds_toArray, List.set_cons_succ, List.set_cons_zero]
          refine wpAnyN_takeD (i := 14) (d := 33) (v := .int .i64 total) (by decide) rfl rfl (by kernel_rfl) (by kernel_rfl) (by kernel_rfl) (fun _ _ _ h => h) (.inl ⟨rfl, fun V hV => ?_⟩) hS1 ?_
          · simp [go_sem, execOp, hV]
          try simp only [List.setIfInBounds_toArray, List.set_cons_succ, List.set_cons_zero]
          refine wpAnyF_step 13 rfl (by kernel_rfl) (fun K hK => ?_)
          go_simp
          go_at_call 88
          refine (HSM.out _ B2.out).mono ?_
          rintro e w3 ⟨rfl, rfl⟩
          go_wp2_with fail
          refine hK.out _ _ (.inr hS1) ?_
          clear hK K
          try simp only [Act.put, List.setIfInBounds_toArray, List.set_cons_succ, List.set_cons_zero]
          refine wpAnyN_takeD (i := 15) (d := 34) (v := .bool false) (by decide) rfl rfl (by kernel_rfl) (by kernel_rfl) (by kernel_rfl) (fun _ _ _ h => h) (.inl ⟨rfl, fun V hV => ?_⟩) hS1 ?_
          · simp [go_sem, execOp]
          try simp only [List.setIfInBounds_toArray, List.set_cons_succ, List.set_cons_zero]
          refine wpAnyN_takeD (i := 16) (d := 35) (v := .bool false) (by decide) rfl rfl (by kernel_rfl) (by kernel_rfl) (by kernel_rfl) (fun _ _ _ h => h) (.inl ⟨rfl, fun V hV => ?_⟩) hS1 ?_
          · simp [go_sem, execOp]
          try simp only [List.setIfInBounds_toArray, List.set_cons_succ, List.set_cons_zero]
          refine wpAnyF_done (by kernel_rfl) ?_ _
          clear hS0
          obtain ⟨wA, rfl⟩ : ∃ W : World, W = w3 := ⟨w3, rfl⟩
          have HSPC := hidE (HSP.out wA B2.out)
          have HI1 := hidE (H.out.below B2.out (by rw [HA.out]; exact Nat.le_refl _))
          have HI2 := hidE (H2.out.below B2.out (by rw [HA.out]; exact Nat.le_refl _))
          have hc0 := hS1
          clear HSP H H2 HSM HALL HCH hS1 c1 X1 B1 l1
          go_wp2_with fail
          refine HSPC.out.mono ?_
          rintro e w4 ⟨rfl, rfl⟩
          clear HSPC
          go_wp2_with fail
          go_loopw [40] (fun i wr => ∃ k : Nat, k ≤ L ∧ i = .int .i64 k ∧ Hid (∀ j, j < k → offB W total (l.getD j 0) (parts.getD j 0) = false) ∧ Hid (OnlyG w4.heap.size w4 wr)) (fun i _ => L - (intOf i).toNat)
          case atStart => exact ⟨0, Nat.zero_le _, rfl, hidE (fun j h => by omega), hidE (OnlyG.refl _ _)⟩
          case round =>
            obtain ⟨k, hk, rfl, HF, HD⟩ := hrel
            obtain ⟨wx, rfl⟩ : ∃ W : World, W = wr := ⟨wr, rfl⟩
            by_cases hlt : k < L
            · obtain ⟨b1, o1, rfl, hb1, hc1⟩ := HI1.out.at (show k < parts.length by rw [HNE.out]; exact hlt)
              obtain ⟨b2, o2, rfl, hb2, hc2⟩ := HI2.out.at (show k < l.length by rw [HLE.out]; exact hlt)
              have hx := HXS.out _ (List.getElem_mem (show k < l.length by rw [HLE.out]; exact hlt))
              have hp := HPS.out _ (List.getElem_mem (show k < parts.length by rw [HNE.out]; exact hlt))
              have hox : offB W total (l.getD k 0) (parts.getD k 0) = (decide (0 < W) && decide (W ≤ max ((l[k]'(by rw [HLE.out]; exact hlt)) * W - total * (parts[k]'(by rw [HNE.out]; exact hlt))) (-((l[k]'(by rw [HLE.out]; exact hlt)) * W - total * (parts[k]'(by rw [HNE.out]; exact hlt)))))) := by rw [getD_get l 0 (show k < l.length by rw [HLE.out]; exact hlt), getD_get parts 0 (show k < parts.length by rw [HNE.out]; exact hlt)]; rfl
              obtain ⟨x, hxe⟩ : ∃ x, l[k]'(by rw [HLE.out]; exact hlt) = x := ⟨_, rfl⟩
              obtain ⟨p, hpe⟩ : ∃ p, parts[k]'(by rw [HNE.out]; exact hlt) = p := ⟨_, rfl⟩
              rw [hxe] at hc2 hx hox
              rw [hpe] at hc1 hp hox
              clear hxe hpe
              have q1 : wx.cell? ⟨b1, o1 + k, none⟩ = some (.int .i64 p) := (HD.out.cell (p := ⟨b1, o1 + k, none⟩) (Nat.ne_of_lt hb1)).trans hc1
              have q2 : wx.cell? ⟨b2, o2 + k, none⟩ = some (.int .i64 x) := (HD.out.cell (p := ⟨b2, o2 + k, none⟩) (Nat.ne_of_lt hb2)).trans hc2
              have q0 : wx.cell? ⟨A, 0, none⟩ = some (.int .i64 total) := (HD.out.cell (p := ⟨A, 0, none⟩) (Nat.ne_of_lt l2)).trans hc0
              have u1 : 0 ≤ x * W := Int.mul_nonneg hx.1 hWb.1
              have u2 : x * W ≤ 5000000000000000000 := Int.le_trans (Int.mul_le_mul (Int.le_trans hx.2 z2.2) hWb.2 hWb.1 (by decide)) (by decide)
              have v1 : 0 ≤ total * p := Int.mul_nonneg z2.1 hp.1
              have v2 : total * p ≤ 100000000000000000 := Int.le_trans (Int.mul_le_mul z2.2 hp.2 hp.1 (by decide)) (by decide)
              obtain ⟨m1, hm1⟩ : ∃ m, x * W = m := ⟨_, rfl⟩
              obtain ⟨m2, hm2⟩ : ∃ m, total * p = m := ⟨_, rfl⟩
              rw [hm1] at u1 u2 hox
              rw [hm2] at v1 v2 hox
              have hwm1 : IntKind.i64.wrap m1 = m1 := IntWalk.i64_in _ (by omega)
              have hwm2 : IntKind.i64.wrap m2 = m2 := IntWalk.i64_in _ (by omega)
              obtain ⟨D, hD⟩ : ∃ D, m1 - m2 = D := ⟨_, rfl⟩
              have hwD : IntKind.i64.wrap D = D := IntWalk.i64_in _ (by omega)
              have hwD2 : IntKind.i64.wrap (-D) = -D := IntWalk.i64_in _ (by omega)
              rw [hD] at hox
              obtain ⟨M, hM⟩ : ∃ M, max D (-D) = M := ⟨_, rfl⟩
              rw [hM] at hox
              have HOX := hidE hox
              clear hox
              by_cases hw0 : 0 < W
              · have hd0 : decide (W > 0) = true := by simp; omega
                have hd0' : decide (0 < W) = true := by simp; omega
                by_cases hbig : W ≤ M
                · have hd1 : decide (M ≥ W) = true := by simp; omega
                  have hd1' : decide (W ≤ M) = true := by simp; omega
                  have HAN := hidE (show (!((List.range L).any fun i => offB W total (l.getD i 0) (parts.getD i 0))) = false by
                    rw [Bool.not_eq_false', List.any_eq_true]
                    exact ⟨k, List.mem_range.2 hlt, by rw [HOX.out, hd0', hd1']; rfl⟩)
                  go_upto_region 10 with fail
                  go_quiet (fail)
                  go_wp2_with fail
                  go_ret2
                  exact ⟨by have := HP1.out; rw [HLE.out] at this; rw [HAN.out] at this; rw [← this]; rfl, by rw [HA.out]; exact B2.out.trans ((HD.out.trans (OnlyG.drewN _ _)).bl.mono (Nat.le_of_lt l2))⟩
                · have hd1 : decide (M ≥ W) = false := by simp; omega
                  have hd1' : decide (W ≤ M) = false := by simp; omega
                  have HF2 := hidE (fun j (hj : j < k + 1) => show offB W total (l.getD j 0) (parts.getD j 0) = false by
                    by_cases hjk : j < k
                    · exact HF.out j hjk
                    · obtain rfl : j = k := by omega
                      rw [HOX.out, hd1', Bool.and_false])
                  go_upto_region 10 with fail
                  go_quiet (fail)
                  go_wp2_with fail
                  go_roundw
                  case rel => exact ⟨k + 1, by omega, by go_num, HF2, hidE (HD.out.trans (OnlyG.drewN _ _))⟩
                  case measure => simp [intOf]; omega
              · have hd0 : decide (W > 0) = false := by simp; omega
                have hd0' : decide (0 < W) = false := by simp; omega
                have HF2 := hidE (fun j (hj : j < k + 1) => show offB W total (l.getD j 0) (parts.getD j 0) = false by
                  by_cases hjk : j < k
                  · exact HF.out j hjk
                  · obtain rfl : j = k := by omega
                    rw [HOX.out, hd0', Bool.false_and])
                go_upto_region 10 with fail
                go_quiet (fail)
                go_wp2_with fail
                go_roundw
                case rel => exact ⟨k + 1, by omega, by go_num, HF2, hidE (HD.out.trans (OnlyG.drewN _ _))⟩
                case measure => simp [intOf]; omega
            · obtain rfl : k = L := by omega
              have HAN := hidE (show (!((List.range k).any fun i => offB W total (l.getD i 0) (parts.getD i 0))) = true by
                rw [Bool.not_eq_true', List.any_eq_false]
                intro j hj
                rw [HF.out j (List.mem_range.1 hj)]; decide)
              go_wp2_with fail
              go_ret2
              exact ⟨by have := HP1.out; rw [HLE.out] at this; rw [HAN.out] at this; rw [← this]; rfl, by rw [HA.out]; exact B2.out.trans (HD.out.bl.mono (Nat.le_of_lt l2))⟩
        · unfold checkShE at hP1 hP2
          rw [if_neg (by rw [HZ.out]; simp), if_pos (.inr (.inr hsm))] at hP1 hP2
          obtain rfl : false = P1 := hP1
          obtain rfl : (0 : Int) = P2 := hP2
          rw [hal] at HALL
          obtain ⟨sl, hsl⟩ : ∃ sl, isum l = sl := ⟨_, rfl⟩
          rw [hsl] at hsm HSM
          have hsn : (sl != total) = true := by simpa using hsm
          obtain ⟨L, hL⟩ : ∃ L, l.length = L := ⟨_, rfl⟩
          obtain ⟨n, hn⟩ : ∃ n, parts.length = n := ⟨_, rfl⟩
          rw [hn] at hlen HCH
          rw [hL] at hlen HALL HSM
          have hne : ((L : Int) != (n : Int)) = false := by simp [hlen]
          rw [hL, hn]
          clear hlen hL hn hal z1 z2 z3 z4 HSP H H2 hxs hsl hsm
          go_enter Tryz.func43, Tryz.ntmps43
          go_upto_region 1 with fail
          rw [← hW0]
          clear hW0
          have c0 : W0.cell? ⟨A, 0, none⟩ = some (.int .i64 total) := by rw [cell_of_row _ _ _ _ _ _ X0.out]; rfl
          go_wp2_with fail
          refine HCH.out.mono ?_
          rintro e w1 ⟨rfl, hb1⟩
          have B1 := hidE (B0.out.trans (hb1.mono (show A ≤ W0.heap.size by omega)))
          have X1 := hidE (blk_below hb1 l0 X0.out)
          have l1 := lt_of_block X1.out
          have c1 : w1.cell? ⟨A, 0, none⟩ = some (.int .i64 total) := by rw [cell_of_row _ _ _ _ _ _ X1.out]; rfl
          clear hb1 l0 c0
          go_upto_region 4 with fail
          have hS0 : w1.drew.cell? ⟨A, 0, none⟩ = some (.int .i64 total) := c1
          refine wp_region_F (S := fun V => V.cell? ⟨A, 0, none⟩ = some (.int .i64 total)) (last := 100) (by kernel_rfl) ?_
          refine wpAnyN_takeD (i := 0) (d := 19) (v := .slice a2 L cap2) (by decide) rfl rfl (by kernel_rfl) (by kernel_rfl) (by kernel_rfl) (fun _ _ _ h => h) (.inl ⟨rfl, fun V hV => ?_⟩) hS0 ?_
          · simp [go_sem, execOp]
          try simp only [List.setIfInBounds_toArray, List.set_cons_succ, List.set_cons_zero]
          refine wpAnyN_takeD (i := 1) (d := 20) (v := .int .i64 (L : Int)) (by decide) rfl rfl (by kernel_rfl) (by kernel_rfl) (by kernel_rfl) (fun _ _ _ h => h) (.inl ⟨rfl, fun V hV => ?_⟩) hS0 ?_
          · simp [go_sem, execOp]
          try simp only [List.setIfInBounds_toArray, List.set_cons_succ, List.set_cons_zero]
          refine wpAnyN_takeD (i := 2) (d := 21) (v := .slice a n cap) (by decide) rfl rfl (by kernel_rfl) (by kernel_rfl) (by kernel_rfl) (fun _ _ _ h => h) (.inl ⟨rfl, fun V hV => ?_⟩) hS0 ?_
          · simp [go_sem, execOp]
          try simp only [List.setIfInBounds_toArray, List.set_cons_succ, List.set_cons_zero]
          refine wpAnyN_takeD (i := 3) (d := 22) (v := .int .i64 (n : Int)) (by decide) rfl rfl (by kernel_rfl) (by kernel_rfl) (by kernel_rfl) (fun _ _ _ h => h) (.inl ⟨rfl, fun V hV => ?_⟩) hS0 ?_
          · simp [go_sem, execOp]
          try simp only [List.setIfInBounds_toArray, List.set_cons_succ, List.set_cons_zero]
          refine wpAnyN_takeD (i := 4) (d := 23) (v := .bool false) (by decide) rfl rfl (by kernel_rfl) (by kernel_rfl) (by kernel_rfl) (fun _ _ _ h => h) (.inl ⟨rfl, fun V hV => ?_⟩) hS0 ?_
          · simp [go_sem, execOp, hne]
          try simp only [List.setIfInBounds_toArray, List.set_cons_succ, List.set_cons_zero]
          refine wpAnyN_takeD (i := 5) (d := 24) (v := .bool false) (by decide) rfl rfl (by kernel_rfl) (by kernel_rfl) (by kernel_rfl) (fun _ _ _ h => h) (.inl ⟨rfl, fun V hV => ?_⟩) hS0 ?_
          · simp [go_sem, execOp]
          try simp only [List.setIfInBounds_toArray, List.set_cons_succ, List.set_cons_zero]
          refine wpAnyN_takeD (i := 6) (d := 25) (v := .slice a2 L cap2) (by decide) rfl rfl (by kernel_rfl) (by kernel_rfl) (by kernel_rfl) (fun _ _ _ h => h) (.inl ⟨rfl, fun V hV => ?_⟩) hS0 ?_
          · simp [go_sem, execOp]
          try simp only [List.setIfInBounds_toArray, List.set_cons_succ, List.set_cons_zero]
          refine wpAnyN_takeD (i := 7) (d := 26) (v := .func (.func 114) #[] #[.pointer (some ⟨A, 0, none⟩)]) (by decide) rfl rfl (by kernel_rfl) (by kernel_rfl) (by kernel_rfl) (fun _ _ _ h => h) (.inl ⟨rfl, fun V hV => ?_⟩) hS0 ?_
          · simp [go_sem, execOp]
          try simp only [List.setIfInBounds_toArray, List.set_cons_succ, List.set_cons_zero]
          refine wpAnyF_step 8 rfl (by kernel_rfl) (fun K hK => ?_)
          go_simp
          go_at_call 84
          refine (HALL.out _ (B1.out.drew) hS0 l1).mono ?_
          rintro e w2 ⟨rfl, hb2⟩
          have hS1 : w2.cell? ⟨A, 0, none⟩ = some (.int .i64 total) := (hb2.cell (p := ⟨A, 0, none⟩) l1).trans hS0
          have B2 := hidE (B1.out.drew.trans (hb2.mono (show A ≤ w1.heap.size by omega)))
          have l2 : A < w2.heap.size := Nat.lt_of_lt_of_le l1 hb2.size
          clear hb2
          go_wp2_with fail
          refine hK.out _ _ (.inr hS1) ?_
          clear hK K
          try simp only [Act.put, List.setIfInBounds_toArray, List.set_cons_succ, List.set_cons_zero]
          refine wpAnyN_takeD (i := 9) (d := 28) (v := .bool false) (by decide) rfl rfl (by kernel_rfl) (by kernel_rfl) (by kernel_rfl) (fun _ _ _ h => h) (.inl ⟨rfl, fun V hV => ?_⟩) hS1 ?_
          · simp [go_sem, execOp]
          try simp only [List.setIfInBounds_toArray, List.set_cons_succ, List.set_cons_zero]
          refine wpAnyN_takeD (i := 10) (d := 29) (v := .bool false) (by decide) rfl rfl (by kernel_rfl) (by kernel_rfl) (by kernel_rfl) (fun _ _ _ h => h) (.inl ⟨rfl, fun V hV => ?_⟩) hS1 ?_
          · simp [go_sem, execOp]
          try simp only [List.setIfInBounds_toArray, List.set_cons_succ, List.set_cons_zero]
          refine wpAnyN_takeD (i := 11) (d := 30) (v := .bool false) (by decide) rfl rfl (by kernel_rfl) (by kernel_rfl) (by kernel_rfl) (fun _ _ _ h => h) (.inl ⟨rfl, fun V hV => ?_⟩) hS1 ?_
          · simp [go_sem, execOp]
          try simp only [List.setIfInBounds_toArray, List.set_cons_succ, List.set_cons_zero]
          refine wpAnyN_takeD (i := 12) (d := 31) (v := .slice a2 L cap2) (by decide) rfl rfl (by kernel_rfl) (by kernel_rfl) (by kernel_rfl) (fun _ _ _ h => h) (.inl ⟨rfl, fun V hV => ?_⟩) hS1 ?_
          · simp [go_sem, execOp]
          try simp only [List.setIfInBounds_toArray, List.set_cons_succ, List.set_cons_zero]
          refine wpAnyN_takeD (i := 14) (d := 33) (v := .int .i64 total) (by decide) rfl rfl (by kernel_rfl) (by kernel_rfl) (by kernel_rfl) (fun _ _ _ h => h) (.inl ⟨rfl, fun V hV => ?_⟩) hS1 ?_
          · simp [go_sem, execOp, hV]
          try simp only [List.setIfInBounds_toArray, List.set_cons_succ, List.set_cons_zero]
          refine wpAnyF_step 13 rfl (by kernel_rfl) (fun K hK => ?_)
          go_simp
          go_at_call 88
          refine (HSM.out _ B2.out).mono ?_
          rintro e w3 ⟨rfl, rfl⟩
          go_wp2_with fail
          refine hK.out _ _ (.inr hS1) ?_
          clear hK K
          try simp only [Act.put, List.setIfInBounds_toArray, List.set_cons_succ, List.set_cons_zero]
          refine wpAnyN_takeD (i := 15) (d := 34) (v := .bool true) (by decide) rfl rfl (by kernel_rfl) (by kernel_rfl) (by kernel_rfl) (fun _ _ _ h => h) (.inl ⟨rfl, fun V hV => ?_⟩) hS1 ?_
          · simp [go_sem, execOp, hsn]
          try simp only [List.setIfInBounds_toArray, List.set_cons_succ, List.set_cons_zero]
          refine wpAnyN_takeD (i := 16) (d := 35) (v := .bool true) (by decide) rfl rfl (by kernel_rfl) (by kernel_rfl) (by kernel_rfl) (fun _ _ _ h => h) (.inl ⟨rfl, fun V hV => ?_⟩) hS1 ?_
          · simp [go_sem, execOp]
          try simp only [List.setIfInBounds_toArray, List.set_cons_succ, List.set_cons_zero]
          refine wpAnyF_done (by kernel_rfl) ?_ _
          clear hS0
          go_wp2_with fail
          go_ret2
          exact ⟨rfl, by rw [HA.out]; exact B2.out⟩
    · unfold checkShE at hP1 hP2
      rw [if_neg (by rw [HZ.out]; simp), if_pos (.inl hlen)] at hP1 hP2
      obtain rfl : false = P1 := hP1
      obtain rfl : (0 : Int) = P2 := hP2
      obtain ⟨L, hL⟩ : ∃ L, l.length = L := ⟨_, rfl⟩
      obtain ⟨n, hn⟩ : ∃ n, parts.length = n := ⟨_, rfl⟩
      rw [hn] at hlen HCH
      rw [hL] at hlen
      have hne : ((L : Int) != (n : Int)) = true := by simp; omega
      rw [hL, hn]
      clear hlen hL hn z1 z2 z3 z4 HSP H H2 HALL
      go_enter Tryz.func43, Tryz.ntmps43
      go_upto_region 1 with fail
      rw [← hW0]
      clear hW0
      have c0 : W0.cell? ⟨A, 0, none⟩ = some (.int .i64 total) := by rw [cell_of_row _ _ _ _ _ _ X0.out]; rfl
      go_wp2_with fail
      refine HCH.out.mono ?_
      rintro e w1 ⟨rfl, hb1⟩
      have B1 := hidE (B0.out.trans (hb1.mono (show A ≤ W0.heap.size by omega)))
      have X1 := hidE (blk_below hb1 l0 X0.out)
      have l1 := lt_of_block X1.out
      have c1 : w1.cell? ⟨A, 0, none⟩ = some (.int .i64 total) := by rw [cell_of_row _ _ _ _ _ _ X1.out]; rfl
      clear hb1 l0 c0
      go_upto_region 4 with fail
      have hS0 : w1.drew.cell? ⟨A, 0, none⟩ = some (.int .i64 total) := c1
      refine wp_region_F (S := fun V => V.cell? ⟨A, 0, none⟩ = some (.int .i64 total)) (last := 100) (by kernel_rfl) ?_
      refine wpAnyN_takeD (i := 0) (d := 19) (v := .slice a2 L cap2) (by decide) rfl rfl (by kernel_rfl) (by kernel_rfl) (by kernel_rfl) (fun _ _ _ h => h) (.inl ⟨rfl, fun V hV => ?_⟩) hS0 ?_
      · simp [go_sem, execOp]
      try simp only [List.setIfInBounds_toArray, List.set_cons_succ, List.set_cons_zero]
      refine wpAnyN_takeD (i := 1) (d := 20) (v := .int .i64 (L : Int)) (by decide) rfl rfl (by kernel_rfl) (by kernel_rfl) (by kernel_rfl) (fun _ _ _ h => h) (.inl ⟨rfl, fun V hV => ?_⟩) hS0 ?_
      · simp [go_sem, execOp]
      try simp only [List.setIfInBounds_toArray, List.set_cons_succ, List.set_cons_zero]
      refine wpAnyN_takeD (i := 2) (d := 21) (v := .slice a n cap) (by decide) rfl rfl (by kernel_rfl) (by kernel_rfl) (by kernel_rfl) (fun _ _ _ h => h) (.inl ⟨rfl, fun V hV => ?_⟩) hS0 ?_
      · simp [go_sem, execOp]
      try simp only [List.setIfInBounds_toArray, List.set_cons_succ, List.set_cons_zero]
      refine wpAnyN_takeD (i := 3) (d := 22) (v := .int .i64 (n : Int)) (by decide) rfl rfl (by kernel_rfl) (by kernel_rfl) (by kernel_rfl) (fun _ _ _ h => h) (.inl ⟨rfl, fun V hV => ?_⟩) hS0 ?_
      · simp [go_sem, execOp]
      try simp only [List.setIfInBounds_toArray, List.set_cons_succ, List.set_cons_zero]
      refine wpAnyN_takeD (i := 4) (d := 23) (v := .bool true) (by decide) rfl rfl (by kernel_rfl) (by kernel_rfl) (by kernel_rfl) (fun _ _ _ h => h) (.inl ⟨rfl, fun V hV => ?_⟩) hS0 ?_
      · simp [go_sem, execOp, hne]
      try simp only [List.setIfInBounds_toArray, List.set_cons_succ, List.set_cons_zero]
      refine wpAnyN_takeD (i := 5) (d := 24) (v := .bool true) (by decide) rfl rfl (by kernel_rfl) (by kernel_rfl) (by kernel_rfl) (fun _ _ _ h => h) (.inl ⟨rfl, fun V hV => ?_⟩) hS0 ?_
      · simp [go_sem, execOp]
      try simp only [List.setIfInBounds_toArray, List.set_cons_succ, List.set_cons_zero]
      refine wpAnyN_takeD (i := 6) (d := 25) (v := undef) (by decide) rfl rfl (by kernel_rfl) (by kernel_rfl) (by kernel_rfl) (fun _ _ _ h => h) (.inr ⟨by kernel_rfl, rfl⟩) hS0 ?_
      try simp only [List.setIfInBounds_toArray, List.set_cons_succ, List.set_cons_zero]
      refine wpAnyN_takeD (i := 7) (d := 26) (v := undef) (by decide) rfl rfl (by kernel_rfl) (by kernel_rfl) (by kernel_rfl) (fun _ _ _ h => h) (.inr ⟨by kernel_rfl, rfl⟩) hS0 ?_
      try simp only [List.setIfInBounds_toArray, List.set_cons_succ, List.set_cons_zero]
      refine wpAnyN_takeD (i := 8) (d := 27) (v := undef) (by decide) rfl rfl (by kernel_rfl) (by kernel_rfl) (by kernel_rfl) (fun _ _ _ h => h) (.inr ⟨by kernel_rfl, rfl⟩) hS0 ?_
      try simp only [List.setIfInBounds_toArray, List.set_cons_succ, List.set_cons_zero]
      refine wpAnyN_takeD (i := 9) (d := 28) (v := undef) (by decide) rfl rfl (by kernel_rfl) (by kernel_rfl) (by kernel_rfl) (fun _ _ _ h => h) (.inr ⟨by kernel_rfl, rfl⟩) hS0 ?_
      try simp only [List.setIfInBounds_toArray, List.set_cons_succ, List.set_cons_zero]
      refine wpAnyN_takeD (i := 10) (d := 29) (v := .bool true) (by decide) rfl rfl (by kernel_rfl) (by kernel_rfl) (by kernel_rfl) (fun _ _ _ h => h) (.inl ⟨rfl, fun V hV => ?_⟩) hS0 ?_
      · simp [go_sem, execOp]
      try simp only [List.setIfInBounds_toArray, List.set_cons_succ, List.set_cons_zero]
      refine wpAnyN_takeD (i := 11) (d := 30) (v := .bool true) (by decide) rfl rfl (by kernel_rfl) (by kernel_rfl) (by kernel_rfl) (fun _ _ _ h => h) (.inl ⟨rfl, fun V hV => ?_⟩) hS0 ?_
      · simp [go_sem, execOp]
      try simp only [List.setIfInBounds_toArray, List.set_cons_succ, List.set_cons_zero]
      refine wpAnyN_takeD (i := 12) (d := 31) (v := undef) (by decide) rfl rfl (by kernel_rfl) (by kernel_rfl) (by kernel_rfl) (fun _ _ _ h => h) (.inr ⟨by kernel_rfl, rfl⟩) hS0 ?_
      try simp only [List.setIfInBounds_toArray, List.set_cons_succ, List.set_cons_zero]
      refine wpAnyN_takeD (i := 13) (d := 32) (v := undef) (by decide) rfl rfl (by kernel_rfl) (by kernel_rfl) (by kernel_rfl) (fun _ _ _ h => h) (.inr ⟨by kernel_rfl, rfl⟩) hS0 ?_
      try simp only [List.setIfInBounds_toArray, List.set_cons_succ, List.set_cons_zero]
      refine wpAnyN_takeD (i := 14) (d := 33) (v := undef) (by decide) rfl rfl (by kernel_rfl) (by kernel_rfl) (by kernel_rfl) (fun _ _ _ h => h) (.inr ⟨by kernel_rfl, rfl⟩) hS0 ?_
      try simp only [List.setIfInBounds_toArray, List.set_cons_succ, List.set_cons_zero]
      refine wpAnyN_takeD (i := 15) (d := 34) (v := undef) (by decide) rfl rfl (by kernel_rfl) (by kernel_rfl) (by kernel_rfl) (fun _ _ _ h => h) (.inr ⟨by kernel_rfl, rfl⟩) hS0 ?_
      try simp only [List.setIfInBounds_toArray, List.set_cons_succ, List.set_cons_zero]
      refine wpAnyN_takeD (i := 16) (d := 35) (v := .bool true) (by decide) rfl rfl (by kernel_rfl) (by kernel_rfl) (by kernel_rfl) (fun _ _ _ h => h) (.inl ⟨rfl, fun V hV => ?_⟩) hS0 ?_
      · simp [go_sem, execOp]
      try simp only [List.setIfInBounds_toArray, List.set_cons_succ, List.set_cons_zero]
      refine wpAnyF_done (by kernel_rfl) ?_ _
      clear hS0
      go_wp2_with fail
      go_ret2
      exact ⟨rfl, by rw [HA.out]; exact B1.out.drew⟩
  · unfold checkShE at hP1 hP2
    rw [if_pos hz] at hP1 hP2
    obtain rfl : false = P1 := hP1
    have HP2 := hidE hP2
    obtain ⟨z, hz2⟩ : ∃ z, checkSharesP total parts = z := ⟨_, rfl⟩
    rw [hz2] at hch HP2 hz
    have HP3 := hidE (show z = P2 from HP2.out)
    have HCH := hidE hch
    have hz3 : (z != 0) = true := by simpa using hz
    clear hch hz2 hP2 HP2 H H2
    go_enter Tryz.func43, Tryz.ntmps43
    go_upto_region 1 with fail
    rw [← hW0]
    clear hW0
    have c0 : W0.cell? ⟨A, 0, none⟩ = some (.int .i64 total) := by rw [cell_of_row _ _ _ _ _ _ X0.out]; rfl
    go_wp2_with fail
    refine HCH.out.mono ?_
    rintro e w1 ⟨rfl, hb1⟩
    have B1 := hidE (B0.out.trans (hb1.mono (show A ≤ W0.heap.size by omega)))
    clear hb1
    go_wp2_with fail
    go_ret2
    exact ⟨by rw [← HP3.out]; rfl, by rw [HA.out]; exact B1.out⟩
end Go.Proofs.YthjmkmjojlfejaaGreat

namespace Go.Proofs.YthjmkmjojlfejaaGreat
open Go Go.RowKit Go.Shelf
theorem within5_any (n a b : Int) (w : World) : Calls Tryz.prog 94 #[.int .i64 n, .int .i64 a, .int .i64 b] w fun e w' => e = .returned (.bool (inR n a b)) ∧ w = w' := by
  unfold inR
  go_enter Tryz.func94, Tryz.ntmps94
  go_wp2
  all_goals go_ret
  all_goals refine ⟨?_, rfl⟩
  all_goals simp [*]
  all_goals omega
set_option maxHeartbeats 1000000 in
theorem sum5_any (w : World) (a : Option Addr) (cap : Nat) (xs : List Int) (hl : xs.length ≤ 1000000) (h : IntsAt w a xs) (hb : ∀ k, k ≤ xs.length → -9000000000000000000 ≤ isum (xs.take k) ∧ isum (xs.take k) ≤ 9000000000000000000) :
    Calls Tryz.prog 96 #[.slice a xs.length cap] w fun e w' => e = .returned (.int .i64 (isum xs)) ∧ w' = w := by
  have H := hidE h
  have HB := hidE hb
  clear h hb
  go_enter Tryz.func96, Tryz.ntmps96
  go_wp2_with fail
  go_loopw [3, 4] (fun s i wr => ∃ k : Nat, k ≤ xs.length ∧ s = .int .i64 (isum (xs.take k)) ∧ i = .int .i64 k ∧ wr = w) (fun _ i _ => xs.length - (intOf i).toNat)
  case atStart => exact ⟨0, Nat.zero_le _, rfl, rfl, rfl⟩
  case round =>
    obtain ⟨k, hk, rfl, rfl, rfl⟩ := hrel
    have h1 := HB.out k hk
    by_cases hlt : k < xs.length
    · obtain ⟨b, off, rfl, hbl, hc⟩ := H.out.at hlt
      have h2 := HB.out (k + 1) hlt
      rw [isum_take _ hlt] at h2
      have HS := hidE (isum_take xs hlt)
      obtain ⟨q, hq⟩ : ∃ q, xs[k] = q := ⟨_, rfl⟩
      rw [hq] at hc HS h2
      clear hq
      obtain ⟨z, hz⟩ : ∃ z, isum (xs.take k) = z := ⟨_, rfl⟩
      rw [hz] at HS h1 h2 ⊢
      clear hz
      have hw : IntKind.i64.wrap (z + q) = z + q := IntWalk.i64_in _ (by omega)
      go_wp2_with fail
      go_roundw
      case rel => first | exact ⟨k + 1, by omega, by rw [HS.out], by go_num, rfl⟩ | exact ⟨k + 1, by omega, by rw [HS.out], by go_num, trivial⟩
      case measure => simp [intOf]; omega
    · obtain rfl : k = xs.length := by omega
      go_wp2_with fail
      go_ret
      exact ⟨by simp only [List.take_length]; rfl, rfl⟩
set_option maxHeartbeats 2000000 in
theorem shared_any (w : World) (total : Int) (a : Option Addr) (cap : Nat) (parts : List Int) (hl : parts.length ≤ 9223372036854775807) (h : IntsAt w a parts) :
    Calls Tryz.prog 93 #[.int .i64 total, .slice a parts.length cap] w fun e w' => e = .returned (.int .i64 (checkSharesP total parts)) ∧ w' = w := by
  obtain ⟨P, hP⟩ : ∃ P, checkSharesP total parts = P := ⟨_, rfl⟩
  rw [hP]
  have H := hidE h
  clear h
  by_cases h1 : 50 < parts.length
  · unfold checkSharesP at hP
    rw [if_pos h1] at hP
    subst hP
    have hd : decide ((parts.length : Int) > 50) = true := by simp; omega
    go_enter Tryz.func93, Tryz.ntmps93
    go_wp2_with fail
    go_ret
    exact ⟨rfl, rfl⟩
  · have hd : decide ((parts.length : Int) > 50) = false := by simp; omega
    have hd2 : decide (50 < parts.length) = false := by simp; omega
    have HI := hidE (fun W => within5_any total 0 100000000000 W)
    have HW := hidE (fun (x : Int) W => within5_any x 0 1000000 W)
    obtain ⟨r0, hr0⟩ : ∃ r, inR total 0 100000000000 = r := ⟨_, rfl⟩
    rw [hr0] at HI
    have HP := hidE hP
    have HR0 := hidE hr0
    clear hP hr0
    go_enter Tryz.func93, Tryz.ntmps93
    go_wp2_with fail
    refine (HI.out _).mono ?_
    rintro e w1 ⟨rfl, rfl⟩
    go_wp2_with fail
    go_loopw [5, 6] (fun b i wr => ∃ k : Nat, k ≤ parts.length ∧ b = .bool (r0 && (parts.take k).all fun v => inR v 0 1000000) ∧ i = .int .i64 k ∧ wr = w) (fun _ i _ => parts.length - (intOf i).toNat)
    case atStart => exact ⟨0, Nat.zero_le _, by simp, rfl, rfl⟩
    case round =>
      obtain ⟨k, hk, rfl, rfl, rfl⟩ := hrel
      by_cases hlt : k < parts.length
      · obtain ⟨b, off, rfl, hbl, hc⟩ := H.out.at hlt
        have HS := hidE (show ((parts.take (k + 1)).all fun v => inR v 0 1000000) = (((parts.take k).all fun v => inR v 0 1000000) && inR parts[k] 0 1000000) by
          rw [List.take_succ_eq_append_getElem hlt, List.all_append]; simp)
        obtain ⟨x, hx⟩ : ∃ x, parts[k] = x := ⟨_, rfl⟩
        rw [hx] at hc HS
        obtain ⟨q, hq⟩ : ∃ q, inR x 0 1000000 = q := ⟨_, rfl⟩
        have HC := hidE (fun W => HW.out x W)
        rw [hq] at HC HS
        obtain ⟨o, ho⟩ : ∃ o, ((parts.take k).all fun v => inR v 0 1000000) = o := ⟨_, rfl⟩
        rw [ho] at HS ⊢
        clear hx hq ho
        obtain ⟨t, ht⟩ : ∃ t, (r0 && o) = t := ⟨_, rfl⟩
        rw [ht]
        have HT := hidE (show (r0 && ((parts.take (k + 1)).all fun v => inR v 0 1000000)) = (t && q) by rw [HS.out, ← ht, Bool.and_assoc])
        clear ht
        cases t with
        | false =>
          go_wp2_with fail
          go_roundw
          case rel => first | exact ⟨k + 1, by omega, by rw [HT.out]; rfl, by go_num, rfl⟩ | exact ⟨k + 1, by omega, by rw [HT.out]; rfl, by go_num, trivial⟩
          case measure => simp [intOf]; omega
        | true =>
          go_wp2_with fail
          refine (HC.out _).mono ?_
          rintro e w2 ⟨rfl, rfl⟩
          go_wp2_with fail
          go_roundw
          case rel => first | exact ⟨k + 1, by omega, by rw [HT.out]; rfl, by go_num, rfl⟩ | exact ⟨k + 1, by omega, by rw [HT.out]; rfl, by go_num, trivial⟩
          case measure => simp [intOf]; omega
      · obtain rfl : k = parts.length := by omega
        rw [List.take_length]
        have HPE := hidE (show (if (r0 && parts.all fun v => inR v 0 1000000) = true then (if isum parts = 0 ∧ total ≠ 0 then 51 else 0) else 1) = P by
          rw [← HP.out]
          unfold checkSharesP
          rw [if_neg h1, HR0.out]
          cases r0 <;> cases (parts.all fun v => inR v 0 1000000) <;> simp)
        have HIM := hidE (show (r0 && parts.all fun v => inR v 0 1000000) = true → (0 ≤ total ∧ ∀ x ∈ parts, 0 ≤ x ∧ x ≤ 1000000) by
          intro hq
          rw [Bool.and_eq_true] at hq
          refine ⟨?_, fun x hx => ?_⟩
          · have := HR0.out
            rw [hq.1] at this
            unfold inR at this
            simp at this
            exact this.1
          · have := List.all_eq_true.1 hq.2 x hx
            unfold inR at this
            simpa using this)
        obtain ⟨t, ht⟩ : ∃ t, (r0 && parts.all fun v => inR v 0 1000000) = t := ⟨_, rfl⟩
        rw [ht] at HPE HIM ⊢
        clear ht HP HR0 HI HW
        cases t with
        | false =>
          have HP1 := hidE (show 1 = P from HPE.out)
          go_wp2_with fail
          go_ret
          exact ⟨by rw [← HP1.out]; rfl, rfl⟩
        | true =>
          obtain ⟨ht0, hp⟩ := HIM.out rfl
          have HSM := hidE (fun W hW => sum5_any W a cap parts (by omega) hW (fun k hk => by
            have := isum_take_bd (by decide) hp k
            omega))
          have HPQ := hidE (show (if isum parts = 0 ∧ total ≠ 0 then (51 : Int) else 0) = P from HPE.out)
          obtain ⟨s, hs⟩ : ∃ s, isum parts = s := ⟨_, rfl⟩
          rw [hs] at HSM HPQ
          clear hs HPE HIM hp
          by_cases hs0 : s = 0
          · subst hs0
            by_cases ht1 : total = 0
            · subst ht1
              have HP1 := hidE (show 0 = P by rw [← HPQ.out]; simp)
              go_wp2_with fail
              refine (HSM.out _ H.out).mono ?_
              rintro e w3 ⟨rfl, rfl⟩
              go_wp2_with fail
              go_ret
              exact ⟨by rw [← HP1.out]; rfl, rfl⟩
            · have HP1 := hidE (show 51 = P by rw [← HPQ.out, if_pos ⟨rfl, ht1⟩])
              have hd3 : decide (total > 0) = true := by simp; omega
              have hd4 : decide (0 < total) = true := by simp; omega
              go_wp2_with fail
              refine (HSM.out _ H.out).mono ?_
              rintro e w3 ⟨rfl, rfl⟩
              go_wp2_with fail
              go_ret
              exact ⟨by rw [← HP1.out]; rfl, rfl⟩
          · have HP1 := hidE (show 0 = P by rw [← HPQ.out, if_neg (fun h => hs0 h.1)])
            have hs1 : (s == 0) = false := by simpa using hs0
            go_wp2_with fail
            refine (HSM.out _ H.out).mono ?_
            rintro e w3 ⟨rfl, rfl⟩
            go_wp2_with fail
            go_ret
            exact ⟨by rw [← HP1.out]; rfl, rfl⟩
end Go.Proofs.YthjmkmjojlfejaaGreat

namespace Go.Proofs.YthjmkmjojlfejaaGreat
/-- One look at a remainder: the greatest so far. -/
def best1 (cut : List Int) (b : Int) (i : Nat) : Int := if 0 < cut.getD i 0 ∧ (b < 0 ∨ cut.getD b.toNat 0 < cut.getD i 0) then i else b
def bestTo (cut : List Int) (k : Nat) : Int := (List.range k).foldl (best1 cut) (-1)
theorem bestTo_succ (cut : List Int) (k : Nat) : bestTo cut (k + 1) = best1 cut (bestTo cut k) k := by
  unfold bestTo; rw [List.range_succ, List.foldl_append]; rfl
theorem bestTo_spec (cut : List Int) (k : Nat) : (bestTo cut k = -1 ∧ ∀ j, j < k → cut.getD j 0 ≤ 0) ∨
    ∃ i : Nat, i < k ∧ bestTo cut k = i ∧ 0 < cut.getD i 0 ∧ ∀ j, j < k → cut.getD j 0 < cut.getD i 0 ∨ (cut.getD j 0 = cut.getD i 0 ∧ i ≤ j) := by
  induction k with
  | zero => exact .inl ⟨rfl, fun j hj => by omega⟩
  | succ k ih =>
    rw [bestTo_succ]
    rcases ih with ⟨h1, h2⟩ | ⟨i, hi, h1, h2, h3⟩
    · rw [h1]
      unfold best1
      by_cases h : 0 < cut.getD k 0
      · rw [if_pos ⟨h, .inl (by omega)⟩]
        refine .inr ⟨k, by omega, rfl, h, fun j hj => ?_⟩
        by_cases hjk : j = k
        · subst hjk; exact .inr ⟨rfl, Nat.le_refl _⟩
        · have := h2 j (by omega); exact .inl (by omega)
      · rw [if_neg (fun q => h q.1)]
        refine .inl ⟨rfl, fun j hj => ?_⟩
        by_cases hjk : j = k
        · subst hjk; omega
        · exact h2 j (by omega)
    · rw [h1]
      unfold best1
      by_cases h : cut.getD i 0 < cut.getD k 0
      · rw [if_pos ⟨by omega, .inr (by rw [Int.toNat_natCast]; exact h)⟩]
        refine .inr ⟨k, by omega, rfl, by omega, fun j hj => ?_⟩
        by_cases hjk : j = k
        · subst hjk; exact .inr ⟨rfl, Nat.le_refl _⟩
        · rcases h3 j (by omega) with q | ⟨q, _⟩ <;> exact .inl (by omega)
      · rw [if_neg (fun q => q.2.elim (fun q => by omega) (fun q => h (by rw [Int.toNat_natCast] at q; exact q)))]
        refine .inr ⟨i, by omega, rfl, h2, fun j hj => ?_⟩
        by_cases hjk : j = k
        · subst hjk
          rcases Int.lt_or_eq_of_le (Int.not_lt.1 h) with q | q
          · exact .inl q
          · exact .inr ⟨q, by omega⟩
        · exact h3 j (by omega)
theorem bestTo_eq {cut : List Int} {k i : Nat} (hi : i < k) (h0 : 0 < cut.getD i 0) (h : ∀ j, j < k → cut.getD j 0 < cut.getD i 0 ∨ (cut.getD j 0 = cut.getD i 0 ∧ i ≤ j)) : bestTo cut k = i := by
  rcases bestTo_spec cut k with ⟨_, h2⟩ | ⟨m, hm, h1, _, h3⟩
  · have := h2 i hi; omega
  · rw [h1]
    have a := h m hm
    have b := h3 i hi
    omega
theorem zeros_len (l : List Nat) : ∀ c : List Int, (zeros l c).length = c.length := by
  induction l with
  | nil => intro c; rfl
  | cons i l ih => intro c; unfold zeros; rw [List.foldl_cons]; exact (ih _).trans (by simp)
theorem zeros_get : ∀ (l : List Nat) (c : List Int) (j : Nat), (zeros l c).getD j 0 = if j ∈ l then 0 else c.getD j 0
  | [], c, j => by simp [zeros]
  | i :: l, c, j => by
    have e : zeros (i :: l) c = zeros l (c.set i 0) := rfl
    rw [e, zeros_get l (c.set i 0) j]
    by_cases h : i = j
    · subst h
      by_cases h2 : i ∈ l
      · simp [h2]
      · simp only [h2, if_false, List.mem_cons, true_or, if_true]
        rw [List.getD_eq_getElem?_getD, List.getElem?_set]
        by_cases h3 : i < c.length <;> simp [h3]
    · have h' : ¬ j = i := fun e => h e.symm
      simp only [List.mem_cons, h', false_or]
      rw [List.getD_eq_getElem?_getD, List.getD_eq_getElem?_getD, List.getElem?_set_ne h]
theorem best_ord {total : Int} {parts : List Int} (h : ShOk total parts) {k : Nat} (hk : (k : Int) < shLeft total parts) (hkl : k < (remOrd (shRem total parts)).length) :
    bestTo (zeros ((remOrd (shRem total parts)).take k) (shRem total parts)) (zeros ((remOrd (shRem total parts)).take k) (shRem total parts)).length = (remOrd (shRem total parts))[k] := by
  have hkl' := hkl
  have hpos := ord_pos h hk hkl
  have hsorted := remOrd_sorted (shRem total parts)
  have hnd := remOrd_nodup (shRem total parts)
  have hmem : ∀ j, j < (shRem total parts).length → j ∈ remOrd (shRem total parts) := fun j hj => (remOrd_perm _).mem_iff.2 (List.mem_range.2 hj)
  have hlt := fun i (hi : i ∈ remOrd (shRem total parts)) => remOrd_lt hi
  obtain ⟨rest, hr⟩ : ∃ r, shRem total parts = r := ⟨_, rfl⟩
  simp only [hr] at *
  obtain ⟨ord, ho⟩ : ∃ o, remOrd rest = o := ⟨_, rfl⟩
  simp only [ho] at *
  have hnot : ∀ m (hm : m < ord.length), k ≤ m → ord[m] ∉ ord.take k := by
    intro m hm hkm hin
    obtain ⟨q, hq, e⟩ := List.getElem_of_mem hin
    rw [List.getElem_take] at e
    rw [List.length_take] at hq
    exact List.pairwise_iff_getElem.1 hnd q m (by omega) hm (by omega) e
  refine bestTo_eq ?_ ?_ fun j hj => ?_
  · rw [zeros_len]; exact hlt _ (List.getElem_mem hkl')
  · rw [zeros_get, if_neg (hnot k hkl' (Nat.le_refl _))]; exact hpos
  · rw [zeros_len] at hj
    rw [zeros_get, zeros_get, if_neg (hnot k hkl' (Nat.le_refl _))]
    by_cases hin : j ∈ ord.take k
    · rw [if_pos hin]; exact .inl hpos
    · rw [if_neg hin]
      obtain ⟨m, hm, e⟩ := List.getElem_of_mem (hmem j hj)
      have hkm : k ≤ m := by
        apply Nat.not_lt.1
        intro q
        exact hin (by rw [← e]; exact List.mem_take_iff_getElem.2 ⟨m, by omega, rfl⟩)
      rcases Nat.eq_or_lt_of_le hkm with q | q
      · subst q; rw [e]; exact .inr ⟨rfl, Nat.le_refl _⟩
      · have := List.pairwise_iff_getElem.1 hsorted k m hkl' hm q
        simp only [remLe, Bool.or_eq_true, Bool.and_eq_true, decide_eq_true_eq] at this
        rw [e] at this
        omega
end Go.Proofs.YthjmkmjojlfejaaGreat

namespace Go.Proofs.YthjmkmjojlfejaaGreat
open Go Go.RowKit Go.Shelf
theorem map_take_succ (f : Int → Int) (l : List Int) {k : Nat} (hk : k < l.length) : (l.take (k + 1)).map f = (l.take k).map f ++ [f l[k]] := by
  rw [List.take_succ_eq_append_getElem hk, List.map_append]; rfl
theorem zeros_succ (ord : List Nat) (c : List Int) {k : Nat} (hk : k < ord.length) : zeros (ord.take (k + 1)) c = (zeros (ord.take k) c).set ord[k] 0 := by
  rw [List.take_succ_eq_append_getElem hk]; unfold zeros; rw [List.foldl_append]; rfl
theorem intsV_set (l : List Int) (i : Nat) (v : Int) : (intsV l).set i (.int .i64 v) = intsV (l.set i v) := by simp [intsV, List.map_set]
theorem intsV_get {l : List Int} {i : Nat} (h : i < l.length) : (intsV l)[i]? = some (.int .i64 (l.getD i 0)) := by simp [intsV, h]
theorem own_later {w w' : World} {base : Nat} {e : TypeId} {k : Nat} {v : Value} {n : Nat} {cs : List Value} (h : w.ownsRow base e k v n cs) (hb : Below w.heap.size w w') : w'.ownsRow base e k v n cs := by
  rcases h with ⟨h1, h2 | ⟨gb, cp, cur, e1, e2, hh, e3⟩⟩
  · exact ⟨h1, .inl h2⟩
  · exact ⟨h1, .inr ⟨gb, cp, cur, e1, e2, blk_below hb (lt_of_block hh) hh, e3⟩⟩
set_option maxRecDepth 100000 in
set_option maxHeartbeats 16000000 in
theorem shares5_any (w : World) (total : Int) (a : Option Addr) (cap : Nat) (parts : List Int) (hl : parts.length ≤ 50) (h : IntsAt w a parts) (ht : 0 ≤ total ∧ total ≤ 100000000000) (hp : ∀ x ∈ parts, 0 ≤ x ∧ x ≤ 1000000) (hok : ShOk total parts) :
    Calls Tryz.prog 98 #[.int .i64 total, .slice a parts.length cap] w fun e w' => IntsOut (sharesP total parts) w.heap.size e w' ∧ Below w.heap.size w w' := by
  obtain ⟨n, hn⟩ : ∃ n, parts.length = n := ⟨_, rfl⟩
  have HP := hidE hp
  have HOK := hidE hok
  have H := hidE h
  have HN := hidE hn
  obtain ⟨Wh, hWh⟩ : ∃ Wh, shWhole parts = Wh := ⟨_, rfl⟩
  have HWH := hidE hWh
  have hW1 : 1 ≤ Wh := by rw [← hWh]; exact shWhole_pos parts
  have hbq : ∀ x ∈ shQuo total parts, 0 ≤ x ∧ x ≤ 100000000000000000 := by
    intro x hx
    obtain ⟨y, hy, rfl⟩ := List.mem_map.1 hx
    have h1 := hp y hy
    have h2 := shWhole_pos parts
    have h3 : 0 ≤ total * y := Int.mul_nonneg ht.1 h1.1
    have h4 : total * y ≤ 100000000000 * 1000000 := Int.mul_le_mul ht.2 h1.2 h1.1 (by decide)
    exact ⟨Int.ediv_nonneg h3 (by omega), Int.le_trans (Int.ediv_le_self _ h3) h4⟩
  have HBQ := hidE hbq
  have HS1 := hidE (sum5_any w a cap parts (by omega) h (fun k hk => by
    have := isum_take_bd (by decide) hp k
    omega))
  have hsb : 0 ≤ isum parts ∧ isum parts ≤ 50000000 := by
    have := isum_take_bd (by decide) hp parts.length
    rw [List.take_length] at this
    omega
  rw [hn] at hl HS1 ⊢
  have hmx : max (isum parts) 1 = Wh := by rw [← hWh, Int.max_comm]; rfl
  obtain ⟨s, hs⟩ : ∃ s, isum parts = s := ⟨_, rfl⟩
  rw [hs] at HS1 hmx hsb
  have hWle : Wh ≤ 50000000 := by omega
  clear h hp hok hWh hbq hn hs
  go_enter Tryz.func98, Tryz.ntmps98
  go_wp2_with fail
  refine HS1.out.mono ?_
  rintro e w4 ⟨rfl, rfl⟩
  go_wp2_with fail
  go_loopw [5, 6, 8] (fun u v i wr => ∃ k : Nat, k ≤ n ∧ i = .int .i64 k ∧ Hid (wr.ownsRow w4.heap.size 3 1 u ((parts.take k).map fun x => total * x / Wh).length (intsV ((parts.take k).map fun x => total * x / Wh))) ∧ Hid (wr.ownsRow w4.heap.size 3 1 v ((parts.take k).map fun x => total * x % Wh).length (intsV ((parts.take k).map fun x => total * x % Wh))) ∧ Hid (Apart u v) ∧ Hid (Below w4.heap.size w4 wr)) (fun _ _ i _ => n - (intOf i).toNat)
  case atStart => exact ⟨0, Nat.zero_le _, rfl, hidE (World.ownsRow_nil _ _ _ _), hidE (World.ownsRow_nil _ _ _ _), hidE (fun q e => by simp [Value.ownBlock] at e), hidE (Below.refl _ _)⟩
  case round =>
    obtain ⟨k, hk, rfl, HO0, HO1, HAP, HBB⟩ := hrel
    obtain ⟨wx, rfl⟩ : ∃ x : World, x = wr := ⟨wr, rfl⟩
    by_cases hlt : k < n
    · obtain ⟨b, off, rfl, hbl, hc⟩ := H.out.at (show k < parts.length by rw [HN.out]; exact hlt)
      rw [← HBB.out.cell hbl] at hc
      have hv := HP.out _ (List.getElem_mem (show k < parts.length by rw [HN.out]; exact hlt))
      have HS0 := hidE (map_take_succ (fun x => total * x / Wh) parts (show k < parts.length by rw [HN.out]; exact hlt))
      have HS2 := hidE (map_take_succ (fun x => total * x % Wh) parts (show k < parts.length by rw [HN.out]; exact hlt))
      obtain ⟨q, hq⟩ : ∃ q, parts[k]'(by rw [HN.out]; exact hlt) = q := ⟨_, rfl⟩
      rw [hq] at hc HS0 HS2 hv
      clear hq
      have hp0 : 0 ≤ total * q := Int.mul_nonneg ht.1 hv.1
      have hp1 : total * q ≤ 100000000000000000 := Int.le_trans (Int.mul_le_mul ht.2 hv.2 hv.1 (by decide)) (by decide)
      have hwm : IntKind.i64.wrap (total * q) = total * q := IntWalk.i64_in _ (by omega)
      have hdv : 0 ≤ total * q / Wh ∧ total * q / Wh ≤ 100000000000000000 := ⟨Int.ediv_nonneg hp0 (by omega), Int.le_trans (Int.ediv_le_self _ hp0) hp1⟩
      have hwq : IntKind.i64.wrap (total * q / Wh) = total * q / Wh := IntWalk.i64_in _ (by omega)
      have htd : (total * q).tdiv Wh = total * q / Wh := Int.tdiv_eq_ediv_of_nonneg hp0
      have htm : (total * q).tmod Wh = total * q % Wh := Int.tmod_eq_emod_of_nonneg hp0
      have hmd : 0 ≤ total * q % Wh ∧ total * q % Wh ≤ 100000000000000000 := ⟨Int.emod_nonneg _ (by omega), by have := Int.emod_lt_of_pos (total * q) (show 0 < Wh by omega); omega⟩
      have hwr : IntKind.i64.wrap (total * q % Wh) = total * q % Wh := IntWalk.i64_in _ (by omega)
      have hW0 : ¬ Wh = 0 := by omega
      have hW2 : (Wh == 0) = false := by simpa using hW0
      obtain ⟨v5, wa, hrun1, own5, hb1, hk1⟩ := append_int HO0.out (total * q / Wh) (by have := HN.out; simp; omega) HBB.out.size
      obtain ⟨own6, ap1⟩ := hk1 _ _ HO1.out HAP.out.symm
      have hsz1 : w4.heap.size ≤ wa.heap.size := Nat.le_trans HBB.out.size hb1.size
      obtain ⟨v6, wb, hrun2, own7, hb2, hk2⟩ := append_int own6 (total * q % Wh) (by have := HN.out; simp; omega) hsz1
      obtain ⟨own8, ap2⟩ := hk2 _ _ own5 ap1.symm
      have ca : wa.cell? ⟨b, off + k, none⟩ = some (.int .i64 q) := (hb1.cell (p := ⟨b, off + k, none⟩) hbl).trans hc
      have HRUN1 := hidE hrun1
      have HRUN2 := hidE hrun2
      have HN0 := hidE own8
      have HN1 := hidE own7
      have HN2 := hidE ap2
      have HN3 := hidE (HBB.out.trans (hb1.trans hb2))
      clear hrun1 hrun2 own5 own6 own7 own8 ap1 ap2 hk1 hk2 hb1 hb2
      go_wp2_with (at_builtin; first | (refine wpList_op_append rfl (s := .tmp 21) (x := .tmp 30) (t := 25) rfl rfl rfl HRUN1.out ?_) | (refine wpList_op_append rfl (s := .tmp 32) (x := .tmp 41) (t := 25) rfl rfl rfl HRUN2.out ?_))
      go_roundw
      case rel => exact ⟨k + 1, by omega, by go_num, hidE (by rw [HS0.out]; exact HN0.out), hidE (by rw [HS2.out]; exact HN1.out), HN2, HN3⟩
      case measure => simp [intOf]; omega
    · obtain rfl : k = n := by omega
      have e5 : ((parts.take k).map fun x => total * x / Wh) = shQuo total parts := by rw [← HN.out, List.take_length, ← HWH.out]; rfl
      have e6 : ((parts.take k).map fun x => total * x % Wh) = shRem total parts := by rw [← HN.out, List.take_length, ← HWH.out]; rfl
      rw [e5] at HO0
      rw [e6] at HO1
      have hLe : total - isum (shQuo total parts) = shLeft total parts := rfl
      have hL0 := shLeft_nonneg HOK.out
      have hL1 := shLeft_le HOK.out
      rw [HN.out] at hL1
      have hql : (shQuo total parts).length = k := by unfold shQuo; rw [List.length_map]; exact HN.out
      have hrl : (shRem total parts).length = k := by unfold shRem; rw [List.length_map]; exact HN.out
      have hol := remOrd_len (shRem total parts)
      rw [hrl] at hol
      have hbs : ∀ j, 0 ≤ isum ((shQuo total parts).take j) ∧ isum ((shQuo total parts).take j) ≤ j * 100000000000000000 := isum_take_bd (by decide) HBQ.out
      obtain ⟨o5, c5, rfl, hi5, _⟩ := intsAt_of_owns HO0.out
      obtain ⟨o6, c6, rfl, _, _⟩ := intsAt_of_owns HO1.out
      have HSUM := hidE (sum5_any wx o5 c5 (shQuo total parts) (by omega) hi5 (fun j hj => by have := hbs j; omega))
      have hq2 : ∀ j, 0 ≤ (shQuo total parts).getD j 0 ∧ (shQuo total parts).getD j 0 ≤ 100000000000000000 := fun j => by
        by_cases hj : j < (shQuo total parts).length
        · rw [getD_get _ _ hj]; exact HBQ.out _ (List.getElem_mem hj)
        · rw [List.getD_eq_getElem?_getD, List.getElem?_eq_none (by omega)]; decide
      have HOB := hidE (fun (i j : Nat) => outP_bd (L := (shLeft total parts).toNat) (quo := shQuo total parts) (remOrd_nodup (shRem total parts)) (fun i hi => by rw [hql, ← hrl]; exact remOrd_lt hi) i j)
      have HOP := hidE (fun (i : Nat) (hi : i ∈ remOrd (shRem total parts)) => show i < k by rw [← hrl]; exact remOrd_lt hi)
      have HBO := hidE (fun (i : Nat) (hi : (i : Int) < shLeft total parts) (hi2 : i < (remOrd (shRem total parts)).length) => best_ord HOK.out hi hi2)
      have HFIN := hidE (show outP (remOrd (shRem total parts)) (shLeft total parts).toNat (shQuo total parts) (shLeft total parts).toNat = sharesP total parts by unfold outP sharesP; rw [List.take_take, Nat.min_self])
      obtain ⟨L, hL⟩ : ∃ L : Nat, shLeft total parts = (L : Int) := ⟨(shLeft total parts).toNat, by omega⟩
      have hLt : (shLeft total parts).toNat = L := by omega
      rw [hLt] at HOB HFIN
      rw [hL] at hLe hL1 HBO
      rw [hql] at HSUM ⊢
      rw [hrl]
      obtain ⟨ord, hord⟩ : ∃ o, remOrd (shRem total parts) = o := ⟨_, rfl⟩
      rw [hord] at hol HOB HOP HFIN
      have HBO2 := hidE (fun (i : Nat) (hi : i < L) (hi2 : i < ord.length) => show bestTo (zeros (ord.take i) (shRem total parts)) (zeros (ord.take i) (shRem total parts)).length = (ord[i] : Int) by
        subst hord; exact HBO.out i (by omega) hi2)
      obtain ⟨quo, hquo⟩ : ∃ o, shQuo total parts = o := ⟨_, rfl⟩
      obtain ⟨rem, hrem⟩ : ∃ o, shRem total parts = o := ⟨_, rfl⟩
      rw [hquo] at HO0 HSUM HOB hLe hql hq2 HFIN
      rw [hrem] at HO1 hrl HBO2
      have HBDQ := hidE hq2
      have HQL := hidE hql
      have HRL := hidE hrl
      rw [hql] at HO0
      rw [hrl] at HO1
      have HOL := hidE hol
      obtain ⟨sq, hsq⟩ : ∃ o, isum quo = o := ⟨_, rfl⟩
      rw [hsq] at HSUM hLe
      have HSS := hidE (sharesP_len total parts)
      clear hL0 hbs hL hLt hord hquo hrem HBQ hq2 hol hsq hql hrl HBO e5 e6 hi5 HOK HWH HP H
      go_wp2_with fail
      refine HSUM.out.mono ?_
      rintro e w5 ⟨rfl, rfl⟩
      go_wp2_with fail
      go_loopw [9] (fun x wr => ∃ i : Nat, i ≤ L ∧ x = .int .i64 ((L - i : Nat) : Int) ∧ Hid (wr.ownsRow w4.heap.size 3 1 (.slice o5 k c5) k (intsV (outP ord L quo i))) ∧ Hid (wr.ownsRow w4.heap.size 3 1 (.slice o6 k c6) k (intsV (zeros (ord.take i) rem))) ∧ Hid (Below w4.heap.size w4 wr)) (fun x _ => (intOf x).toNat)
      case atStart => exact ⟨0, Nat.zero_le _, by simp, hidE (by rw [show outP ord L quo 0 = quo by unfold outP; simp]; exact HO0.out), HO1, HBB⟩
      case round =>
        obtain ⟨i, hi, rfl, HR5, HR6, HB3⟩ := hrel
        obtain ⟨wy, rfl⟩ : ∃ x : World, x = wr := ⟨wr, rfl⟩
        obtain ⟨M, hM⟩ : ∃ M : Nat, L - i = M := ⟨_, rfl⟩
        rw [hM]
        by_cases hpos : 0 < M
        · have hk0 : 0 < k := by omega
          have HPOS := hidE hpos
          have hio : i < ord.length := by have := HOL.out; omega
          have hbo := HBO2.out i (by omega) hio
          have HSU := hidE (outP_succ (ord := ord) (L := L) (quo := quo) (k := i) hio)
          have HZS := hidE (zeros_succ ord rem hio)
          have hpk := HOP.out ord[i] (List.getElem_mem hio)
          have HIL := hidE (show i < L by omega)
          have HM := hidE (show L - (i + 1) = M - 1 by omega)
          have hd : decide ((M : Int) > 0) = true := by simp; omega
          have hd2 : decide (0 < M) = true := by simp; omega
          have hm1 : (M : Int) - 1 = ((M - 1 : Nat) : Int) := by omega
          have hM2 : M ≤ 1000 := by omega
          obtain ⟨p, hp⟩ : ∃ p, ord[i] = p := ⟨_, rfl⟩
          rw [hp] at hbo HSU HZS hpk
          have hcl := zeros_len (ord.take i) rem
          rw [HRL.out] at hcl
          rw [hcl] at hbo
          obtain ⟨CUT, hCUT⟩ : ∃ c, zeros (ord.take i) rem = c := ⟨_, rfl⟩
          rw [hCUT] at hbo HR6 HZS hcl
          have hb1 := HOB.out i p
          have hb2 := HBDQ.out p
          have hol2 := outP_len ord L quo i
          rw [HQL.out] at hol2
          obtain ⟨OUT, hOUT⟩ : ∃ c, outP ord L quo i = c := ⟨_, rfl⟩
          rw [hOUT] at hb1 hol2 HR5 HSU
          have HBE := hidE hbo
          have HCL := hidE hcl
          have HOL2 := hidE hol2
          obtain ⟨v, hv⟩ : ∃ v, OUT.getD p 0 = v := ⟨_, rfl⟩
          rw [hv] at hb1
          have HV := hidE hv
          have hv1 : 0 ≤ v ∧ v ≤ 100000000000000001 := by omega
          clear hp hCUT hOUT hbo hcl hol2 hM hv hb1 hb2
          rcases HR5.out.2 with ⟨e, _⟩ | ⟨g5, cp5, cur5, e, _⟩
          · simp only [Value.slice.injEq] at e; omega
          simp only [Value.slice.injEq, true_and] at e
          obtain ⟨rfl, rfl⟩ := e
          rcases HR6.out.2 with ⟨e, _⟩ | ⟨g6, cp6, cur6, e, _⟩
          · simp only [Value.slice.injEq] at e; omega
          simp only [Value.slice.injEq, true_and] at e
          obtain ⟨rfl, rfl⟩ := e
          have hg65 : g6 ≠ g5 := fun e => HAP.out g5 rfl (by rw [e]; rfl)
          have HG65 := hidE hg65
          have HLT6 := hidE ((HR6.out.lt g6 rfl).2)
          go_wp2_with fail
          go_loopw [10, 11] (fun b y wr => ∃ m : Nat, m ≤ k ∧ b = .int .i64 (bestTo CUT m) ∧ y = .int .i64 m ∧ Hid (OnlyG wy.heap.size wy wr)) (fun _ y _ => k - (intOf y).toNat)
          case atStart => exact ⟨0, Nat.zero_le _, rfl, rfl, hidE (OnlyG.refl _ _)⟩
          case round =>
            obtain ⟨m, hm, rfl, rfl, HD⟩ := hrel
            obtain ⟨wz, rfl⟩ : ∃ x : World, x = wr := ⟨wr, rfl⟩
            by_cases hmk : m < k
            · have hcell : ∀ j, j < k → wz.cell? ⟨g6, j, none⟩ = some (.int .i64 (CUT.getD j 0)) := fun j hj => by
                rw [HD.out.cell (p := ⟨g6, j, none⟩) (Nat.ne_of_lt HLT6.out), HR6.out.cellAt j (by omega), intsV_get (by rw [HCL.out]; exact hj)]
              have c1 := hcell m hmk
              have HSP := hidE (bestTo_spec CUT m)
              have HBS := hidE (bestTo_succ CUT m)
              unfold best1 at HBS
              obtain ⟨x, hx⟩ : ∃ x, CUT.getD m 0 = x := ⟨_, rfl⟩
              rw [hx] at c1 HBS
              clear hx
              by_cases hx0 : 0 < x
              · have dx : decide (x > 0) = true := by simpa using hx0
                have dx' : decide (0 < x) = true := by simpa using hx0
                rcases HSP.out with ⟨e1, _⟩ | ⟨q, hqm, e1, _, _⟩
                · rw [e1] at HBS ⊢
                  have HBF := hidE (show bestTo CUT (m + 1) = (m : Int) by rw [HBS.out, if_pos ⟨hx0, .inl (by omega)⟩])
                  clear hcell hx0 e1
                  go_wp2_with fail
                  go_upto_region 15 with fail
                  go_quiet (fail)
                  go_wp2_with fail
                  go_roundw
                  case rel => exact ⟨m + 1, by omega, by rw [HBF.out], by go_num, hidE (HD.out.trans (OnlyG.drewN _ _))⟩
                  case measure => simp [intOf]; omega
                · rw [e1, Int.toNat_natCast] at HBS
                  rw [e1]
                  have c2 := hcell q (by omega)
                  have hq0 : decide ((q : Int) < 0) = false := by simp
                  obtain ⟨y, hy⟩ : ∃ y, CUT.getD q 0 = y := ⟨_, rfl⟩
                  rw [hy] at c2 HBS
                  clear hy
                  by_cases hyx : y < x
                  · have dy : decide (x > y) = true := by simpa using hyx
                    have dy' : decide (y < x) = true := by simpa using hyx
                    have HBF := hidE (show bestTo CUT (m + 1) = (m : Int) by rw [HBS.out, if_pos ⟨hx0, .inr hyx⟩])
                    clear hcell hx0 e1 hyx
                    go_upto_region 15 with fail
                    go_quiet (fail)
                    go_wp2_with fail
                    go_roundw
                    case rel => exact ⟨m + 1, by omega, by rw [HBF.out], by go_num, hidE (HD.out.trans (OnlyG.drewN _ _))⟩
                    case measure => simp [intOf]; omega
                  · have dy : decide (x > y) = false := by simpa using hyx
                    have dy' : decide (y < x) = false := by simpa using hyx
                    have HBF := hidE (show bestTo CUT (m + 1) = (q : Int) by rw [HBS.out, if_neg (by omega)])
                    clear hcell hx0 e1 hyx
                    go_upto_region 15 with fail
                    go_quiet (fail)
                    go_wp2_with fail
                    go_roundw
                    case rel => exact ⟨m + 1, by omega, by rw [HBF.out], by go_num, hidE (HD.out.trans (OnlyG.drewN _ _))⟩
                    case measure => simp [intOf]; omega
              · have dx : decide (x > 0) = false := by simpa using hx0
                have dx' : decide (0 < x) = false := by simpa using hx0
                have HBF := hidE (show bestTo CUT (m + 1) = bestTo CUT m by rw [HBS.out, if_neg (fun h => hx0 h.1)])
                clear hcell hx0
                go_upto_region 15 with fail
                go_quiet (fail)
                go_wp2_with fail
                go_roundw
                case rel => exact ⟨m + 1, by omega, by rw [HBF.out], by go_num, hidE (HD.out.trans (OnlyG.drewN _ _))⟩
                case measure => simp [intOf]; omega
            · obtain rfl : m = k := by omega
              rw [HBE.out]
              have own5 := own_later HR5.out HD.out.bl
              have own6 := own_later HR6.out HD.out.bl
              have q5 : wz.cell? ⟨g5, p, none⟩ = some (.int .i64 v) := by rw [own5.cellAt p (by omega), intsV_get (by rw [HOL2.out]; exact hpk), HV.out]
              have f5 : wz.frozen? ⟨g5, p, none⟩ = false := own5.frozenAt p
              have hwv : IntKind.i64.wrap (v + 1) = v + 1 := IntWalk.i64_in _ (by omega)
              have S1 := (own5.stored p (.int .i64 (v + 1))).1
              have T6 := ownsRow_setCell_other own6 (a := ⟨g5, p, none⟩) (by simp only [Value.ownBlock, ne_eq, Option.some.injEq]; exact HG65.out) (.int .i64 (v + 1))
              have q6 : (wz.setCell ⟨g5, p, none⟩ (.int .i64 (v + 1))).cell? ⟨g6, p, none⟩ = some (.int .i64 (CUT.getD p 0)) := by rw [T6.cellAt p (by omega), intsV_get (by rw [HCL.out]; exact hpk)]
              have f6 : (wz.setCell ⟨g5, p, none⟩ (.int .i64 (v + 1))).frozen? ⟨g6, p, none⟩ = false := T6.frozenAt p
              have q7 : wz.cell? ⟨g6, p, none⟩ = some (.int .i64 (CUT.getD p 0)) := by rw [own6.cellAt p (by omega), intsV_get (by rw [HCL.out]; exact hpk)]
              have f7 : wz.frozen? ⟨g6, p, none⟩ = false := own6.frozenAt p
              have S2 := (T6.stored p (.int .i64 0)).1
              have S3 := ownsRow_setCell_other S1 (a := ⟨g6, p, none⟩) (by simp only [Value.ownBlock, ne_eq, Option.some.injEq]; exact fun e => HG65.out e.symm) (.int .i64 0)
              rw [intsV_set] at S2 S3
              have HF5 := hidE S3
              have HF6 := hidE S2
              have HBF := hidE ((HB3.out.trans (HD.out.bl.mono HB3.out.size)).setCell (p := ⟨g5, p, none⟩) (HR5.out.lt g5 rfl).1 (.int .i64 (v + 1)) |>.setCell (p := ⟨g6, p, none⟩) (HR6.out.lt g6 rfl).1 (.int .i64 0))
              obtain ⟨z6, hz6⟩ : ∃ z, CUT.getD p 0 = z := ⟨_, rfl⟩
              rw [hz6] at q6 q7
              clear hz6 S1 S2 S3 T6 own5 own6
              go_wp2_with fail
              go_roundw
              case rel => exact ⟨i + 1, HIL.out, by rw [HM.out], hidE (by rw [HSU.out, if_pos HIL.out]; unfold bump; rw [HV.out]; exact HF5.out), hidE (by rw [HZS.out]; exact HF6.out), HBF⟩
              case measure => simp only [intOf, Int.toNat_natCast]; exact Nat.sub_lt HPOS.out Nat.one_pos
        · obtain rfl : M = 0 := by omega
          obtain rfl : i = L := by omega
          rw [HFIN.out] at HR5
          go_wp2_with fail
          go_ret
          exact ⟨⟨_, rfl, by rw [HSS.out, HN.out]; exact HR5.out⟩, HB3.out⟩
end Go.Proofs.YthjmkmjojlfejaaGreat

namespace Go.Proofs.YthjmkmjojlfejaaGreat
open Go Go.RowKit Go.Shelf
set_option maxHeartbeats 2000000 in
theorem shares5E_any (w : World) (total : Int) (a : Option Addr) (cap : Nat) (parts : List Int) (hl : parts.length ≤ 9223372036854775807) (h : IntsAt w a parts) :
    Calls Tryz.prog 42 #[.int .i64 total, .slice a parts.length cap] w fun e w' => ListErr (sharesE total parts).1 (sharesE total parts).2 w.heap.size e w' ∧ Below w.heap.size w w' := by
  have HC := hidE (shared_any w total a cap parts hl h)
  have H := hidE h
  obtain ⟨Q, hQ⟩ : ∃ Q, sharesE total parts = Q := ⟨_, rfl⟩
  rw [hQ]
  clear h
  by_cases hz : checkSharesP total parts = 0
  · obtain ⟨h1, h2, h3, h4⟩ := checkShares_ok hz
    unfold sharesE at hQ
    rw [if_pos hz] at hQ
    subst hQ
    rw [hz] at HC
    have HS := hidE (fun W hW => shares5_any W total a cap parts h1 hW h2 h3 h4)
    clear hz h1 h2 h3 h4
    go_enter Tryz.func42, Tryz.ntmps42
    go_wp2_with fail
    refine HC.out.mono ?_
    rintro e w1 ⟨rfl, rfl⟩
    go_wp2_with fail
    refine (HS.out _ H.out).mono ?_
    rintro e w2 ⟨⟨v, rfl, ho⟩, hb⟩
    have HO := hidE ho
    have HB := hidE hb
    clear ho hb
    go_wp2_with fail
    go_ret2
    exact ⟨⟨_, rfl, HO.out⟩, HB.out⟩
  · unfold sharesE at hQ
    rw [if_neg hz] at hQ
    subst hQ
    obtain ⟨z, hz2⟩ : ∃ z, checkSharesP total parts = z := ⟨_, rfl⟩
    rw [hz2] at hz HC
    have hz3 : (z != 0) = true := by simpa using hz
    have HZ := hidE hz2
    clear hz2
    go_enter Tryz.func42, Tryz.ntmps42
    go_wp2_with fail
    refine HC.out.mono ?_
    rintro e w1 ⟨rfl, rfl⟩
    go_wp2_with fail
    go_ret2
    exact ⟨⟨.slice none 0 0, by rw [HZ.out]; rfl, World.ownsRow_nil _ _ _ _⟩, Below.refl _ _⟩
/-- What the reference finds, place by place: what is left, or nothing. -/
def giveP (Wh total : Int) (l parts : List Int) : Nat → Option Int
  | 0 => some total
  | k + 1 => (giveP Wh total l parts k).bind fun left =>
    if l.getD k 0 < 0 ∨ left < l.getD k 0 then none
    else if l.getD k 0 * Wh - total * parts.getD k 0 ≤ -Wh ∨ Wh ≤ l.getD k 0 * Wh - total * parts.getD k 0 then none else some (left - l.getD k 0)
def checkSh5 (total : Int) (parts l : List Int) : Bool × Int :=
  if checkSharesP total parts ≠ 0 then (false, checkSharesP total parts) else if l.length ≠ parts.length then (false, 0)
  else (decide (giveP (shWhole parts) total l parts l.length = some 0), 0)
theorem giveP_some {Wh total : Int} {l parts : List Int} : ∀ {k : Nat} {left : Int}, k ≤ l.length → giveP Wh total l parts k = some left →
    left = total - isum (l.take k) ∧ 0 ≤ left ∧ (∀ j, j < k → 0 ≤ l.getD j 0 ∧ -Wh < l.getD j 0 * Wh - total * parts.getD j 0 ∧ l.getD j 0 * Wh - total * parts.getD j 0 < Wh) ∨ (left < 0 ∧ total < 0)
  | 0, left, _, h => by
    simp only [giveP, Option.some.injEq] at h
    subst h
    by_cases h0 : 0 ≤ total
    · exact .inl ⟨by simp [isum], h0, fun j hj => by omega⟩
    · exact .inr ⟨by omega, by omega⟩
  | k + 1, left, hk, h => by
    unfold giveP at h
    cases hg : giveP Wh total l parts k with
    | none => rw [hg] at h; simp at h
    | some q =>
      rw [hg] at h
      simp only [Option.bind_some] at h
      by_cases c1 : l.getD k 0 < 0 ∨ q < l.getD k 0
      · rw [if_pos c1] at h; cases h
      rw [if_neg c1] at h
      by_cases c2 : l.getD k 0 * Wh - total * parts.getD k 0 ≤ -Wh ∨ Wh ≤ l.getD k 0 * Wh - total * parts.getD k 0
      · rw [if_pos c2] at h; cases h
      rw [if_neg c2] at h
      simp only [Option.some.injEq] at h
      subst h
      rcases giveP_some (show k ≤ l.length by omega) hg with ⟨e1, e2, e3⟩ | ⟨e1, e2⟩
      · refine .inl ⟨?_, by omega, fun j hj => ?_⟩
        · rw [isum_take l (show k < l.length by omega), ← getD_get l 0 (show k < l.length by omega)]; omega
        · by_cases hjk : j < k
          · exact e3 j hjk
          · obtain rfl : j = k := by omega
            exact ⟨by omega, by omega, by omega⟩
      · omega
theorem giveP_of {Wh total : Int} {l parts : List Int} : ∀ {k : Nat}, k ≤ l.length → (∀ j, j < k → 0 ≤ l.getD j 0 ∧ -Wh < l.getD j 0 * Wh - total * parts.getD j 0 ∧ l.getD j 0 * Wh - total * parts.getD j 0 < Wh) → isum (l.take k) ≤ total → giveP Wh total l parts k = some (total - isum (l.take k))
  | 0, _, _, _ => by simp [giveP, isum]
  | k + 1, hk, h, hs => by
    have e := isum_take l (show k < l.length by omega)
    rw [← getD_get l 0 (show k < l.length by omega)] at e
    obtain ⟨h1, h2, h3⟩ := h k (by omega)
    have ih := giveP_of (Wh := Wh) (parts := parts) (show k ≤ l.length by omega) (fun j hj => h j (by omega)) (show isum (l.take k) ≤ total by omega)
    unfold giveP
    rw [ih]
    simp only [Option.bind_some]
    rw [if_neg (by omega), if_neg (by omega), e]
    congr 1
    omega
/-- The reference finds what the program finds. -/
theorem checkSh5_eq (total : Int) (parts l : List Int) : checkSh5 total parts l = checkShE total parts l := by
  unfold checkSh5 checkShE
  by_cases hz : checkSharesP total parts ≠ 0
  · rw [if_pos hz, if_pos hz]
  rw [if_neg hz, if_neg hz]
  obtain ⟨z1, z2, z3, z4⟩ := checkShares_ok (Classical.not_not.1 hz)
  by_cases hlen : l.length ≠ parts.length
  · rw [if_pos hlen, if_pos (.inl hlen)]
  rw [if_neg hlen]
  have hW : shWhole parts = max 1 (isum parts) := rfl
  have hs0 : 0 ≤ isum parts := isum_nonneg (fun x hx => (z3 x hx).1)
  have hany := z4.any
  have key : giveP (shWhole parts) total l parts l.length = some 0 ↔ ((l.all fun v => inR v 0 total) = true ∧ isum l = total ∧ ∀ i, i < l.length → offB (isum parts) total (l.getD i 0) (parts.getD i 0) = false) := by
    constructor
    · intro h
      rcases giveP_some (Nat.le_refl _) h with ⟨e1, _, e3⟩ | ⟨e1, _⟩
      · rw [List.take_length] at e1
        have hnn : ∀ v ∈ l, 0 ≤ v := fun v hv => by
          obtain ⟨i, hi, rfl⟩ := List.getElem_of_mem hv
          rw [← getD_get l 0 hi]; exact (e3 i hi).1
        refine ⟨?_, by omega, fun i hi => ?_⟩
        · rw [List.all_eq_true]
          intro v hv
          have h1 := hnn v hv
          have h2 : v ≤ isum l := by
            obtain ⟨s, t, rfl⟩ := List.append_of_mem hv
            rw [isum_append]
            have h3 := isum_nonneg (l := s) (fun x hx => hnn x (by simp [hx]))
            have h4 := isum_nonneg (l := t) (fun x hx => hnn x (by simp [hx]))
            show v ≤ isum s + (v + isum t)
            omega
          unfold inR
          simp only [Bool.and_eq_true, decide_eq_true_eq]
          omega
        · obtain ⟨_, h2, h3⟩ := e3 i hi
          unfold offB
          by_cases hp : 0 < isum parts
          · have : shWhole parts = isum parts := by omega
            rw [this] at h2 h3
            simp only [hp, decide_true, Bool.true_and, decide_eq_false_iff_not]
            omega
          · simp [hp]
      · omega
    · rintro ⟨h1, h2, h3⟩
      have h4 : ∀ v ∈ l, 0 ≤ v := fun v hv => by
        have := List.all_eq_true.1 h1 v hv
        unfold inR at this
        simp only [Bool.and_eq_true, decide_eq_true_eq] at this
        exact this.1
      have := giveP_of (Wh := shWhole parts) (total := total) (parts := parts) (l := l) (Nat.le_refl _) (fun j hj => by
        have hj0 : 0 ≤ l.getD j 0 := by rw [getD_get l 0 hj]; exact h4 _ (List.getElem_mem hj)
        refine ⟨hj0, ?_⟩
        have ho := h3 j hj
        unfold offB at ho
        by_cases hp : 0 < isum parts
        · have e : shWhole parts = isum parts := by omega
          rw [e]
          simp only [hp, decide_true, Bool.true_and, decide_eq_false_iff_not] at ho
          omega
        · have e : shWhole parts = 1 := by omega
          have ht : total = 0 := by omega
          have hl0 : l.getD j 0 = 0 := by
            have hv := List.all_eq_true.1 h1 (l.getD j 0) (by rw [getD_get l 0 hj]; exact List.getElem_mem hj)
            unfold inR at hv
            simp only [Bool.and_eq_true, decide_eq_true_eq] at hv
            omega
          rw [e, ht, hl0]; simp) (by rw [List.take_length]; omega)
      rw [this, List.take_length, h2, Int.sub_self]
  by_cases hk : giveP (shWhole parts) total l parts l.length = some 0
  · obtain ⟨k1, k2, k3⟩ := key.1 hk
    rw [if_neg (by rw [k1]; simp [Classical.not_not.1 hlen, k2])]
    congr 1
    have : ((List.range l.length).any fun i => offB (isum parts) total (l.getD i 0) (parts.getD i 0)) = false := by
      rw [List.any_eq_false]
      intro i hi
      rw [k3 i (List.mem_range.1 hi)]; decide
    rw [this]
    simp [hk]
  · have hd : decide (giveP (shWhole parts) total l parts l.length = some 0) = false := by simp [hk]
    rw [hd]
    by_cases hb : l.length ≠ parts.length ∨ (l.all fun v => inR v 0 total) = false ∨ isum l ≠ total
    · rw [if_pos hb]
    · rw [if_neg hb]
      congr 1
      symm
      rw [Bool.not_eq_false']
      apply Classical.byContradiction
      intro hno
      apply hk
      refine key.2 ⟨?_, ?_, fun i hi => ?_⟩
      · cases hq : (l.all fun v => inR v 0 total) with
        | true => rfl
        | false => exact absurd (.inr (.inl hq)) hb
      · exact Classical.byContradiction fun hq => hb (.inr (.inr hq))
      · cases hq : offB (isum parts) total (l.getD i 0) (parts.getD i 0) with
        | false => rfl
        | true => exact absurd (List.any_eq_true.2 ⟨i, List.mem_range.2 hi, hq⟩) hno
end Go.Proofs.YthjmkmjojlfejaaGreat

namespace Go.Proofs.YthjmkmjojlfejaaGreat
open Go Go.RowKit Go.Shelf
theorem giveP_none {Wh total : Int} {l parts : List Int} {k : Nat} (h : giveP Wh total l parts k = none) : ∀ m, giveP Wh total l parts (k + m) = none
  | 0 => h
  | m + 1 => by
    rw [show k + (m + 1) = (k + m) + 1 by omega]
    unfold giveP
    rw [giveP_none h m]; rfl
set_option maxRecDepth 100000 in
set_option maxHeartbeats 16000000 in
theorem checkSh5_any (w : World) (total : Int) (a : Option Addr) (cap : Nat) (parts : List Int) (a2 : Option Addr) (cap2 : Nat) (l : List Int) (hl : parts.length ≤ 9223372036854775807) (_hl2 : l.length ≤ 9223372036854775807) (h : IntsAt w a parts) (h2 : IntsAt w a2 l) :
    Calls Tryz.prog 44 #[.int .i64 total, .slice a parts.length cap, .slice a2 l.length cap2] w fun e w' => e = .returned (.tuple #[.bool (checkShE total parts l).1, .int .i64 (checkShE total parts l).2]) ∧ Below w.heap.size w w' := by
  rw [← checkSh5_eq]
  have hch := shared_any w total a cap parts hl h
  obtain ⟨P1, hP1⟩ : ∃ z, (checkSh5 total parts l).1 = z := ⟨_, rfl⟩
  obtain ⟨P2, hP2⟩ : ∃ z, (checkSh5 total parts l).2 = z := ⟨_, rfl⟩
  rw [hP1, hP2]
  have H := hidE h
  have H2 := hidE h2
  clear h h2
  by_cases hz : checkSharesP total parts = 0
  · obtain ⟨z1, z2, z3, z4⟩ := checkShares_ok hz
    rw [hz] at hch
    have HCH := hidE hch
    clear hch
    by_cases hlen : l.length = parts.length
    · unfold checkSh5 at hP1 hP2
      rw [if_neg (by rw [hz]; simp), if_neg (by simp [hlen])] at hP1 hP2
      obtain rfl : (0 : Int) = P2 := hP2
      have HSP := hidE (sum5_any w a cap parts (by omega) H.out (fun k hk => by
        have := isum_take_bd (by decide) z3 k
        omega))
      have hWb : 0 ≤ isum parts ∧ isum parts ≤ 50000000 := by
        have := isum_take_bd (by decide) z3 parts.length
        rw [List.take_length] at this
        omega
      obtain ⟨Wh, hWh⟩ : ∃ W, shWhole parts = W := ⟨_, rfl⟩
      have hmx : max (isum parts) 1 = Wh := by rw [← hWh, Int.max_comm]; rfl
      have hW1 : 1 ≤ Wh ∧ Wh ≤ 50000000 := by omega
      rw [hWh] at hP1
      have HP1 := hidE hP1
      obtain ⟨s, hs⟩ : ∃ s, isum parts = s := ⟨_, rfl⟩
      rw [hs] at hmx HSP hWb
      have HPS := hidE (fun x hx => z3 x hx)
      obtain ⟨L, hL⟩ : ∃ L, l.length = L := ⟨_, rfl⟩
      obtain ⟨n, hn⟩ : ∃ n, parts.length = n := ⟨_, rfl⟩
      rw [hL] at hlen
      rw [hn] at hlen HCH HSP z1
      subst hlen
      have HLE := hidE hL
      have HNE := hidE hn
      rw [hL, hn]
      rw [hL] at HP1
      have hne : ((L : Int) != (L : Int)) = false := by simp
      clear hL hn z3 z4 hs hP1 hWh hz
      go_enter Tryz.func44, Tryz.ntmps44
      go_wp2_with fail
      refine HCH.out.mono ?_
      rintro e w1 ⟨rfl, rfl⟩
      clear HCH
      go_wp2_with fail
      refine HSP.out.mono ?_
      rintro e w4 ⟨rfl, rfl⟩
      clear HSP
      go_wp2_with fail
      go_loopw [10, 11] (fun x i wr => ∃ (k : Nat) (left : Int), k ≤ L ∧ x = .int .i64 left ∧ i = .int .i64 k ∧ 0 ≤ left ∧ left ≤ total ∧ Hid (giveP Wh total l parts k = some left) ∧ Hid (OnlyG w4.heap.size w4 wr)) (fun _ i _ => L - (intOf i).toNat)
      case atStart => exact ⟨0, total, Nat.zero_le _, rfl, rfl, z2.1, Int.le_refl _, hidE rfl, hidE (OnlyG.refl _ _)⟩
      case round =>
        obtain ⟨k, left, hk, rfl, rfl, hle0, hle1, HG, HD⟩ := hrel
        obtain ⟨wx, rfl⟩ : ∃ W : World, W = wr := ⟨wr, rfl⟩
        by_cases hlt : k < L
        · obtain ⟨b1, o1, rfl, hb1, hc1⟩ := H.out.at (show k < parts.length by rw [HNE.out]; exact hlt)
          obtain ⟨b2, o2, rfl, hb2, hc2⟩ := H2.out.at (show k < l.length by rw [HLE.out]; exact hlt)
          have hp := HPS.out _ (List.getElem_mem (show k < parts.length by rw [HNE.out]; exact hlt))
          rw [← getD_get parts 0 (show k < parts.length by rw [HNE.out]; exact hlt)] at hc1 hp
          rw [← getD_get l 0 (show k < l.length by rw [HLE.out]; exact hlt)] at hc2
          have HST : Hid (giveP Wh total l parts (k + 1) = if l.getD k 0 < 0 ∨ left < l.getD k 0 then none
            else if l.getD k 0 * Wh - total * parts.getD k 0 ≤ -Wh ∨ Wh ≤ l.getD k 0 * Wh - total * parts.getD k 0 then none else some (left - l.getD k 0)) := hidE (by
              rw [giveP, HG.out]; rfl)
          obtain ⟨x, hxe⟩ : ∃ x, l.getD k 0 = x := ⟨_, rfl⟩
          obtain ⟨p, hpe⟩ : ∃ p, parts.getD k 0 = p := ⟨_, rfl⟩
          rw [hxe] at hc2 HST
          rw [hpe] at hc1 hp HST
          clear hxe hpe
          have q1 : wx.cell? ⟨b1, o1 + k, none⟩ = some (.int .i64 p) := (HD.out.cell (p := ⟨b1, o1 + k, none⟩) (Nat.ne_of_lt hb1)).trans hc1
          have q2 : wx.cell? ⟨b2, o2 + k, none⟩ = some (.int .i64 x) := (HD.out.cell (p := ⟨b2, o2 + k, none⟩) (Nat.ne_of_lt hb2)).trans hc2
          have HNO : Hid (giveP Wh total l parts (k + 1) = none → P1 = false) := hidE (fun hno => by
            have := giveP_none hno (L - (k + 1))
            rw [show k + 1 + (L - (k + 1)) = L by omega] at this
            rw [← HP1.out, this]; rfl)
          by_cases hx0 : x < 0
          · have d1 : decide (x < 0) = true := by simpa using hx0
            have HPF := hidE (show P1 = false from HNO.out (by rw [HST.out, if_pos (.inl hx0)]))
            clear hx0
            go_wp2_with fail
            go_ret2
            exact ⟨by rw [HPF.out]; rfl, HD.out.bl⟩
          · have d1 : decide (x < 0) = false := by simpa using hx0
            by_cases hxl : left < x
            · have d2 : decide (x > left) = true := by simpa using hxl
              have d2' : decide (left < x) = true := by simpa using hxl
              have HPF := hidE (show P1 = false from HNO.out (by rw [HST.out, if_pos (.inr hxl)]))
              clear hx0 hxl
              go_wp2_with fail
              go_ret2
              exact ⟨by rw [HPF.out]; rfl, HD.out.bl⟩
            · have d2 : decide (x > left) = false := by simpa using hxl
              have d2' : decide (left < x) = false := by simpa using hxl
              rw [if_neg (by omega)] at HST
              have u1 : 0 ≤ x * Wh := Int.mul_nonneg (by omega) (by omega)
              have u2 : x * Wh ≤ 5000000000000000000 := Int.le_trans (Int.mul_le_mul (show x ≤ 100000000000 by omega) hW1.2 (by omega) (by decide)) (by decide)
              have v1 : 0 ≤ total * p := Int.mul_nonneg z2.1 hp.1
              have v2 : total * p ≤ 100000000000000000 := Int.le_trans (Int.mul_le_mul z2.2 hp.2 hp.1 (by decide)) (by decide)
              obtain ⟨m1, hm1⟩ : ∃ m, x * Wh = m := ⟨_, rfl⟩
              obtain ⟨m2, hm2⟩ : ∃ m, total * p = m := ⟨_, rfl⟩
              rw [hm1] at u1 u2 HST
              rw [hm2] at v1 v2 HST
              have hwm1 : IntKind.i64.wrap m1 = m1 := IntWalk.i64_in _ (by omega)
              have hwm2 : IntKind.i64.wrap m2 = m2 := IntWalk.i64_in _ (by omega)
              obtain ⟨D, hD⟩ : ∃ D, m1 - m2 = D := ⟨_, rfl⟩
              have hwD : IntKind.i64.wrap D = D := IntWalk.i64_in _ (by omega)
              have hwl : IntKind.i64.wrap (left - x) = left - x := IntWalk.i64_in _ (by omega)
              have hwn : IntKind.i64.wrap (-Wh) = -Wh := IntWalk.i64_in _ (by omega)
              rw [hD] at HST
              have hl3 : 0 ≤ left - x ∧ left - x ≤ total := by omega
              by_cases c1 : D ≤ -Wh
              · have d3 : decide (D ≤ -Wh) = true := by simpa using c1
                have HPF := hidE (show P1 = false from HNO.out (by rw [HST.out, if_pos (.inl c1)]))
                clear hx0 hxl c1
                go_upto_region 14 with fail
                go_quiet (fail)
                go_wp2_with fail
                go_ret2
                exact ⟨by rw [HPF.out]; rfl, (HD.out.trans (OnlyG.drewN _ _)).bl⟩
              · have d3 : decide (D ≤ -Wh) = false := by simpa using c1
                by_cases c2 : Wh ≤ D
                · have d4 : decide (D ≥ Wh) = true := by simpa using c2
                  have d4' : decide (Wh ≤ D) = true := by simpa using c2
                  have HPF := hidE (show P1 = false from HNO.out (by rw [HST.out, if_pos (.inr c2)]))
                  clear hx0 hxl c1 c2
                  go_upto_region 14 with fail
                  go_quiet (fail)
                  go_wp2_with fail
                  go_ret2
                  exact ⟨by rw [HPF.out]; rfl, (HD.out.trans (OnlyG.drewN _ _)).bl⟩
                · have d4 : decide (D ≥ Wh) = false := by simpa using c2
                  have d4' : decide (Wh ≤ D) = false := by simpa using c2
                  have HNX := hidE (show giveP Wh total l parts (k + 1) = some (left - x) by rw [HST.out, if_neg (by omega)])
                  clear hx0 hxl c1 c2
                  go_upto_region 14 with fail
                  go_quiet (fail)
                  go_wp2_with fail
                  go_roundw
                  case rel => exact ⟨k + 1, left - x, by omega, rfl, by go_num, hl3.1, hl3.2, HNX, hidE (HD.out.trans (OnlyG.drewN _ _))⟩
                  case measure => simp [intOf]; omega
        · obtain rfl : k = L := by omega
          have HPT := hidE (show P1 = (left == 0) by rw [← HP1.out, HG.out]; by_cases q : left = 0 <;> simp [q])
          go_wp2_with fail
          go_ret2
          exact ⟨by rw [HPT.out]; rfl, HD.out.bl⟩
    · unfold checkSh5 at hP1 hP2
      rw [if_neg (by rw [hz]; simp), if_pos hlen] at hP1 hP2
      obtain rfl : false = P1 := hP1
      obtain rfl : (0 : Int) = P2 := hP2
      have hne : ((l.length : Int) != (parts.length : Int)) = true := by simp; omega
      clear hlen z1 z2 z3 z4 hz
      go_enter Tryz.func44, Tryz.ntmps44
      go_wp2_with fail
      refine HCH.out.mono ?_
      rintro e w1 ⟨rfl, rfl⟩
      go_wp2_with fail
      go_ret2
      exact ⟨rfl, Below.refl _ _⟩
  · unfold checkSh5 at hP1 hP2
    rw [if_pos hz] at hP1 hP2
    obtain rfl : false = P1 := hP1
    obtain ⟨z, hz2⟩ : ∃ z, checkSharesP total parts = z := ⟨_, rfl⟩
    have hP2' : checkSharesP total parts = P2 := hP2
    rw [hz2] at hch hP2' hz
    have HP3 := hidE hP2'
    have HCH := hidE hch
    have hz3 : (z != 0) = true := by simpa using hz
    clear hch hz2 hP2 hP2'
    go_enter Tryz.func44, Tryz.ntmps44
    go_wp2_with fail
    refine HCH.out.mono ?_
    rintro e w1 ⟨rfl, rfl⟩
    go_wp2_with fail
    go_ret2
    exact ⟨by rw [← HP3.out]; rfl, Below.refl _ _⟩
end Go.Proofs.YthjmkmjojlfejaaGreat

namespace Go.Proofs.YthjmkmjojlfejaaGreat
open Go Go.RowKit Go.Shelf
theorem sharesE_len (total : Int) (parts : List Int) : (sharesE total parts).1.length ≤ 50 := by
  unfold sharesE
  by_cases hz : checkSharesP total parts = 0
  · rw [if_pos hz]
    show (sharesP total parts).length ≤ 50
    rw [sharesP_len]
    exact (checkShares_ok hz).1
  · rw [if_neg hz]; simp
set_option maxHeartbeats 4000000 in
theorem areaShares_of (hal : AliveOk) (w : World) (total : Int) (a : Option Addr) (cap : Nat) (parts : List Int) (a2 : Option Addr) (cap2 : Nat) (l : List Int) (hl : parts.length ≤ 9223372036854775807) (hl2 : l.length ≤ 9223372036854775807) (h : IntsAt w a parts) (h2 : IntsAt w a2 l) :
    Calls Tryz.prog 8 #[.int .i64 total, .slice a parts.length cap, .slice a2 l.length cap2] w fun e w' => e = .returned (.bool true) ∧ Below w.heap.size w w' := by
  have HAL := hidE hal
  have H := hidE h
  have H2 := hidE h2
  clear hal h h2
  have HS1 := hidE (fun W hW => sharesE_any W total a cap parts hl hW)
  have HS2 := hidE (fun W hW => shares5E_any W total a cap parts hl hW)
  have HC1 := hidE (fun W hW hW2 => checkShE_any W total a cap parts a2 cap2 l hl hl2 hW hW2)
  have HC2 := hidE (fun W hW hW2 => checkSh5_any W total a cap parts a2 cap2 l hl hl2 hW hW2)
  have hsl := sharesE_len total parts
  obtain ⟨Q, hQ⟩ : ∃ Q, (sharesE total parts).1 = Q := ⟨_, rfl⟩
  obtain ⟨E, hE⟩ : ∃ E, (sharesE total parts).2 = E := ⟨_, rfl⟩
  obtain ⟨B, hB⟩ : ∃ B, (checkShE total parts l).1 = B := ⟨_, rfl⟩
  obtain ⟨F, hF⟩ : ∃ F, (checkShE total parts l).2 = F := ⟨_, rfl⟩
  rw [hQ, hE] at HS1 HS2
  rw [hB, hF] at HC1 HC2
  rw [hQ] at hsl
  clear hQ hE hB hF
  by_cases hb1 : 60 < parts.length
  · have hd : decide ((parts.length : Int) > 60) = true := by simp; omega
    have hd' : decide (60 < parts.length) = true := by simp; omega
    go_enter Tryz.func8, Tryz.ntmps8
    go_wp2_with fail
    refine (HAL.out _).mono ?_
    rintro e w1 ⟨rfl, hb⟩
    go_wp2_with fail
    go_ret
    exact ⟨rfl, hb⟩
  · have hd : decide ((parts.length : Int) > 60) = false := by simp; omega
    have hd' : decide (60 < parts.length) = false := by simp; omega
    by_cases hb2 : 60 < l.length
    · have hd2 : decide ((l.length : Int) > 60) = true := by simp; omega
      have hd2' : decide (60 < l.length) = true := by simp; omega
      go_enter Tryz.func8, Tryz.ntmps8
      go_wp2_with fail
      refine (HAL.out _).mono ?_
      rintro e w1 ⟨rfl, hb⟩
      go_wp2_with fail
      go_ret
      exact ⟨rfl, hb⟩
    · have hd2 : decide ((l.length : Int) > 60) = false := by simp; omega
      have hd2' : decide (60 < l.length) = false := by simp; omega
      go_enter Tryz.func8, Tryz.ntmps8
      go_wp2_with fail
      refine (HS1.out _ H.out).mono ?_
      rintro e w1 ⟨⟨v1, rfl, ho1⟩, hb1⟩
      have B1 := hidE hb1
      have O1 := hidE ho1
      clear hb1 ho1
      go_wp2_with fail
      refine (HS2.out _ (H.out.below B1.out (Nat.le_refl _))).mono ?_
      rintro e w2 ⟨⟨v2, rfl, ho2⟩, hb2⟩
      have O1b := hidE (own_later O1.out hb2)
      have O2 := hidE (ownsRow_base ho2 B1.out.size)
      have B2 := hidE (B1.out.trans (hb2.mono B1.out.size))
      clear hb2 ho2 O1 HS1 HS2
      go_wp2_with fail
      refine (HC1.out _ (H.out.below B2.out (Nat.le_refl _)) (H2.out.below B2.out (Nat.le_refl _))).mono ?_
      rintro e w3 ⟨rfl, hb3⟩
      have O1c := hidE (own_later O1b.out hb3)
      have O2c := hidE (own_later O2.out hb3)
      have B3 := hidE (B2.out.trans (hb3.mono B2.out.size))
      clear hb3 O1b O2
      go_wp2_with fail
      refine (HC2.out _ (H.out.below B3.out (Nat.le_refl _)) (H2.out.below B3.out (Nat.le_refl _))).mono ?_
      rintro e w4 ⟨rfl, hb4⟩
      have O1d := hidE (own_later O1c.out hb4)
      have O2d := hidE (own_later O2c.out hb4)
      have B4 := hidE (B3.out.trans (hb4.mono B3.out.size))
      clear hb4 O1c O2c HC1 HC2
      go_wp2_with fail
      refine (HAL.out _).mono ?_
      rintro e w5 ⟨rfl, hb5⟩
      have O1e := own_later O1d.out hb5
      have O2e := own_later O2d.out hb5
      have B5 := hidE (B4.out.trans (hb5.mono B4.out.size))
      obtain ⟨o1, c1, rfl, hi1, _⟩ := intsAt_of_owns O1e
      obtain ⟨o2, c2, rfl, hi2, _⟩ := intsAt_of_owns O2e
      have HSM := hidE (same_any w5 o1 c1 Q o2 c2 Q (by omega) (by omega) hi1 hi2)
      rw [decide_eq_true rfl] at HSM
      clear hb5 O1e O2e O1d O2d hi1 hi2 HAL
      go_wp2_with fail
      refine HSM.out.mono ?_
      rintro e w6 ⟨rfl, rfl⟩
      go_wp2_with fail
      go_ret
      exact ⟨by simp, B5.out⟩
end Go.Proofs.YthjmkmjojlfejaaGreat
