/- Walk: the law LineSharp. No conditions beyond those stated. -/
import Derived.Test.YtejbpoclfjkllaaCPlW
import Derived.Test.YtejbpoclfjkllaaCY2
import Derived.Test.YtejbpoclfjkllaaA5
import Derived.Test.YtejbpoclfjkllaaA3
import Derived.Test.YtejbpoclfjkllaaA3b
namespace Go.Proofs.Ytejbpoclfjkllaa
open Go Go.RowKit Go.Shelf

set_option maxRecDepth 100000 in
set_option maxHeartbeats 16000000 in
theorem lineSharp_any (w : World) (N : Int) (a : Option Addr) (cap : Nat) (bs : List Bd) (a2 : Option Addr) (cap2 : Nat) (vs : List Int) (a3 : Option Addr) (cap3 : Nat) (tk : List Int) (x y m : Int) (hN : i64ok N) (hl : bs.length ≤ 9223372036854775807)
    (hl2 : vs.length ≤ 9223372036854775807) (hl3 : tk.length ≤ 9223372036854775807) (h : BoundsAt w a bs) (h2 : IntsAt w a2 vs) (h3 : IntsAt w a3 tk) :
    Calls Try.prog 21 #[.agg #[.int .i64 N, .slice a bs.length cap], .slice a2 vs.length cap2, .slice a3 tk.length cap3, .int .i64 x, .int .i64 y, .int .i64 m] w fun e w' => e = .returned (.bool true) ∧ Below w.heap.size w w' := by
  have b0 : Below w.heap.size w (w.alloc (.cells #[.int .i64 N, .slice a bs.length cap] 24)) := (Below.refl _ _).alloc (Nat.le_refl _) _
  obtain ⟨f, hf⟩ : ∃ f, fewP N bs.length 14 40 = f := ⟨_, rfl⟩
  have hs := fun W => someL_any W N a cap bs.length
  rw [hf] at hs
  have B0 := hidE b0
  have HN := hidE hN
  have H := hidE h
  have H2 := hidE h2
  have H3 := hidE h3
  have HS := hidE hs
  clear b0 hN h h2 h3 hs hf
  cases f with
  | false =>
    go_enter Try.func21, Try.ntmps21
    go_wp2_with fail
    refine (HS.out _).mono ?_
    rintro e w1 ⟨rfl, hb1⟩
    have B1 := hidE (B0.out.trans (hb1.mono B0.out.size))
    go_wp2_with fail
    refine (alive_any _).mono ?_
    rintro e w2 ⟨rfl, hb2⟩
    go_wp2_with fail
    go_ret
    exact ⟨rfl, B1.out.trans (hb2.mono B1.out.size)⟩
  | true =>
    by_cases g1 : 20 < vs.length
    · have hd : decide ((vs.length : Int) > 20) = true := by simp; omega
      clear g1
      go_enter Try.func21, Try.ntmps21
      go_wp2_with fail
      refine (HS.out _).mono ?_
      rintro e w1 ⟨rfl, hb1⟩
      have B1 := hidE (B0.out.trans (hb1.mono B0.out.size))
      go_wp2_with fail
      refine (alive_any _).mono ?_
      rintro e w2 ⟨rfl, hb2⟩
      go_wp2_with fail
      go_ret
      exact ⟨rfl, B1.out.trans (hb2.mono B1.out.size)⟩
    have d1 : decide ((vs.length : Int) > 20) = false := by simp; omega
    by_cases g2 : 60 < tk.length
    · have hd : decide ((tk.length : Int) > 60) = true := by simp; omega
      clear g1 g2
      go_enter Try.func21, Try.ntmps21
      go_wp2_with fail
      refine (HS.out _).mono ?_
      rintro e w1 ⟨rfl, hb1⟩
      have B1 := hidE (B0.out.trans (hb1.mono B0.out.size))
      go_wp2_with fail
      refine (alive_any _).mono ?_
      rintro e w2 ⟨rfl, hb2⟩
      go_wp2_with fail
      go_ret
      exact ⟨rfl, B1.out.trans (hb2.mono B1.out.size)⟩
    have d2 : decide ((tk.length : Int) > 60) = false := by simp; omega
    clear g1 g2
    have hdi := fun W hb => distance_any W N a cap bs x y HN.out hl hb
    obtain ⟨dv, hdv⟩ : ∃ t, (distanceP N bs x y).1 = t := ⟨_, rfl⟩
    obtain ⟨db, hdb⟩ : ∃ t, (distanceP N bs x y).2.1 = t := ⟨_, rfl⟩
    obtain ⟨de, hde⟩ : ∃ t, (distanceP N bs x y).2.2 = t := ⟨_, rfl⟩
    rw [hdv, hdb, hde] at hdi
    have hbad := distanceP_bad (N := N) (bs := bs) (x := x) (y := y)
    have hsh := sharp_law (N := N) (bs := bs) (x := x) (y := y) (m := m) tk
    have hpa := fun W hb => path_any W N a cap bs x y HN.out hl hb
    have hbt := fun W hb => between_any W N a cap bs x y HN.out hl hb
    have hcp := fun W hb hb2 => checkPath_any W N a cap bs a3 cap3 tk x y m HN.out hl hl3 hb hb2
    have hke := fun W hb hb2 => kept_any W N a cap bs a2 cap2 vs HN.out hl hl2 hb hb2
    obtain ⟨pl, hpl⟩ : ∃ t, (pathE N bs x y).1 = t := ⟨_, rfl⟩
    obtain ⟨pe, hpe⟩ : ∃ t, (pathE N bs x y).2 = t := ⟨_, rfl⟩
    obtain ⟨⟨lo, hi, lb, hb⟩, hrg⟩ : ∃ t, (betweenP N bs x y).1 = t := ⟨_, rfl⟩
    obtain ⟨be, hbe⟩ : ∃ t, (betweenP N bs x y).2 = t := ⟨_, rfl⟩
    obtain ⟨cb, hcb⟩ : ∃ t, (checkPathE N bs tk x y m).1 = t := ⟨_, rfl⟩
    obtain ⟨ce, hce⟩ : ∃ t, (checkPathE N bs tk x y m).2 = t := ⟨_, rfl⟩
    obtain ⟨k1, hk1⟩ : ∃ t, (keptE N bs vs).1 = t := ⟨_, rfl⟩
    obtain ⟨k2, hk2⟩ : ∃ t, (keptE N bs vs).2.1 = t := ⟨_, rfl⟩
    obtain ⟨k3, hk3⟩ : ∃ t, (keptE N bs vs).2.2 = t := ⟨_, rfl⟩
    have hk0 := keptE_bad (N := N) (bs := bs) (y := vs)
    rw [hdb, hde] at hbad
    rw [hpl, hpe] at hpa
    rw [hrg, hbe] at hbt
    simp only [Sp.arr] at hbt
    rw [hcb, hce] at hcp
    rw [hk1, hk2, hk3] at hke
    rw [hk2, hk3] at hk0
    rw [hde, hdv, hdb, hpl, hpe, hrg, hbe, hcb, hce] at hsh
    have HDI := hidE hdi
    have HBAD := hidE hbad
    have HSH := hidE hsh
    have HPA := hidE hpa
    have HBT := hidE hbt
    have HCP := hidE hcp
    have HKE := hidE hke
    have HK0 := hidE hk0
    have HK2 := hidE hk2
    clear hdi hbad hsh hpa hbt hcp hke hk0 hdv hdb hde hpl hpe hrg hbe hcb hce hk1 hk2 hk3
    go_enter Try.func21, Try.ntmps21
    go_wp2_with fail
    refine (HS.out _).mono ?_
    rintro e w1 ⟨rfl, hb1⟩
    have x1 := blk_below hb1 (by simp) (heap_alloc_new w (.cells #[.int .i64 N, .slice a bs.length cap] 24))
    have e0 : w1.cell? ⟨w.heap.size, 0, none⟩ = some (.int .i64 N) := by rw [cell_of_row _ _ _ _ _ _ x1]; rfl
    have e1 : w1.cell? ⟨w.heap.size, 1, none⟩ = some (.slice a bs.length cap) := by rw [cell_of_row _ _ _ _ _ _ x1]; rfl
    have B1 := hidE (B0.out.trans (hb1.mono B0.out.size))
    have X1 := hidE x1
    clear x1 hb1
    go_wp2_with fail
    refine (HDI.out _ (H.out.below B1.out (Nat.le_refl _))).mono ?_
    rintro e w2 ⟨rfl, hb2⟩
    have x2 := blk_below hb2 (lt_of_block X1.out) X1.out
    have f0 : w2.cell? ⟨w.heap.size, 0, none⟩ = some (.int .i64 N) := by rw [cell_of_row _ _ _ _ _ _ x2]; rfl
    have f1 : w2.cell? ⟨w.heap.size, 1, none⟩ = some (.slice a bs.length cap) := by rw [cell_of_row _ _ _ _ _ _ x2]; rfl
    have B2 := hidE (B1.out.trans (hb2.mono B1.out.size))
    have X2 := hidE x2
    clear e0 e1 hb2 x2
    by_cases hde : de = 0
    · subst hde
      have S := hidE (HSH.out rfl)
      go_wp2_with fail
      refine (HPA.out _ (H.out.below B2.out (Nat.le_refl _))).mono ?_
      rintro e w2' ⟨⟨vv, rfl, ho⟩, hb3⟩
      obtain ⟨o1, q1, rfl, hi1, _⟩ := intsAt_of_owns ho
      have x3 := blk_below hb3 (lt_of_block X2.out) X2.out
      have e0 : w2'.cell? ⟨w.heap.size, 0, none⟩ = some (.int .i64 N) := by rw [cell_of_row _ _ _ _ _ _ x3]; rfl
      have e1 : w2'.cell? ⟨w.heap.size, 1, none⟩ = some (.slice a bs.length cap) := by rw [cell_of_row _ _ _ _ _ _ x3]; rfl
      have B3 := hidE (B2.out.trans (hb3.mono B2.out.size))
      have X3 := hidE x3
      have I3 := hidE hi1
      clear f0 f1 hb3 x3 ho hi1
      go_wp2_with fail
      refine (HBT.out _ (H.out.below B3.out (Nat.le_refl _))).mono ?_
      rintro e w3 ⟨rfl, hb4⟩
      have x4 := blk_below hb4 (lt_of_block X3.out) X3.out
      have B4 := hidE (B3.out.trans (hb4.mono B3.out.size))
      have X4 := hidE x4
      have I4 := hidE (I3.out.below hb4 (Nat.le_refl _))
      clear e0 e1 hb4 x4
      go_upto_region 8 with fail
      obtain ⟨W5, hW5⟩ : ∃ W5, W5 = w3.alloc (.cells #[.int .i64 lo, .int .i64 hi, .bool lb, .bool hb] 33) := ⟨_, rfl⟩
      rw [← hW5]
      have hb5 : Below w3.heap.size w3 W5 := by rw [hW5]; exact (Below.refl _ _).alloc (Nat.le_refl _) _
      have z5 : W5.heap[w3.heap.size]? = some (.cells #[.int .i64 lo, .int .i64 hi, .bool lb, .bool hb] 33 (0,0)) := by rw [hW5]; exact heap_alloc_new _ _
      have x5 := blk_below hb5 (lt_of_block X4.out) X4.out
      have e0 : W5.cell? ⟨w.heap.size, 0, none⟩ = some (.int .i64 N) := by rw [cell_of_row _ _ _ _ _ _ x5]; rfl
      have e1 : W5.cell? ⟨w.heap.size, 1, none⟩ = some (.slice a bs.length cap) := by rw [cell_of_row _ _ _ _ _ _ x5]; rfl
      have B5 := hidE (B4.out.trans (hb5.mono B4.out.size))
      have X5 := hidE x5
      have Z5 := hidE z5
      have I5 := hidE (I4.out.below hb5 (Nat.le_refl _))
      clear hW5 hb5 z5 x5
      go_wp2_with fail
      refine (HCP.out _ (H.out.below B5.out (Nat.le_refl _)) (H3.out.below B5.out (Nat.le_refl _))).mono ?_
      rintro e w6 ⟨rfl, hb6⟩
      have x6 := blk_below hb6 (lt_of_block X5.out) X5.out
      have z6 := blk_below hb6 (lt_of_block Z5.out) Z5.out
      have B6 := hidE (B5.out.trans (hb6.mono B5.out.size))
      have X6 := hidE x6
      have Z6 := hidE z6
      have I6 := hidE (I5.out.below hb6 (Nat.le_refl _))
      clear e0 e1 hb6 x6 z6
      obtain ⟨rfl, rfl, s3, s4, s5, s6, s7, s8, s9, s10, s11⟩ := S.out
      simp only at s4 s5
      subst s4
      have S6 := hidE s6
      have S10 := hidE s10
      have S11 := hidE s11
      cases hb with
      | false =>
        have hp : ¬ pe = 0 := by simpa using s3.symm
        have q1 : (pe == 0) = false := by simpa using hp
        have hcb : cb = false := by
          cases cb with
          | false => rfl
          | true => exact absurd (S6.out rfl).1 (by simp)
        subst hcb
        clear hp s3 s5 s6 s10 s11
        have g0 : w6.cell? ⟨w3.heap.size, 0, none⟩ = some (.int .i64 lo) := by rw [cell_of_row _ _ _ _ _ _ Z6.out]; rfl
        have g1 : w6.cell? ⟨w3.heap.size, 1, none⟩ = some (.int .i64 hi) := by rw [cell_of_row _ _ _ _ _ _ Z6.out]; rfl
        have g2 : w6.cell? ⟨w3.heap.size, 2, none⟩ = some (.bool lb) := by rw [cell_of_row _ _ _ _ _ _ Z6.out]; rfl
        have g3 : w6.cell? ⟨w3.heap.size, 3, none⟩ = some (.bool false) := by rw [cell_of_row _ _ _ _ _ _ Z6.out]; rfl
        have p0 : w6.cell? ⟨w.heap.size, 0, none⟩ = some (.int .i64 N) := by rw [cell_of_row _ _ _ _ _ _ X6.out]; rfl
        have p1 : w6.cell? ⟨w.heap.size, 1, none⟩ = some (.slice a bs.length cap) := by rw [cell_of_row _ _ _ _ _ _ X6.out]; rfl
        go_wp2_with fail
        refine (HKE.out _ (H.out.below B6.out (Nat.le_refl _)) (H2.out.below B6.out (Nat.le_refl _))).mono ?_
        rintro e wk ⟨rfl, hbk⟩
        have zk := blk_below hbk (lt_of_block Z6.out) Z6.out
        have BK := hidE (B6.out.trans (hbk.mono B6.out.size))
        have ZK := hidE zk
        clear p0 p1 hbk zk
        cases k2 with
        | false =>
          by_cases hk3 : k3 = 0
          · have t3 : (k3 != 0) = false := by simpa using hk3
            clear hk3
            go_wp2_with fail
            refine (alive_any _).mono ?_
            rintro e wl ⟨rfl, hbl⟩
            go_wp2_with fail
            go_ret
            exact ⟨rfl, BK.out.trans (hbl.mono BK.out.size)⟩
          · have t3 : (k3 != 0) = true := by simpa using hk3
            clear hk3
            go_wp2_with fail
            refine (alive_any _).mono ?_
            rintro e wl ⟨rfl, hbl⟩
            go_wp2_with fail
            go_ret
            exact ⟨rfl, BK.out.trans (hbl.mono BK.out.size)⟩
        | true =>
          obtain ⟨rfl, _⟩ := HK0.out rfl
          obtain ⟨xa, ya, rfl, rfl, lx, ly, ⟨bx1, bx2⟩, ⟨by1, by2⟩, r1, r2, r3⟩ := S11.out vs HK2.out
          try simp only at r2 r3
          obtain ⟨b7, f7, rfl, hl7, cx⟩ := (H2.out.below BK.out (Nat.le_refl _)).at lx
          obtain ⟨b8, f8, e8, hl8, cy⟩ := (H2.out.below BK.out (Nat.le_refl _)).at ly
          cases e8
          obtain ⟨ux, hux⟩ : ∃ t, vs[xa] = t := ⟨_, rfl⟩
          obtain ⟨uy, huy⟩ : ∃ t, vs[ya] = t := ⟨_, rfl⟩
          rw [List.getD_eq_getElem?_getD, List.getElem?_eq_getElem lx, Option.getD_some, hux] at bx1 bx2
          rw [List.getD_eq_getElem?_getD, List.getElem?_eq_getElem ly, Option.getD_some, huy] at by1 by2
          rw [List.getD_eq_getElem?_getD, List.getElem?_eq_getElem ly, Option.getD_some, huy, List.getD_eq_getElem?_getD, List.getElem?_eq_getElem lx, Option.getD_some, hux] at r1 r2 r3
          rw [hux] at cx
          rw [huy] at cy
          have hw : IntKind.i64.wrap (uy - ux) = uy - ux := IntWalk.i64_in _ (by omega)
          have R3 := hidE r3
          clear r1 r2 r3 hux huy bx1 bx2 by1 by2
          go_wp2_with fail
          go_quiet (fail)
          obtain ⟨Y, hY⟩ : ∃ Y : World, Y = World.drewN wk nq := ⟨_, rfl⟩
          rw [← hY]
          have BY := hidE (show Below w.heap.size w Y by rw [hY]; exact BK.out.trans (below_drewN' _ _))
          have ZY := hidE (show Y.heap[w3.heap.size]? = some (.cells #[.int .i64 lo, .int .i64 hi, .bool lb, .bool false] 33 (0,0)) by rw [hY]; exact ZK.out)
          clear hY cx cy
          go_wp2_with fail
          refine (alive_any _).mono ?_
          rintro e wl ⟨rfl, hbl⟩
          have zl := blk_below hbl (lt_of_block ZY.out) ZY.out
          have r0 : wl.cell? ⟨w3.heap.size, 0, none⟩ = some (.int .i64 lo) := by rw [cell_of_row _ _ _ _ _ _ zl]; rfl
          have r1 : wl.cell? ⟨w3.heap.size, 1, none⟩ = some (.int .i64 hi) := by rw [cell_of_row _ _ _ _ _ _ zl]; rfl
          have r2 : wl.cell? ⟨w3.heap.size, 2, none⟩ = some (.bool lb) := by rw [cell_of_row _ _ _ _ _ _ zl]; rfl
          have r3 : wl.cell? ⟨w3.heap.size, 3, none⟩ = some (.bool false) := by rw [cell_of_row _ _ _ _ _ _ zl]; rfl
          have BL := hidE (BY.out.trans (hbl.mono BY.out.size))
          clear hbl zl
          cases lb with
          | false =>
            go_wp2_with fail
            go_ret
            exact ⟨rfl, BL.out⟩
          | true =>
            have t4 : decide (uy - ux ≥ lo) = true := decide_eq_true (R3.out rfl)
            go_wp2_with fail
            go_ret
            exact ⟨rfl, BL.out⟩
      | true =>
        have hp : pe = 0 := by simpa using s3.symm
        subst hp
        have hhi : hi = dv := s5 rfl
        subst hhi
        obtain ⟨c1, c2⟩ := S10.out rfl
        have hw0 : IntKind.i64.wrap (hi - 1) = hi - 1 := IntWalk.i64_in _ (by omega)
        have hp1 := fun W hb2 hb3 => checkPath_any W N a cap bs o1 q1 pl x y hi HN.out hl (by omega) hb2 hb3
        have hp2 := fun W hb2 hb3 => checkPath_any W N a cap bs o1 q1 pl x y (hi - 1) HN.out hl (by omega) hb2 hb3
        rw [c1] at hp1
        rw [c2] at hp2
        simp only at hp1 hp2
        have HP1 := hidE hp1
        have HP2 := hidE hp2
        have hgm : cb = true → decide (hi > m) = false := fun e => by
          have := (S6.out e).2
          simp; omega
        clear hp1 hp2 c1 c2 s3 s5 s6 s10 s11
        have g0 : w6.cell? ⟨w3.heap.size, 0, none⟩ = some (.int .i64 lo) := by rw [cell_of_row _ _ _ _ _ _ Z6.out]; rfl
        have g1 : w6.cell? ⟨w3.heap.size, 1, none⟩ = some (.int .i64 hi) := by rw [cell_of_row _ _ _ _ _ _ Z6.out]; rfl
        have g2 : w6.cell? ⟨w3.heap.size, 2, none⟩ = some (.bool lb) := by rw [cell_of_row _ _ _ _ _ _ Z6.out]; rfl
        have g3 : w6.cell? ⟨w3.heap.size, 3, none⟩ = some (.bool true) := by rw [cell_of_row _ _ _ _ _ _ Z6.out]; rfl
        have p0 : w6.cell? ⟨w.heap.size, 0, none⟩ = some (.int .i64 N) := by rw [cell_of_row _ _ _ _ _ _ X6.out]; rfl
        have p1 : w6.cell? ⟨w.heap.size, 1, none⟩ = some (.slice a bs.length cap) := by rw [cell_of_row _ _ _ _ _ _ X6.out]; rfl
        cases cb with
        | false =>
          clear hgm
          go_wp2_with fail
          refine (HP1.out _ (H.out.below B6.out (Nat.le_refl _)) I6.out).mono ?_
          rintro e w7 ⟨rfl, hb7⟩
          have x7 := blk_below hb7 (lt_of_block X6.out) X6.out
          have z7 := blk_below hb7 (lt_of_block Z6.out) Z6.out
          have e0 : w7.cell? ⟨w.heap.size, 0, none⟩ = some (.int .i64 N) := by rw [cell_of_row _ _ _ _ _ _ x7]; rfl
          have e1 : w7.cell? ⟨w.heap.size, 1, none⟩ = some (.slice a bs.length cap) := by rw [cell_of_row _ _ _ _ _ _ x7]; rfl
          have B7 := hidE (B6.out.trans (hb7.mono B6.out.size))
          have X7 := hidE x7
          have Z7 := hidE z7
          have I7 := hidE (I6.out.below hb7 (Nat.le_refl _))
          clear p0 p1 g0 g1 g2 g3 hb7 x7 z7
          go_wp2_with fail
          refine (HP2.out _ (H.out.below B7.out (Nat.le_refl _)) I7.out).mono ?_
          rintro e w8 ⟨rfl, hb8⟩
          have x8 := blk_below hb8 (lt_of_block X7.out) X7.out
          have z8 := blk_below hb8 (lt_of_block Z7.out) Z7.out
          have B8 := hidE (B7.out.trans (hb8.mono B7.out.size))
          have X8 := hidE x8
          have Z8 := hidE z8
          clear e0 e1 hb8 x8 z8
          have p0 : w8.cell? ⟨w.heap.size, 0, none⟩ = some (.int .i64 N) := by rw [cell_of_row _ _ _ _ _ _ X8.out]; rfl
          have p1 : w8.cell? ⟨w.heap.size, 1, none⟩ = some (.slice a bs.length cap) := by rw [cell_of_row _ _ _ _ _ _ X8.out]; rfl
          go_wp2_with fail
          refine (HKE.out _ (H.out.below B8.out (Nat.le_refl _)) (H2.out.below B8.out (Nat.le_refl _))).mono ?_
          rintro e wk ⟨rfl, hbk⟩
          have zk := blk_below hbk (lt_of_block Z8.out) Z8.out
          have BK := hidE (B8.out.trans (hbk.mono B8.out.size))
          have ZK := hidE zk
          clear p0 p1 hbk zk
          cases k2 with
          | false =>
            by_cases hk3 : k3 = 0
            · have t3 : (k3 != 0) = false := by simpa using hk3
              clear hk3
              go_wp2_with fail
              refine (alive_any _).mono ?_
              rintro e wl ⟨rfl, hbl⟩
              go_wp2_with fail
              go_ret
              exact ⟨rfl, BK.out.trans (hbl.mono BK.out.size)⟩
            · have t3 : (k3 != 0) = true := by simpa using hk3
              clear hk3
              go_wp2_with fail
              refine (alive_any _).mono ?_
              rintro e wl ⟨rfl, hbl⟩
              go_wp2_with fail
              go_ret
              exact ⟨rfl, BK.out.trans (hbl.mono BK.out.size)⟩
          | true =>
            obtain ⟨rfl, _⟩ := HK0.out rfl
            obtain ⟨xa, ya, rfl, rfl, lx, ly, ⟨bx1, bx2⟩, ⟨by1, by2⟩, r1, r2, r3⟩ := S11.out vs HK2.out
            try simp only at r2 r3
            obtain ⟨b7, f7, rfl, hl7, cx⟩ := (H2.out.below BK.out (Nat.le_refl _)).at lx
            obtain ⟨b8, f8, e8, hl8, cy⟩ := (H2.out.below BK.out (Nat.le_refl _)).at ly
            cases e8
            obtain ⟨ux, hux⟩ : ∃ t, vs[xa] = t := ⟨_, rfl⟩
            obtain ⟨uy, huy⟩ : ∃ t, vs[ya] = t := ⟨_, rfl⟩
            rw [List.getD_eq_getElem?_getD, List.getElem?_eq_getElem lx, Option.getD_some, hux] at bx1 bx2
            rw [List.getD_eq_getElem?_getD, List.getElem?_eq_getElem ly, Option.getD_some, huy] at by1 by2
            rw [List.getD_eq_getElem?_getD, List.getElem?_eq_getElem ly, Option.getD_some, huy, List.getD_eq_getElem?_getD, List.getElem?_eq_getElem lx, Option.getD_some, hux] at r1 r2 r3
            rw [hux] at cx
            rw [huy] at cy
            have hw : IntKind.i64.wrap (uy - ux) = uy - ux := IntWalk.i64_in _ (by omega)
            have t2 : decide (uy - ux ≤ hi) = true := decide_eq_true (r2 (by trivial))
            have R3 := hidE r3
            clear r1 r2 r3 hux huy bx1 bx2 by1 by2
            go_wp2_with fail
            go_quiet (fail)
            obtain ⟨Y, hY⟩ : ∃ Y : World, Y = World.drewN wk nq := ⟨_, rfl⟩
            rw [← hY]
            have BY := hidE (show Below w.heap.size w Y by rw [hY]; exact BK.out.trans (below_drewN' _ _))
            have ZY := hidE (show Y.heap[w3.heap.size]? = some (.cells #[.int .i64 lo, .int .i64 hi, .bool lb, .bool true] 33 (0,0)) by rw [hY]; exact ZK.out)
            clear hY cx cy
            go_wp2_with fail
            refine (alive_any _).mono ?_
            rintro e wl ⟨rfl, hbl⟩
            have zl := blk_below hbl (lt_of_block ZY.out) ZY.out
            have r0 : wl.cell? ⟨w3.heap.size, 0, none⟩ = some (.int .i64 lo) := by rw [cell_of_row _ _ _ _ _ _ zl]; rfl
            have r1 : wl.cell? ⟨w3.heap.size, 1, none⟩ = some (.int .i64 hi) := by rw [cell_of_row _ _ _ _ _ _ zl]; rfl
            have r2 : wl.cell? ⟨w3.heap.size, 2, none⟩ = some (.bool lb) := by rw [cell_of_row _ _ _ _ _ _ zl]; rfl
            have r3 : wl.cell? ⟨w3.heap.size, 3, none⟩ = some (.bool true) := by rw [cell_of_row _ _ _ _ _ _ zl]; rfl
            have BL := hidE (BY.out.trans (hbl.mono BY.out.size))
            clear hbl zl
            cases lb with
            | false =>
              go_wp2_with fail
              go_ret
              exact ⟨rfl, BL.out⟩
            | true =>
              have t4 : decide (uy - ux ≥ lo) = true := decide_eq_true (R3.out rfl)
              go_wp2_with fail
              go_ret
              exact ⟨rfl, BL.out⟩
        | true =>
          have t0 := hgm rfl
          clear hgm
          go_wp2_with fail
          refine (HP1.out _ (H.out.below B6.out (Nat.le_refl _)) I6.out).mono ?_
          rintro e w7 ⟨rfl, hb7⟩
          have x7 := blk_below hb7 (lt_of_block X6.out) X6.out
          have z7 := blk_below hb7 (lt_of_block Z6.out) Z6.out
          have e0 : w7.cell? ⟨w.heap.size, 0, none⟩ = some (.int .i64 N) := by rw [cell_of_row _ _ _ _ _ _ x7]; rfl
          have e1 : w7.cell? ⟨w.heap.size, 1, none⟩ = some (.slice a bs.length cap) := by rw [cell_of_row _ _ _ _ _ _ x7]; rfl
          have B7 := hidE (B6.out.trans (hb7.mono B6.out.size))
          have X7 := hidE x7
          have Z7 := hidE z7
          have I7 := hidE (I6.out.below hb7 (Nat.le_refl _))
          clear p0 p1 g0 g1 g2 g3 hb7 x7 z7
          go_wp2_with fail
          refine (HP2.out _ (H.out.below B7.out (Nat.le_refl _)) I7.out).mono ?_
          rintro e w8 ⟨rfl, hb8⟩
          have x8 := blk_below hb8 (lt_of_block X7.out) X7.out
          have z8 := blk_below hb8 (lt_of_block Z7.out) Z7.out
          have B8 := hidE (B7.out.trans (hb8.mono B7.out.size))
          have X8 := hidE x8
          have Z8 := hidE z8
          clear e0 e1 hb8 x8 z8
          have p0 : w8.cell? ⟨w.heap.size, 0, none⟩ = some (.int .i64 N) := by rw [cell_of_row _ _ _ _ _ _ X8.out]; rfl
          have p1 : w8.cell? ⟨w.heap.size, 1, none⟩ = some (.slice a bs.length cap) := by rw [cell_of_row _ _ _ _ _ _ X8.out]; rfl
          go_wp2_with fail
          refine (HKE.out _ (H.out.below B8.out (Nat.le_refl _)) (H2.out.below B8.out (Nat.le_refl _))).mono ?_
          rintro e wk ⟨rfl, hbk⟩
          have zk := blk_below hbk (lt_of_block Z8.out) Z8.out
          have BK := hidE (B8.out.trans (hbk.mono B8.out.size))
          have ZK := hidE zk
          clear p0 p1 hbk zk
          cases k2 with
          | false =>
            by_cases hk3 : k3 = 0
            · have t3 : (k3 != 0) = false := by simpa using hk3
              clear hk3
              go_wp2_with fail
              refine (alive_any _).mono ?_
              rintro e wl ⟨rfl, hbl⟩
              go_wp2_with fail
              go_ret
              exact ⟨rfl, BK.out.trans (hbl.mono BK.out.size)⟩
            · have t3 : (k3 != 0) = true := by simpa using hk3
              clear hk3
              go_wp2_with fail
              refine (alive_any _).mono ?_
              rintro e wl ⟨rfl, hbl⟩
              go_wp2_with fail
              go_ret
              exact ⟨rfl, BK.out.trans (hbl.mono BK.out.size)⟩
          | true =>
            obtain ⟨rfl, _⟩ := HK0.out rfl
            obtain ⟨xa, ya, rfl, rfl, lx, ly, ⟨bx1, bx2⟩, ⟨by1, by2⟩, r1, r2, r3⟩ := S11.out vs HK2.out
            try simp only at r2 r3
            obtain ⟨b7, f7, rfl, hl7, cx⟩ := (H2.out.below BK.out (Nat.le_refl _)).at lx
            obtain ⟨b8, f8, e8, hl8, cy⟩ := (H2.out.below BK.out (Nat.le_refl _)).at ly
            cases e8
            obtain ⟨ux, hux⟩ : ∃ t, vs[xa] = t := ⟨_, rfl⟩
            obtain ⟨uy, huy⟩ : ∃ t, vs[ya] = t := ⟨_, rfl⟩
            rw [List.getD_eq_getElem?_getD, List.getElem?_eq_getElem lx, Option.getD_some, hux] at bx1 bx2
            rw [List.getD_eq_getElem?_getD, List.getElem?_eq_getElem ly, Option.getD_some, huy] at by1 by2
            rw [List.getD_eq_getElem?_getD, List.getElem?_eq_getElem ly, Option.getD_some, huy, List.getD_eq_getElem?_getD, List.getElem?_eq_getElem lx, Option.getD_some, hux] at r1 r2 r3
            rw [hux] at cx
            rw [huy] at cy
            have hw : IntKind.i64.wrap (uy - ux) = uy - ux := IntWalk.i64_in _ (by omega)
            have t1 : decide (uy - ux ≤ m) = true := decide_eq_true (r1 (by trivial))
            have t2 : decide (uy - ux ≤ hi) = true := decide_eq_true (r2 (by trivial))
            have R3 := hidE r3
            clear r1 r2 r3 hux huy bx1 bx2 by1 by2
            go_wp2_with fail
            go_quiet (fail)
            obtain ⟨Y, hY⟩ : ∃ Y : World, Y = World.drewN wk nq := ⟨_, rfl⟩
            rw [← hY]
            have BY := hidE (show Below w.heap.size w Y by rw [hY]; exact BK.out.trans (below_drewN' _ _))
            have ZY := hidE (show Y.heap[w3.heap.size]? = some (.cells #[.int .i64 lo, .int .i64 hi, .bool lb, .bool true] 33 (0,0)) by rw [hY]; exact ZK.out)
            clear hY cx cy
            go_wp2_with fail
            refine (alive_any _).mono ?_
            rintro e wl ⟨rfl, hbl⟩
            have zl := blk_below hbl (lt_of_block ZY.out) ZY.out
            have r0 : wl.cell? ⟨w3.heap.size, 0, none⟩ = some (.int .i64 lo) := by rw [cell_of_row _ _ _ _ _ _ zl]; rfl
            have r1 : wl.cell? ⟨w3.heap.size, 1, none⟩ = some (.int .i64 hi) := by rw [cell_of_row _ _ _ _ _ _ zl]; rfl
            have r2 : wl.cell? ⟨w3.heap.size, 2, none⟩ = some (.bool lb) := by rw [cell_of_row _ _ _ _ _ _ zl]; rfl
            have r3 : wl.cell? ⟨w3.heap.size, 3, none⟩ = some (.bool true) := by rw [cell_of_row _ _ _ _ _ _ zl]; rfl
            have BL := hidE (BY.out.trans (hbl.mono BY.out.size))
            clear hbl zl
            cases lb with
            | false =>
              go_wp2_with fail
              go_ret
              exact ⟨rfl, BL.out⟩
            | true =>
              have t4 : decide (uy - ux ≥ lo) = true := decide_eq_true (R3.out rfl)
              go_wp2_with fail
              go_ret
              exact ⟨rfl, BL.out⟩
    · have t0 : (de != 0) = true := by simpa using hde
      have hdb := HBAD.out hde
      subst hdb
      clear hde
      go_wp2_with fail
      refine (alive_any _).mono ?_
      rintro e w3 ⟨rfl, hb3⟩
      go_wp2_with fail
      go_ret
      exact ⟨rfl, B2.out.trans (hb3.mono B2.out.size)⟩

end Go.Proofs.Ytejbpoclfjkllaa
