/- Walk: the law LineDistances. -/
import Derived.Test.YtejbpoclfjkllaaCZ8
import Derived.Test.YtejbpoclfjkllaaCYg
import Derived.Test.YtejbpoclfjkllaaCYc
namespace Go.Proofs.Ytejbpoclfjkllaa
open Go Go.RowKit Go.Shelf

set_option maxRecDepth 100000 in
set_option maxHeartbeats 4000000 in
theorem lineDistances_any (w : World) (N : Int) (a : Option Addr) (cap : Nat) (bs : List Bd) (x y : Int) (hN : i64ok N) (hl : bs.length ≤ 9223372036854775807) (h : BoundsAt w a bs) :
    Calls Try.prog 7 #[.agg #[.int .i64 N, .slice a bs.length cap], .int .i64 x, .int .i64 y] w fun e w' => e = .returned (.bool true) ∧ Below w.heap.size w w' := by
  have b0 : Below w.heap.size w (w.alloc (.cells #[.int .i64 N, .slice a bs.length cap] 24)) := (Below.refl _ _).alloc (Nat.le_refl _) _
  obtain ⟨f, hf⟩ : ∃ f, fewP N bs.length 14 40 = f := ⟨_, rfl⟩
  have hs := fun W => someL_any W N a cap bs.length
  rw [hf] at hs
  have hfew : f = true → checkP N bs = 0 → N ≤ 14 := fun e hc => (fewP_pts (hf.trans e) rfl (by omega) hc).1
  have B0 := hidE b0
  have HN := hidE hN
  have H := hidE h
  have HS := hidE hs
  have HFW := hidE hfew
  clear b0 hN h hs hf hfew
  cases f with
  | false =>
    go_enter Try.func7, Try.ntmps7
    go_wp2_with fail
    refine (HS.out _).mono ?_
    rintro e w1 ⟨rfl, hb1⟩
    have B1 := hidE (B0.out.trans (hb1.mono B0.out.size))
    go_wp2_with fail
    refine (alive_any _).mono ?_
    rintro e w2 ⟨rfl, hb2⟩
    go_wp2_with fail
    go_ret
    exact ⟨rfl, B1.out.trans (hb2.mono B1.out.size)⟩
  | true =>
    have h1 := fun W hb => distance_any W N a cap bs x y HN.out hl hb
    have h2 := fun W hb => refdistance_any W N a cap bs x y HN.out hl hb (fun hc => by have := HFW.out rfl hc; omega)
    have h3 := fun W hb => distances0_any W N a cap bs x HN.out hl hb
    have h4 := fun W hb => refdistances_any W N a cap bs x HN.out hl hb (fun hc => by have := HFW.out rfl hc; omega)
    have hl1 : (distancesP N bs x).1.length ≤ 1000 ∧ (distancesP N bs x).2.1.length ≤ 1000 := by
      unfold distancesP
      by_cases he : askedE N bs [x] = 0
      · rw [if_pos he]
        have := HFW.out rfl (askedE_zero he).1
        constructor <;> (simp only [List.length_map, List.length_range]; omega)
      · rw [if_neg he]; simp
    obtain ⟨d1, hd1⟩ : ∃ t, (distanceP N bs x y).1 = t := ⟨_, rfl⟩
    obtain ⟨d2, hd2⟩ : ∃ t, (distanceP N bs x y).2.1 = t := ⟨_, rfl⟩
    obtain ⟨d3, hd3⟩ : ∃ t, (distanceP N bs x y).2.2 = t := ⟨_, rfl⟩
    obtain ⟨⟨L1, L2, e3⟩, hdl⟩ : ∃ t, distancesP N bs x = t := ⟨_, rfl⟩
    rw [hd1, hd2, hd3] at h1 h2
    rw [hdl] at h3 h4 hl1
    simp only at hl1
    unfold DistPost at h3 h4
    simp only at h3 h4
    have HP1 := hidE h1
    have HP2 := hidE h2
    have HP3 := hidE h3
    have HP4 := hidE h4
    have HLN := hidE hl1
    clear h1 h2 h3 h4 hd1 hd2 hd3 hdl hl1
    go_enter Try.func7, Try.ntmps7
    go_wp2_with fail
    refine (HS.out _).mono ?_
    rintro e w1 ⟨rfl, hb1⟩
    have x1 := blk_below hb1 (by simp) (heap_alloc_new w (.cells #[.int .i64 N, .slice a bs.length cap] 24))
    have X1 := hidE x1
    have B1 := hidE (B0.out.trans (hb1.mono B0.out.size))
    clear x1 hb1
    have e0 : w1.cell? ⟨w.heap.size, 0, none⟩ = some (.int .i64 N) := by rw [cell_of_row _ _ _ _ _ _ X1.out]; rfl
    have e1 : w1.cell? ⟨w.heap.size, 1, none⟩ = some (.slice a bs.length cap) := by rw [cell_of_row _ _ _ _ _ _ X1.out]; rfl
    go_wp2_with fail
    refine (HP1.out _ (H.out.below B1.out (Nat.le_refl _))).mono ?_
    rintro e w2 ⟨rfl, hb2⟩
    have X2 := hidE (blk_below hb2 (lt_of_block X1.out) X1.out)
    have B2 := hidE (B1.out.trans (hb2.mono B1.out.size))
    clear e0 e1 hb2
    have e0 : w2.cell? ⟨w.heap.size, 0, none⟩ = some (.int .i64 N) := by rw [cell_of_row _ _ _ _ _ _ X2.out]; rfl
    have e1 : w2.cell? ⟨w.heap.size, 1, none⟩ = some (.slice a bs.length cap) := by rw [cell_of_row _ _ _ _ _ _ X2.out]; rfl
    go_wp2_with fail
    refine (HP2.out _ (H.out.below B2.out (Nat.le_refl _))).mono ?_
    rintro e w3 ⟨rfl, hb3⟩
    have X3 := hidE (blk_below hb3 (lt_of_block X2.out) X2.out)
    have B3 := hidE (B2.out.trans (hb3.mono B2.out.size))
    clear e0 e1 hb3
    have e0 : w3.cell? ⟨w.heap.size, 0, none⟩ = some (.int .i64 N) := by rw [cell_of_row _ _ _ _ _ _ X3.out]; rfl
    have e1 : w3.cell? ⟨w.heap.size, 1, none⟩ = some (.slice a bs.length cap) := by rw [cell_of_row _ _ _ _ _ _ X3.out]; rfl
    go_wp2_with fail
    refine (HP3.out _ (H.out.below B3.out (Nat.le_refl _))).mono ?_
    rintro e w4 ⟨⟨p3, q3, r3, s3, rfl, hi3, hj3⟩, hb4⟩
    have I3_4 := hidE hi3
    have J3_4 := hidE hj3
    clear hi3 hj3
    have X4 := hidE (blk_below hb4 (lt_of_block X3.out) X3.out)
    have B4 := hidE (B3.out.trans (hb4.mono B3.out.size))
    clear e0 e1 hb4
    have e0 : w4.cell? ⟨w.heap.size, 0, none⟩ = some (.int .i64 N) := by rw [cell_of_row _ _ _ _ _ _ X4.out]; rfl
    have e1 : w4.cell? ⟨w.heap.size, 1, none⟩ = some (.slice a bs.length cap) := by rw [cell_of_row _ _ _ _ _ _ X4.out]; rfl
    go_wp2_with fail
    refine (HP4.out _ (H.out.below B4.out (Nat.le_refl _))).mono ?_
    rintro e w5 ⟨⟨p4, q4, r4, s4, rfl, hi4, hj4⟩, hb5⟩
    have I3_5 := hidE (I3_4.out.below hb5 (Nat.le_refl _))
    have J3_5 := hidE (J3_4.out.below hb5 (Nat.le_refl _))
    have I4_5 := hidE hi4
    have J4_5 := hidE hj4
    clear hi4 hj4
    have X5 := hidE (blk_below hb5 (lt_of_block X4.out) X4.out)
    have B5 := hidE (B4.out.trans (hb5.mono B4.out.size))
    clear e0 e1 hb5
    go_wp2_with fail
    refine (alive_any _).mono ?_
    rintro e w6 ⟨rfl, hb6⟩
    have hsi := sameInts_any w6 p3 q3 L1 p4 q4 L1 (I3_5.out.below hb6 (Nat.le_refl _)) (I4_5.out.below hb6 (Nat.le_refl _)) (by have := HLN.out.1; omega) (by have := HLN.out.1; omega)
    rw [show decide (L1 = L1) = true by simp] at hsi
    have HSI := hidE hsi
    have J3_6 := hidE (J3_5.out.below hb6 (Nat.le_refl _))
    have J4_6 := hidE (J4_5.out.below hb6 (Nat.le_refl _))
    have B6 := hidE (B5.out.trans (hb6.mono B5.out.size))
    clear hsi hb6
    go_wp2_with fail
    refine HSI.out.mono ?_
    rintro e w7 ⟨rfl, hb7⟩
    have hsf := sameFlags_any w7 r3 s3 L2 r4 s4 L2 (J3_6.out.below hb7 (Nat.le_refl _)) (J4_6.out.below hb7 (Nat.le_refl _)) (by have := HLN.out.2; omega) (by have := HLN.out.2; omega)
    rw [show decide (L2 = L2) = true by simp] at hsf
    have HSF := hidE hsf
    have B7 := hidE (B6.out.trans (hb7.mono B6.out.size))
    clear hsf hb7
    go_wp2_with fail
    refine HSF.out.mono ?_
    rintro e w8 ⟨rfl, hb8⟩
    go_wp2_with fail
    go_ret
    exact ⟨rfl, B7.out.trans (hb8.mono B7.out.size)⟩

end Go.Proofs.Ytejbpoclfjkllaa
