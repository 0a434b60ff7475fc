/- Walk: the law LineCircles. -/
import Derived.Test.YtejbpoclfjkllaaCZt
import Derived.Test.YtejbpoclfjkllaaCZu
import Derived.Test.YtejbpoclfjkllaaA5
namespace Go.Proofs.Ytejbpoclfjkllaa
open Go Go.RowKit Go.Shelf

theorem circleP_len {N : Int} {bs : List Bd} : (circleP N bs).1.length ≤ 1000 := by
  by_cases hc : checkP N bs = 0
  · obtain ⟨n0, n1, _, _⟩ := checkP_zero hc
    obtain ⟨R, rfl⟩ := Int.eq_ofNat_of_zero_le (show 0 ≤ N by omega)
    by_cases ho : openedP R bs = none
    · obtain ⟨M, i, _, _, h2, hMR, hE⟩ := circle_end hc ho
      rw [hE]
      have := followR_len bs (stepsRow R (bs.drop (i + 1)) (bs.getD i bd0).src.toNat) (ksFrom (i + 1) bs.length) (M - 1) (bs.getD i bd0).dst (-1 - (bs.getD i bd0).most) []
      simp only [List.length_nil, List.length_cons] at this ⊢
      omega
    · have hk : (openedP R bs).isSome = true := by
        cases hh : openedP R bs with
        | none => exact absurd hh ho
        | some t => rfl
      unfold circleP
      rw [if_neg (by simp [hc]), if_pos hk]; simp
  · unfold circleP
    rw [if_pos hc]; simp

set_option maxRecDepth 100000 in
set_option maxHeartbeats 4000000 in
theorem lineCircles_any (w : World) (N : Int) (a : Option Addr) (cap : Nat) (bs : List Bd) (a2 : Option Addr) (cap2 : Nat) (l : List Int) (hN : i64ok N) (hl : bs.length ≤ 9223372036854775807) (h : BoundsAt w a bs) (hl2 : l.length ≤ 9223372036854775807) (h2 : IntsAt w a2 l) :
    Calls Try.prog 19 #[.agg #[.int .i64 N, .slice a bs.length cap], .slice a2 l.length cap2] w fun e w' => e = .returned (.bool true) ∧ Below w.heap.size w w' := by
  have b0 : Below w.heap.size w (w.alloc (.cells #[.int .i64 N, .slice a bs.length cap] 24)) := (Below.refl _ _).alloc (Nat.le_refl _) _
  obtain ⟨f, hf⟩ : ∃ f, fewP N bs.length 8 14 = f := ⟨_, rfl⟩
  have hs := fun W => fewL_any W N a cap bs.length
  rw [hf] at hs
  have B0 := hidE b0
  have HN := hidE hN
  have H := hidE h
  have H2 := hidE h2
  have HS := hidE hs
  clear b0 hN h h2 hs hf
  cases f with
  | false =>
    go_enter Try.func19, Try.ntmps19
    go_wp2_with fail
    refine (HS.out _).mono ?_
    rintro e w1 ⟨rfl, hb1⟩
    have B1 := hidE (B0.out.trans (hb1.mono B0.out.size))
    go_wp2_with fail
    refine (alive_any _).mono ?_
    rintro e w2 ⟨rfl, hb2⟩
    go_wp2_with fail
    go_ret
    exact ⟨rfl, B1.out.trans (hb2.mono B1.out.size)⟩
  | true =>
    by_cases c1 : l.length ≤ 20
    · have d1 : decide ((l.length : Int) > 20) = false := by simp; omega
      have h1 := fun W hb => consistent_any W N a cap bs HN.out hl hb
      have h2 := fun W hb => refconsistentE_any W N a cap bs HN.out hl hb
      have h3 := fun W hb => circle_any W N a cap bs HN.out hl hb
      have h4 := fun W hb => refcircle_any W N a cap bs HN.out hl hb
      have h5 := fun W hb hb2 => checkCircle_any W N a cap bs a2 cap2 l HN.out hl hl2 hb hb2
      have h6 := fun W hb hb2 => refcheckCircle_any W N a cap bs a2 cap2 l HN.out hl (by omega) hb hb2
      have k1 := circleP_len (N := N) (bs := bs)
      obtain ⟨⟨q1, e1⟩, hd1⟩ : ∃ t, consistentE N bs = t := ⟨_, rfl⟩
      obtain ⟨⟨L2, q2, e2⟩, hd2⟩ : ∃ t, circleP N bs = t := ⟨_, rfl⟩
      obtain ⟨⟨q3, e3⟩, hd3⟩ : ∃ t, checkCircleP N bs l = t := ⟨_, rfl⟩
      rw [hd1] at h1 h2
      rw [hd2] at h3 h4 k1
      rw [hd3] at h5 h6
      simp only at k1 h1 h2 h5 h6
      have HP1 := hidE h1
      have HP2 := hidE h2
      have HP3 := hidE h3
      have HP4 := hidE h4
      have HP5 := hidE h5
      have HP6 := hidE h6
      have HK := hidE k1
      clear h1 h2 h3 h4 h5 h6 k1 hd1 hd2 hd3
      go_enter Try.func19, Try.ntmps19
      go_wp2_with fail
      refine (HS.out _).mono ?_
      rintro _ w1 ⟨rfl, hb1⟩
      have X1 := hidE (blk_below hb1 (by simp) (heap_alloc_new w (.cells #[.int .i64 N, .slice a bs.length cap] 24)))
      have B1 := hidE (B0.out.trans (hb1.mono B0.out.size))
      clear hb1
      have f0 : w1.cell? ⟨w.heap.size, 0, none⟩ = some (.int .i64 N) := by rw [cell_of_row _ _ _ _ _ _ X1.out]; rfl
      have f1 : w1.cell? ⟨w.heap.size, 1, none⟩ = some (.slice a bs.length cap) := by rw [cell_of_row _ _ _ _ _ _ X1.out]; rfl
      go_wp2_with fail
      refine (HP1.out _ (H.out.below B1.out (Nat.le_refl _))).mono ?_
      rintro _ w2 ⟨rfl, hb2⟩
      have X2 := hidE (blk_below hb2 (lt_of_block X1.out) X1.out)
      have B2 := hidE (B1.out.trans (hb2.mono B1.out.size))
      clear f0 f1 hb2
      have f0 : w2.cell? ⟨w.heap.size, 0, none⟩ = some (.int .i64 N) := by rw [cell_of_row _ _ _ _ _ _ X2.out]; rfl
      have f1 : w2.cell? ⟨w.heap.size, 1, none⟩ = some (.slice a bs.length cap) := by rw [cell_of_row _ _ _ _ _ _ X2.out]; rfl
      go_wp2_with fail
      refine (HP2.out _ (H.out.below B2.out (Nat.le_refl _))).mono ?_
      rintro _ w3 ⟨rfl, hb3⟩
      have X3 := hidE (blk_below hb3 (lt_of_block X2.out) X2.out)
      have B3 := hidE (B2.out.trans (hb3.mono B2.out.size))
      clear f0 f1 hb3
      have f0 : w3.cell? ⟨w.heap.size, 0, none⟩ = some (.int .i64 N) := by rw [cell_of_row _ _ _ _ _ _ X3.out]; rfl
      have f1 : w3.cell? ⟨w.heap.size, 1, none⟩ = some (.slice a bs.length cap) := by rw [cell_of_row _ _ _ _ _ _ X3.out]; rfl
      go_wp2_with fail
      refine (HP3.out _ (H.out.below B3.out (Nat.le_refl _))).mono ?_
      rintro _ w4 ⟨⟨v3, rfl, ho3⟩, hb4⟩
      obtain ⟨o3, c3, rfl, hi3⟩ := owns_intsAt ho3
      have I3 := hidE hi3
      have X4 := hidE (blk_below hb4 (lt_of_block X3.out) X3.out)
      have B4 := hidE (B3.out.trans (hb4.mono B3.out.size))
      clear f0 f1 hb4 hi3 ho3
      have f0 : w4.cell? ⟨w.heap.size, 0, none⟩ = some (.int .i64 N) := by rw [cell_of_row _ _ _ _ _ _ X4.out]; rfl
      have f1 : w4.cell? ⟨w.heap.size, 1, none⟩ = some (.slice a bs.length cap) := by rw [cell_of_row _ _ _ _ _ _ X4.out]; rfl
      go_wp2_with fail
      refine (HP4.out _ (H.out.below B4.out (Nat.le_refl _))).mono ?_
      rintro _ w5 ⟨⟨v4, rfl, ho4⟩, hb5⟩
      obtain ⟨o4, c4, rfl, hi4⟩ := owns_intsAt ho4
      replace I3 := hidE (I3.out.below hb5 (Nat.le_refl _))
      have I4 := hidE hi4
      have X5 := hidE (blk_below hb5 (lt_of_block X4.out) X4.out)
      have B5 := hidE (B4.out.trans (hb5.mono B4.out.size))
      clear f0 f1 hb5 hi4 ho4
      have f0 : w5.cell? ⟨w.heap.size, 0, none⟩ = some (.int .i64 N) := by rw [cell_of_row _ _ _ _ _ _ X5.out]; rfl
      have f1 : w5.cell? ⟨w.heap.size, 1, none⟩ = some (.slice a bs.length cap) := by rw [cell_of_row _ _ _ _ _ _ X5.out]; rfl
      go_wp2_with fail
      refine (HP5.out _ (H.out.below B5.out (Nat.le_refl _)) (H2.out.below B5.out (Nat.le_refl _))).mono ?_
      rintro _ w6 ⟨rfl, hb6⟩
      replace I3 := hidE (I3.out.below hb6 (Nat.le_refl _))
      replace I4 := hidE (I4.out.below hb6 (Nat.le_refl _))
      have X6 := hidE (blk_below hb6 (lt_of_block X5.out) X5.out)
      have B6 := hidE (B5.out.trans (hb6.mono B5.out.size))
      clear f0 f1 hb6
      have f0 : w6.cell? ⟨w.heap.size, 0, none⟩ = some (.int .i64 N) := by rw [cell_of_row _ _ _ _ _ _ X6.out]; rfl
      have f1 : w6.cell? ⟨w.heap.size, 1, none⟩ = some (.slice a bs.length cap) := by rw [cell_of_row _ _ _ _ _ _ X6.out]; rfl
      go_wp2_with fail
      refine (HP6.out _ (H.out.below B6.out (Nat.le_refl _)) (H2.out.below B6.out (Nat.le_refl _))).mono ?_
      rintro _ w7 ⟨rfl, hb7⟩
      replace I3 := hidE (I3.out.below hb7 (Nat.le_refl _))
      replace I4 := hidE (I4.out.below hb7 (Nat.le_refl _))
      have X7 := hidE (blk_below hb7 (lt_of_block X6.out) X6.out)
      have B7 := hidE (B6.out.trans (hb7.mono B6.out.size))
      clear f0 f1 hb7
      go_wp2_with fail
      refine (alive_any _).mono ?_
      rintro _ w8 ⟨rfl, hb8⟩
      replace I3 := hidE (I3.out.below hb8 (Nat.le_refl _))
      replace I4 := hidE (I4.out.below hb8 (Nat.le_refl _))
      have B8 := hidE (B7.out.trans (hb8.mono B7.out.size))
      have hsi := sameInts_any w8 o3 c3 L2 o4 c4 L2 I3.out I4.out (by have := HK.out; omega) (by have := HK.out; omega)
      rw [show decide (L2 = L2) = true by simp] at hsi
      have HSI := hidE hsi
      clear hsi hb8
      go_wp2_with fail
      refine HSI.out.mono ?_
      rintro _ w9 ⟨rfl, hb9⟩
      go_wp2_with fail
      go_ret
      exact ⟨rfl, B8.out.trans (hb9.mono B8.out.size)⟩
    · have d1 : decide ((l.length : Int) > 20) = true := by simp; omega
      go_enter Try.func19, Try.ntmps19
      go_wp2_with fail
      refine (HS.out _).mono ?_
      rintro e w1 ⟨rfl, hb1⟩
      have B1 := hidE (B0.out.trans (hb1.mono B0.out.size))
      go_wp2_with fail
      refine (alive_any _).mono ?_
      rintro e w2 ⟨rfl, hb2⟩
      go_wp2_with fail
      go_ret
      exact ⟨rfl, B1.out.trans (hb2.mono B1.out.size)⟩

end Go.Proofs.Ytejbpoclfjkllaa
