/- Walk: the law LineValues. -/
import Derived.Test.YtejbpoclfjkllaaCZg
import Derived.Test.YtejbpoclfjkllaaCZi
import Derived.Test.YtejbpoclfjkllaaCZ8
import Derived.Test.YtejbpoclfjkllaaA5
namespace Go.Proofs.Ytejbpoclfjkllaa
open Go Go.RowKit Go.Shelf

theorem greatestE_len {N : Int} {bs : List Bd} (h : checkP N bs = 0 → N ≤ 128) : (greatestE N bs).1.length ≤ 1000 := by
  unfold greatestE extremeE
  split
  · rename_i he
    have := h (askedE_zero he).1
    split
    · simp
    · simp [highV]; omega
  · simp
theorem leastE_len {N : Int} {bs : List Bd} (h : checkP N bs = 0 → N ≤ 128) : (leastE N bs).1.length ≤ 1000 := by
  unfold leastE extremeE
  split
  · rename_i he
    have := h (askedE_zero he).1
    split
    · simp
    · simp [lowV]; omega
  · simp
theorem valuesP_len (N : Nat) (bs : List Bd) : (valuesP N bs).length = N := (someFold_len N _ N).1
theorem someE_len {N : Int} {bs : List Bd} (h : checkP N bs = 0 → N ≤ 128) : (someE N bs).1.length ≤ 1000 := by
  unfold someE
  split
  · rename_i he
    have := h (askedE_zero he).1
    rw [valuesP_len]; omega
  · simp
theorem throughE_len {N : Int} {bs : List Bd} {p v : Int} (h : checkP N bs = 0 → N ≤ 128) : (throughE N bs p v).1.length ≤ 1000 := by
  unfold throughE
  by_cases hc : checkP N bs = 0
  · have := h hc
    rw [if_neg (by simp [hc])]
    split
    · simp
    · split
      · simp
      · split
        · simp
        · split
          · rw [valuesP_len]; omega
          · simp
  · rw [if_pos hc]; simp

set_option maxRecDepth 100000 in
set_option maxHeartbeats 4000000 in
theorem lineValues_any (w : World) (N : Int) (a : Option Addr) (cap : Nat) (bs : List Bd) (x y : Int) (hN : i64ok N) (hl : bs.length ≤ 9223372036854775807) (h : BoundsAt w a bs) :
    Calls Try.prog 13 #[.agg #[.int .i64 N, .slice a bs.length cap], .int .i64 x, .int .i64 y] w fun e w' => e = .returned (.bool true) ∧ Below w.heap.size w w' := by
  have b0 : Below w.heap.size w (w.alloc (.cells #[.int .i64 N, .slice a bs.length cap] 24)) := (Below.refl _ _).alloc (Nat.le_refl _) _
  obtain ⟨f, hf⟩ : ∃ f, fewP N bs.length 14 40 = f := ⟨_, rfl⟩
  have hs := fun W => someL_any W N a cap bs.length
  rw [hf] at hs
  have hfew : f = true → checkP N bs = 0 → N ≤ 14 := fun e hc => (fewP_pts (hf.trans e) rfl (by omega) hc).1
  have B0 := hidE b0
  have HN := hidE hN
  have H := hidE h
  have HS := hidE hs
  have HFW := hidE hfew
  clear b0 hN h hs hf hfew
  cases f with
  | false =>
    go_enter Try.func13, Try.ntmps13
    go_wp2_with fail
    refine (HS.out _).mono ?_
    rintro e w1 ⟨rfl, hb1⟩
    have B1 := hidE (B0.out.trans (hb1.mono B0.out.size))
    go_wp2_with fail
    refine (alive_any _).mono ?_
    rintro e w2 ⟨rfl, hb2⟩
    go_wp2_with fail
    go_ret
    exact ⟨rfl, B1.out.trans (hb2.mono B1.out.size)⟩
  | true =>
    have h40 : checkP N bs = 0 → N ≤ 40 := fun hc => by have := HFW.out rfl hc; omega
    have h128 : checkP N bs = 0 → N ≤ 128 := fun hc => by have := HFW.out rfl hc; omega
    have h1 := fun W hb => greatest_any W N a cap bs HN.out hl hb
    have h2 := fun W hb => refgreatest_any W N a cap bs HN.out hl hb h40
    have h3 := fun W hb => least_any W N a cap bs HN.out hl hb
    have h4 := fun W hb => refleast_any W N a cap bs HN.out hl hb h40
    have h5 := fun W hb => someE_any W N a cap bs HN.out hl hb
    have h6 := fun W hb => refsomeE_any W N a cap bs HN.out hl hb h40
    have h7 := fun W hb => through_any W N a cap bs x y HN.out hl hb
    have h8 := fun W hb => refthrough_any W N a cap bs x y HN.out hl hb h40
    have k1 := greatestE_len h128
    have k2 := leastE_len h128
    have k3 := someE_len h128
    have k4 := throughE_len (p := x) (v := y) h128
    obtain ⟨⟨L1, e1⟩, hd1⟩ : ∃ t, greatestE N bs = t := ⟨_, rfl⟩
    obtain ⟨⟨L2, e2⟩, hd2⟩ : ∃ t, leastE N bs = t := ⟨_, rfl⟩
    obtain ⟨⟨L3, e3⟩, hd3⟩ : ∃ t, someE N bs = t := ⟨_, rfl⟩
    obtain ⟨⟨L4, q4, e4⟩, hd4⟩ : ∃ t, throughE N bs x y = t := ⟨_, rfl⟩
    rw [hd1] at h1 h2 k1
    rw [hd2] at h3 h4 k2
    rw [hd3] at h5 h6 k3
    rw [hd4] at h7 h8 k4
    simp only at k1 k2 k3 k4
    have HP1 := hidE h1
    have HP2 := hidE h2
    have HP3 := hidE h3
    have HP4 := hidE h4
    have HP5 := hidE h5
    have HP6 := hidE h6
    have HP7 := hidE h7
    have HP8 := hidE h8
    have HK1 := hidE k1
    have HK2 := hidE k2
    have HK3 := hidE k3
    have HK4 := hidE k4
    clear h1 h2 h3 h4 h5 h6 h7 h8 k1 k2 k3 k4 hd1 hd2 hd3 hd4 h40 h128
    go_enter Try.func13, Try.ntmps13
    go_wp2_with fail
    refine (HS.out _).mono ?_
    rintro _ w1 ⟨rfl, hb1⟩
    have X1 := hidE (blk_below hb1 (by simp) (heap_alloc_new w (.cells #[.int .i64 N, .slice a bs.length cap] 24)))
    have B1 := hidE (B0.out.trans (hb1.mono B0.out.size))
    clear hb1
    have f0 : w1.cell? ⟨w.heap.size, 0, none⟩ = some (.int .i64 N) := by rw [cell_of_row _ _ _ _ _ _ X1.out]; rfl
    have f1 : w1.cell? ⟨w.heap.size, 1, none⟩ = some (.slice a bs.length cap) := by rw [cell_of_row _ _ _ _ _ _ X1.out]; rfl
    go_wp2_with fail
    refine (HP1.out _ (H.out.below B1.out (Nat.le_refl _))).mono ?_
    rintro _ w2 ⟨⟨v1, rfl, ho1⟩, hb2⟩
    obtain ⟨o1, c1, rfl, hi1⟩ := owns_intsAt ho1
    have I1 := hidE hi1
    have X2 := hidE (blk_below hb2 (lt_of_block X1.out) X1.out)
    have B2 := hidE (B1.out.trans (hb2.mono B1.out.size))
    clear f0 f1 hb2 hi1 ho1
    have f0 : w2.cell? ⟨w.heap.size, 0, none⟩ = some (.int .i64 N) := by rw [cell_of_row _ _ _ _ _ _ X2.out]; rfl
    have f1 : w2.cell? ⟨w.heap.size, 1, none⟩ = some (.slice a bs.length cap) := by rw [cell_of_row _ _ _ _ _ _ X2.out]; rfl
    go_wp2_with fail
    refine (HP2.out _ (H.out.below B2.out (Nat.le_refl _))).mono ?_
    rintro _ w3 ⟨⟨v2, rfl, ho2⟩, hb3⟩
    obtain ⟨o2, c2, rfl, hi2⟩ := owns_intsAt ho2
    replace I1 := hidE (I1.out.below hb3 (Nat.le_refl _))
    have I2 := hidE hi2
    have X3 := hidE (blk_below hb3 (lt_of_block X2.out) X2.out)
    have B3 := hidE (B2.out.trans (hb3.mono B2.out.size))
    clear f0 f1 hb3 hi2 ho2
    have f0 : w3.cell? ⟨w.heap.size, 0, none⟩ = some (.int .i64 N) := by rw [cell_of_row _ _ _ _ _ _ X3.out]; rfl
    have f1 : w3.cell? ⟨w.heap.size, 1, none⟩ = some (.slice a bs.length cap) := by rw [cell_of_row _ _ _ _ _ _ X3.out]; rfl
    go_wp2_with fail
    refine (HP3.out _ (H.out.below B3.out (Nat.le_refl _))).mono ?_
    rintro _ w4 ⟨⟨v3, rfl, ho3⟩, hb4⟩
    obtain ⟨o3, c3, rfl, hi3⟩ := owns_intsAt ho3
    replace I1 := hidE (I1.out.below hb4 (Nat.le_refl _))
    replace I2 := hidE (I2.out.below hb4 (Nat.le_refl _))
    have I3 := hidE hi3
    have X4 := hidE (blk_below hb4 (lt_of_block X3.out) X3.out)
    have B4 := hidE (B3.out.trans (hb4.mono B3.out.size))
    clear f0 f1 hb4 hi3 ho3
    have f0 : w4.cell? ⟨w.heap.size, 0, none⟩ = some (.int .i64 N) := by rw [cell_of_row _ _ _ _ _ _ X4.out]; rfl
    have f1 : w4.cell? ⟨w.heap.size, 1, none⟩ = some (.slice a bs.length cap) := by rw [cell_of_row _ _ _ _ _ _ X4.out]; rfl
    go_wp2_with fail
    refine (HP4.out _ (H.out.below B4.out (Nat.le_refl _))).mono ?_
    rintro _ w5 ⟨⟨v4, rfl, ho4⟩, hb5⟩
    obtain ⟨o4, c4, rfl, hi4⟩ := owns_intsAt ho4
    replace I1 := hidE (I1.out.below hb5 (Nat.le_refl _))
    replace I2 := hidE (I2.out.below hb5 (Nat.le_refl _))
    replace I3 := hidE (I3.out.below hb5 (Nat.le_refl _))
    have I4 := hidE hi4
    have X5 := hidE (blk_below hb5 (lt_of_block X4.out) X4.out)
    have B5 := hidE (B4.out.trans (hb5.mono B4.out.size))
    clear f0 f1 hb5 hi4 ho4
    have f0 : w5.cell? ⟨w.heap.size, 0, none⟩ = some (.int .i64 N) := by rw [cell_of_row _ _ _ _ _ _ X5.out]; rfl
    have f1 : w5.cell? ⟨w.heap.size, 1, none⟩ = some (.slice a bs.length cap) := by rw [cell_of_row _ _ _ _ _ _ X5.out]; rfl
    go_wp2_with fail
    refine (HP5.out _ (H.out.below B5.out (Nat.le_refl _))).mono ?_
    rintro _ w6 ⟨⟨v5, rfl, ho5⟩, hb6⟩
    obtain ⟨o5, c5, rfl, hi5⟩ := owns_intsAt ho5
    replace I1 := hidE (I1.out.below hb6 (Nat.le_refl _))
    replace I2 := hidE (I2.out.below hb6 (Nat.le_refl _))
    replace I3 := hidE (I3.out.below hb6 (Nat.le_refl _))
    replace I4 := hidE (I4.out.below hb6 (Nat.le_refl _))
    have I5 := hidE hi5
    have X6 := hidE (blk_below hb6 (lt_of_block X5.out) X5.out)
    have B6 := hidE (B5.out.trans (hb6.mono B5.out.size))
    clear f0 f1 hb6 hi5 ho5
    have f0 : w6.cell? ⟨w.heap.size, 0, none⟩ = some (.int .i64 N) := by rw [cell_of_row _ _ _ _ _ _ X6.out]; rfl
    have f1 : w6.cell? ⟨w.heap.size, 1, none⟩ = some (.slice a bs.length cap) := by rw [cell_of_row _ _ _ _ _ _ X6.out]; rfl
    go_wp2_with fail
    refine (HP6.out _ (H.out.below B6.out (Nat.le_refl _))).mono ?_
    rintro _ w7 ⟨⟨v6, rfl, ho6⟩, hb7⟩
    obtain ⟨o6, c6, rfl, hi6⟩ := owns_intsAt ho6
    replace I1 := hidE (I1.out.below hb7 (Nat.le_refl _))
    replace I2 := hidE (I2.out.below hb7 (Nat.le_refl _))
    replace I3 := hidE (I3.out.below hb7 (Nat.le_refl _))
    replace I4 := hidE (I4.out.below hb7 (Nat.le_refl _))
    replace I5 := hidE (I5.out.below hb7 (Nat.le_refl _))
    have I6 := hidE hi6
    have X7 := hidE (blk_below hb7 (lt_of_block X6.out) X6.out)
    have B7 := hidE (B6.out.trans (hb7.mono B6.out.size))
    clear f0 f1 hb7 hi6 ho6
    have f0 : w7.cell? ⟨w.heap.size, 0, none⟩ = some (.int .i64 N) := by rw [cell_of_row _ _ _ _ _ _ X7.out]; rfl
    have f1 : w7.cell? ⟨w.heap.size, 1, none⟩ = some (.slice a bs.length cap) := by rw [cell_of_row _ _ _ _ _ _ X7.out]; rfl
    go_wp2_with fail
    refine (HP7.out _ (H.out.below B7.out (Nat.le_refl _))).mono ?_
    rintro _ w8 ⟨⟨v7, rfl, ho7⟩, hb8⟩
    obtain ⟨o7, c7, rfl, hi7⟩ := owns_intsAt ho7
    replace I1 := hidE (I1.out.below hb8 (Nat.le_refl _))
    replace I2 := hidE (I2.out.below hb8 (Nat.le_refl _))
    replace I3 := hidE (I3.out.below hb8 (Nat.le_refl _))
    replace I4 := hidE (I4.out.below hb8 (Nat.le_refl _))
    replace I5 := hidE (I5.out.below hb8 (Nat.le_refl _))
    replace I6 := hidE (I6.out.below hb8 (Nat.le_refl _))
    have I7 := hidE hi7
    have X8 := hidE (blk_below hb8 (lt_of_block X7.out) X7.out)
    have B8 := hidE (B7.out.trans (hb8.mono B7.out.size))
    clear f0 f1 hb8 hi7 ho7
    have f0 : w8.cell? ⟨w.heap.size, 0, none⟩ = some (.int .i64 N) := by rw [cell_of_row _ _ _ _ _ _ X8.out]; rfl
    have f1 : w8.cell? ⟨w.heap.size, 1, none⟩ = some (.slice a bs.length cap) := by rw [cell_of_row _ _ _ _ _ _ X8.out]; rfl
    go_wp2_with fail
    refine (HP8.out _ (H.out.below B8.out (Nat.le_refl _))).mono ?_
    rintro _ w9 ⟨⟨v8, rfl, ho8⟩, hb9⟩
    obtain ⟨o8, c8, rfl, hi8⟩ := owns_intsAt ho8
    replace I1 := hidE (I1.out.below hb9 (Nat.le_refl _))
    replace I2 := hidE (I2.out.below hb9 (Nat.le_refl _))
    replace I3 := hidE (I3.out.below hb9 (Nat.le_refl _))
    replace I4 := hidE (I4.out.below hb9 (Nat.le_refl _))
    replace I5 := hidE (I5.out.below hb9 (Nat.le_refl _))
    replace I6 := hidE (I6.out.below hb9 (Nat.le_refl _))
    replace I7 := hidE (I7.out.below hb9 (Nat.le_refl _))
    have I8 := hidE hi8
    have X9 := hidE (blk_below hb9 (lt_of_block X8.out) X8.out)
    have B9 := hidE (B8.out.trans (hb9.mono B8.out.size))
    clear f0 f1 hb9 hi8 ho8
    go_wp2_with fail
    refine (alive_any _).mono ?_
    rintro _ w10 ⟨rfl, hb10⟩
    replace I1 := hidE (I1.out.below hb10 (Nat.le_refl _))
    replace I2 := hidE (I2.out.below hb10 (Nat.le_refl _))
    replace I3 := hidE (I3.out.below hb10 (Nat.le_refl _))
    replace I4 := hidE (I4.out.below hb10 (Nat.le_refl _))
    replace I5 := hidE (I5.out.below hb10 (Nat.le_refl _))
    replace I6 := hidE (I6.out.below hb10 (Nat.le_refl _))
    replace I7 := hidE (I7.out.below hb10 (Nat.le_refl _))
    replace I8 := hidE (I8.out.below hb10 (Nat.le_refl _))
    have B10 := hidE (B9.out.trans (hb10.mono B9.out.size))
    have hsi0 := sameInts_any w10 o1 c1 L1 o2 c2 L1 I1.out I2.out (by have := HK1.out; omega) (by have := HK1.out; omega)
    rw [show decide (L1 = L1) = true by simp] at hsi0
    have HSI0 := hidE hsi0
    clear hsi0 hb10
    go_wp2_with fail
    refine HSI0.out.mono ?_
    rintro _ w11 ⟨rfl, hb11⟩
    replace I1 := hidE (I1.out.below hb11 (Nat.le_refl _))
    replace I2 := hidE (I2.out.below hb11 (Nat.le_refl _))
    replace I3 := hidE (I3.out.below hb11 (Nat.le_refl _))
    replace I4 := hidE (I4.out.below hb11 (Nat.le_refl _))
    replace I5 := hidE (I5.out.below hb11 (Nat.le_refl _))
    replace I6 := hidE (I6.out.below hb11 (Nat.le_refl _))
    replace I7 := hidE (I7.out.below hb11 (Nat.le_refl _))
    replace I8 := hidE (I8.out.below hb11 (Nat.le_refl _))
    have B11 := hidE (B10.out.trans (hb11.mono B10.out.size))
    have hsi1 := sameInts_any w11 o3 c3 L2 o4 c4 L2 I3.out I4.out (by have := HK2.out; omega) (by have := HK2.out; omega)
    rw [show decide (L2 = L2) = true by simp] at hsi1
    have HSI1 := hidE hsi1
    clear hsi1 hb11
    go_wp2_with fail
    refine HSI1.out.mono ?_
    rintro _ w12 ⟨rfl, hb12⟩
    replace I1 := hidE (I1.out.below hb12 (Nat.le_refl _))
    replace I2 := hidE (I2.out.below hb12 (Nat.le_refl _))
    replace I3 := hidE (I3.out.below hb12 (Nat.le_refl _))
    replace I4 := hidE (I4.out.below hb12 (Nat.le_refl _))
    replace I5 := hidE (I5.out.below hb12 (Nat.le_refl _))
    replace I6 := hidE (I6.out.below hb12 (Nat.le_refl _))
    replace I7 := hidE (I7.out.below hb12 (Nat.le_refl _))
    replace I8 := hidE (I8.out.below hb12 (Nat.le_refl _))
    have B12 := hidE (B11.out.trans (hb12.mono B11.out.size))
    have hsi2 := sameInts_any w12 o5 c5 L3 o6 c6 L3 I5.out I6.out (by have := HK3.out; omega) (by have := HK3.out; omega)
    rw [show decide (L3 = L3) = true by simp] at hsi2
    have HSI2 := hidE hsi2
    clear hsi2 hb12
    go_wp2_with fail
    refine HSI2.out.mono ?_
    rintro _ w13 ⟨rfl, hb13⟩
    replace I1 := hidE (I1.out.below hb13 (Nat.le_refl _))
    replace I2 := hidE (I2.out.below hb13 (Nat.le_refl _))
    replace I3 := hidE (I3.out.below hb13 (Nat.le_refl _))
    replace I4 := hidE (I4.out.below hb13 (Nat.le_refl _))
    replace I5 := hidE (I5.out.below hb13 (Nat.le_refl _))
    replace I6 := hidE (I6.out.below hb13 (Nat.le_refl _))
    replace I7 := hidE (I7.out.below hb13 (Nat.le_refl _))
    replace I8 := hidE (I8.out.below hb13 (Nat.le_refl _))
    have B13 := hidE (B12.out.trans (hb13.mono B12.out.size))
    have hsi3 := sameInts_any w13 o7 c7 L4 o8 c8 L4 I7.out I8.out (by have := HK4.out; omega) (by have := HK4.out; omega)
    rw [show decide (L4 = L4) = true by simp] at hsi3
    have HSI3 := hidE hsi3
    clear hsi3 hb13
    go_wp2_with fail
    refine HSI3.out.mono ?_
    rintro _ w14 ⟨rfl, hb14⟩
    go_wp2_with fail
    go_ret
    exact ⟨rfl, B13.out.trans (hb14.mono B13.out.size)⟩

end Go.Proofs.Ytejbpoclfjkllaa
