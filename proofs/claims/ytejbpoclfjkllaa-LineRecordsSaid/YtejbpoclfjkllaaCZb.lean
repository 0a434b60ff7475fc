/- Walk: the law LineRecords. -/
import Derived.Test.YtejbpoclfjkllaaA5
import Derived.Test.YtejbpoclfjkllaaCYh
namespace Go.Proofs.Ytejbpoclfjkllaa
open Go Go.RowKit Go.Shelf

theorem recordsE_len (N : Int) (bs : List Bd) (l : List Int) : (recordsE N bs l).1.length ≤ l.length := by
  unfold recordsE
  split
  · simp
  · split
    · have := recordsP_len (l.map (bAt bs))
      simpa using this
    · simp

set_option maxRecDepth 100000 in
set_option maxHeartbeats 4000000 in
theorem lineRecords_any (w : World) (N : Int) (a : Option Addr) (cap : Nat) (bs : List Bd) (a2 : Option Addr) (cap2 : Nat) (l : List Int) (hN : i64ok N) (hl : bs.length ≤ 9223372036854775807) (hl2 : l.length ≤ 9223372036854775807) (h : BoundsAt w a bs) (hsl : SliceOk a bs.length cap) (h2 : IntsAt w a2 l) :
    Calls Try.prog 14 #[.agg #[.int .i64 N, .slice a bs.length cap], .slice a2 l.length cap2] w fun e w' => e = .returned (.bool true) ∧ Below w.heap.size w w' := by
  have b0 : Below w.heap.size w (w.alloc (.cells #[.int .i64 N, .slice a bs.length cap] 24)) := (Below.refl _ _).alloc (Nat.le_refl _) _
  have B0 := hidE b0
  have HN := hidE hN
  have H := hidE h
  have H2 := hidE h2
  clear b0 hN h h2
  by_cases h1 : 2005 < bs.length
  · have hd : decide ((bs.length : Int) > 2005) = true := by simp; omega
    go_enter Try.func14, Try.ntmps14
    go_wp2_with fail
    refine (alive_any _).mono ?_
    rintro e w1 ⟨rfl, hb1⟩
    go_wp2_with fail
    go_ret
    exact ⟨rfl, B0.out.trans (hb1.mono B0.out.size)⟩
  have hd1 : decide ((bs.length : Int) > 2005) = false := by simp; omega
  by_cases h3 : 100 < l.length
  · have hd : decide ((l.length : Int) > 100) = true := by simp; omega
    go_enter Try.func14, Try.ntmps14
    go_wp2_with fail
    refine (alive_any _).mono ?_
    rintro e w1 ⟨rfl, hb1⟩
    go_wp2_with fail
    go_ret
    exact ⟨rfl, B0.out.trans (hb1.mono B0.out.size)⟩
  have hd2 : decide ((l.length : Int) > 100) = false := by simp; omega
  have p1 := fun W hb hb2 => recordsS_any W N a cap bs a2 cap2 l HN.out hl hb (by omega) hb2
  have p2 := fun W hb hb2 => refrecordsS_any W N a cap bs a2 cap2 l HN.out hl hb (by omega) hb2
  have p3 := fun W hb hb2 => withoutS_any W N a cap bs a2 cap2 l HN.out hl hsl hb hl2 hb2
  have p4 := fun W hb hb2 => refwithoutS_any W N a cap bs a2 cap2 l HN.out hl hb hl2 hb2
  have hlr := recordsE_len N bs l
  have hlw : (withoutE N bs l).2.1.length ≤ bs.length := by
    unfold withoutE; split
    · exact withoutP_len bs l
    · simp
  obtain ⟨⟨L, c⟩, hLc⟩ : ∃ t, recordsE N bs l = t := ⟨_, rfl⟩
  obtain ⟨⟨M, K, d⟩, hMd⟩ : ∃ t, withoutE N bs l = t := ⟨_, rfl⟩
  rw [hLc] at p1 p2 hlr
  rw [hMd] at p3 p4 hlw
  simp only at p1 p2 hlr hlw
  have HP1 := hidE p1
  have HP2 := hidE p2
  have HP3 := hidE p3
  have HP4 := hidE p4
  have HLR := hidE hlr
  have HLW := hidE hlw
  clear p1 p2 p3 p4 hlr hlw hLc hMd
  go_enter Try.func14, Try.ntmps14
  go_upto_region 3 with fail
  obtain ⟨w1, hw1⟩ : ∃ X, X = w.alloc (.cells #[.int .i64 N, .slice a bs.length cap] 24) := ⟨_, rfl⟩
  rw [← hw1]
  have X1 : Hid (w1.heap[w.heap.size]? = some (.cells #[.int .i64 N, .slice a bs.length cap] 24 (0,0))) := hidE (by rw [hw1]; exact heap_alloc_new _ _)
  have B1 : Hid (Below w.heap.size w w1) := hidE (by rw [hw1]; exact B0.out)
  clear hw1
  have e0 : w1.cell? ⟨w.heap.size, 0, none⟩ = some (.int .i64 N) := by rw [cell_of_row _ _ _ _ _ _ X1.out]; rfl
  have e1 : w1.cell? ⟨w.heap.size, 1, none⟩ = some (.slice a bs.length cap) := by rw [cell_of_row _ _ _ _ _ _ X1.out]; rfl
  go_wp2_with fail
  refine (HP1.out _ (H.out.below B1.out (Nat.le_refl _)) (H2.out.below B1.out (Nat.le_refl _))).mono ?_
  rintro e w2 ⟨⟨v1, rfl, ho1⟩, hb2⟩
  obtain ⟨o1, c1, rfl, hi1⟩ := owns_intsAt ho1
  have I1_2 := hidE hi1
  have X2 := hidE (blk_below hb2 (lt_of_block X1.out) X1.out)
  have B2 := hidE (B1.out.trans (hb2.mono B1.out.size))
  clear e0 e1 hb2 hi1 ho1
  have e0 : w2.cell? ⟨w.heap.size, 0, none⟩ = some (.int .i64 N) := by rw [cell_of_row _ _ _ _ _ _ X2.out]; rfl
  have e1 : w2.cell? ⟨w.heap.size, 1, none⟩ = some (.slice a bs.length cap) := by rw [cell_of_row _ _ _ _ _ _ X2.out]; rfl
  go_wp2_with fail
  refine (HP2.out _ (H.out.below B2.out (Nat.le_refl _)) (H2.out.below B2.out (Nat.le_refl _))).mono ?_
  rintro e w3 ⟨⟨v2, rfl, ho2⟩, hb3⟩
  obtain ⟨o2, c2, rfl, hi2⟩ := owns_intsAt ho2
  have I1_3 := hidE (I1_2.out.below hb3 (Nat.le_refl _))
  have I2_3 := hidE hi2
  have X3 := hidE (blk_below hb3 (lt_of_block X2.out) X2.out)
  have B3 := hidE (B2.out.trans (hb3.mono B2.out.size))
  clear e0 e1 hb3 hi2 ho2
  have e0 : w3.cell? ⟨w.heap.size, 0, none⟩ = some (.int .i64 N) := by rw [cell_of_row _ _ _ _ _ _ X3.out]; rfl
  have e1 : w3.cell? ⟨w.heap.size, 1, none⟩ = some (.slice a bs.length cap) := by rw [cell_of_row _ _ _ _ _ _ X3.out]; rfl
  go_wp2_with fail
  refine (HP3.out _ (H.out.below B3.out (Nat.le_refl _)) (H2.out.below B3.out (Nat.le_refl _))).mono ?_
  rintro e V3 ⟨hp3, hb4⟩
  obtain ⟨o3, c3, rfl, hi3⟩ := sysPost_get hp3
  simp only
  go_upto_region 6 with fail
  obtain ⟨w4, hW3⟩ : ∃ X, X = V3.alloc (.cells #[.int .i64 M, .slice o3 K.length c3] 24) := ⟨_, rfl⟩
  rw [← hW3]
  have hbb3 : Below w3.heap.size w3 w4 := by rw [hW3]; exact hb4.alloc hb4.size _
  have hs3 : w4.heap[V3.heap.size]? = some (.cells #[.int .i64 M, .slice o3 K.length c3] 24 (0,0)) := by rw [hW3]; exact heap_alloc_new _ _
  have hk3 : BoundsAt w4 o3 K := by rw [hW3]; exact hi3.alloc _
  have I1_4 := hidE (I1_3.out.below hbb3 (Nat.le_refl _))
  have I2_4 := hidE (I2_3.out.below hbb3 (Nat.le_refl _))
  have I3_4 := hidE hk3
  have S3_4 := hidE hs3
  have X4 := hidE (blk_below hbb3 (lt_of_block X3.out) X3.out)
  have B4 := hidE (B3.out.trans (hbb3.mono B3.out.size))
  clear e0 e1 hb4 hi3 hp3 hW3 hbb3 hs3 hk3
  have e0 : w4.cell? ⟨w.heap.size, 0, none⟩ = some (.int .i64 N) := by rw [cell_of_row _ _ _ _ _ _ X4.out]; rfl
  have e1 : w4.cell? ⟨w.heap.size, 1, none⟩ = some (.slice a bs.length cap) := by rw [cell_of_row _ _ _ _ _ _ X4.out]; rfl
  go_wp2_with fail
  refine (HP4.out _ (H.out.below B4.out (Nat.le_refl _)) (H2.out.below B4.out (Nat.le_refl _))).mono ?_
  rintro e V4 ⟨hp4, hb5⟩
  obtain ⟨o4, c4, rfl, hi4⟩ := sysPost_get hp4
  simp only
  go_upto_region 7 with fail
  obtain ⟨w5, hW4⟩ : ∃ X, X = V4.alloc (.cells #[.int .i64 M, .slice o4 K.length c4] 24) := ⟨_, rfl⟩
  rw [← hW4]
  have hbb4 : Below w4.heap.size w4 w5 := by rw [hW4]; exact hb5.alloc hb5.size _
  have hs4 : w5.heap[V4.heap.size]? = some (.cells #[.int .i64 M, .slice o4 K.length c4] 24 (0,0)) := by rw [hW4]; exact heap_alloc_new _ _
  have hk4 : BoundsAt w5 o4 K := by rw [hW4]; exact hi4.alloc _
  have I1_5 := hidE (I1_4.out.below hbb4 (Nat.le_refl _))
  have I2_5 := hidE (I2_4.out.below hbb4 (Nat.le_refl _))
  have I3_5 := hidE (I3_4.out.below hbb4 (Nat.le_refl _))
  have I4_5 := hidE hk4
  have S3_5 := hidE (blk_below hbb4 (lt_of_block S3_4.out) S3_4.out)
  have S4_5 := hidE hs4
  have X5 := hidE (blk_below hbb4 (lt_of_block X4.out) X4.out)
  have B5 := hidE (B4.out.trans (hbb4.mono B4.out.size))
  clear e0 e1 hb5 hi4 hp4 hW4 hbb4 hs4 hk4
  go_wp2_with fail
  refine (alive_any _).mono ?_
  rintro e w6 ⟨rfl, hb6⟩
  have hsi := sameInts_any w6 o1 c1 L o2 c2 L (I1_5.out.below hb6 (Nat.le_refl _)) (I2_5.out.below hb6 (Nat.le_refl _)) (by have := HLR.out; omega) (by have := HLR.out; omega)
  rw [show decide (L = L) = true by simp] at hsi
  have HSI := hidE hsi
  have I3_6 := hidE (I3_5.out.below hb6 (Nat.le_refl _))
  have I4_6 := hidE (I4_5.out.below hb6 (Nat.le_refl _))
  have S3_6 := hidE (blk_below hb6 (lt_of_block S3_5.out) S3_5.out)
  have S4_6 := hidE (blk_below hb6 (lt_of_block S4_5.out) S4_5.out)
  have B6 := hidE (B5.out.trans (hb6.mono B5.out.size))
  clear hsi hb6
  go_wp2_with fail
  refine HSI.out.mono ?_
  rintro e w7 ⟨rfl, hb7⟩
  have s3 := blk_below hb7 (lt_of_block S3_6.out) S3_6.out
  have s4 := blk_below hb7 (lt_of_block S4_6.out) S4_6.out
  have g30 : w7.cell? ⟨V3.heap.size, 0, none⟩ = some (.int .i64 M) := by rw [cell_of_row _ _ _ _ _ _ s3]; rfl
  have g31 : w7.cell? ⟨V3.heap.size, 1, none⟩ = some (.slice o3 K.length c3) := by rw [cell_of_row _ _ _ _ _ _ s3]; rfl
  have g40 : w7.cell? ⟨V4.heap.size, 0, none⟩ = some (.int .i64 M) := by rw [cell_of_row _ _ _ _ _ _ s4]; rfl
  have g41 : w7.cell? ⟨V4.heap.size, 1, none⟩ = some (.slice o4 K.length c4) := by rw [cell_of_row _ _ _ _ _ _ s4]; rfl
  have hsm := same_any w7 M o3 c3 o4 c4 K (by have := HLW.out; omega) (I3_6.out.below hb7 (Nat.le_refl _)) (I4_6.out.below hb7 (Nat.le_refl _))
  have HSM := hidE hsm
  have B7 := hidE (B6.out.trans (hb7.mono B6.out.size))
  clear hsm hb7 s3 s4
  go_wp2_with fail
  refine HSM.out.mono ?_
  rintro e w8 ⟨rfl, hb8⟩
  go_wp2_with fail
  go_ret
  exact ⟨rfl, B7.out.trans (hb8.mono B7.out.size)⟩

end Go.Proofs.Ytejbpoclfjkllaa
