/- Walk: the law LineRanges. -/
import Derived.Test.YtejbpoclfjkllaaA5
import Derived.Test.YtejbpoclfjkllaaCY4
import Derived.Test.YtejbpoclfjkllaaCYa
namespace Go.Proofs.Ytejbpoclfjkllaa
open Go Go.RowKit Go.Shelf

theorem fewP_pts {N : Int} {n : Nat} {p b : Int} {bs : List Bd} (h : fewP N n p b = true) (hn : n = bs.length) (_hb : b ≤ 2000) (hc : checkP N bs = 0) : N ≤ p ∧ (n : Int) ≤ b := by
  obtain ⟨n0, n1, n2, _⟩ := checkP_zero hc
  unfold fewP at h
  simp only [Bool.or_eq_true, Bool.and_eq_true, decide_eq_true_eq] at h
  omega

set_option maxRecDepth 100000 in
set_option maxHeartbeats 4000000 in
theorem lineRanges_any (w : World) (N : Int) (a : Option Addr) (cap : Nat) (bs : List Bd) (x y : Int) (hN : i64ok N) (hl : bs.length ≤ 9223372036854775807) (h : BoundsAt w a bs) :
    Calls Try.prog 4 #[.agg #[.int .i64 N, .slice a bs.length cap], .int .i64 x, .int .i64 y] w fun e w' => e = .returned (.bool true) ∧ Below w.heap.size w w' := by
  have b0 : Below w.heap.size w (w.alloc (.cells #[.int .i64 N, .slice a bs.length cap] 24)) := (Below.refl _ _).alloc (Nat.le_refl _) _
  obtain ⟨f, hf⟩ : ∃ f, fewP N bs.length 14 40 = f := ⟨_, rfl⟩
  have hs := fun W => someL_any W N a cap bs.length
  rw [hf] at hs
  have hfew : f = true → checkP N bs = 0 → N ≤ 40 := fun e hc => by
    have := (fewP_pts (hf.trans e) rfl (by omega) hc).1
    omega
  have B0 := hidE b0
  have HN := hidE hN
  have H := hidE h
  have HS := hidE hs
  have HFW := hidE hfew
  clear b0 hN h hs hf hfew
  cases f with
  | false =>
    go_enter Try.func4, Try.ntmps4
    go_wp2_with fail
    refine (HS.out _).mono ?_
    rintro e w1 ⟨rfl, hb1⟩
    have B1 := hidE (B0.out.trans (hb1.mono B0.out.size))
    go_wp2_with fail
    refine (alive_any _).mono ?_
    rintro e w2 ⟨rfl, hb2⟩
    go_wp2_with fail
    go_ret
    exact ⟨rfl, B1.out.trans (hb2.mono B1.out.size)⟩
  | true =>
    have h1 := fun W hb => range_any W N a cap bs x HN.out hl hb
    have h2 := fun W hb => refrange_any W N a cap bs x HN.out hl hb (HFW.out rfl)
    have h3 := fun W hb => between_any W N a cap bs x y HN.out hl hb
    have h4 := fun W hb => refbetween_any W N a cap bs x y HN.out hl hb (HFW.out rfl)
    obtain ⟨s1, s2, s3, s4, se, hse⟩ := betweenP_split N bs 0 x
    obtain ⟨r1, r2, r3, r4, re, hre⟩ := betweenP_split N bs x y
    rw [hse] at h1 h2
    rw [hre] at h3 h4
    unfold Sp.arr at h1 h2 h3 h4
    simp only at h1 h2 h3 h4
    have HP1 := hidE h1
    have HP2 := hidE h2
    have HP3 := hidE h3
    have HP4 := hidE h4
    clear h1 h2 h3 h4 hse hre
    go_enter Try.func4, Try.ntmps4
    go_wp2_with fail
    refine (HS.out _).mono ?_
    rintro e w1 ⟨rfl, hb1⟩
    have x1 := blk_below hb1 (by simp) (heap_alloc_new w (.cells #[.int .i64 N, .slice a bs.length cap] 24))
    have X1 := hidE x1
    have B1 := hidE (B0.out.trans (hb1.mono B0.out.size))
    clear x1 hb1
    have e0 : w1.cell? ⟨w.heap.size, 0, none⟩ = some (.int .i64 N) := by rw [cell_of_row _ _ _ _ _ _ X1.out]; rfl
    have e1 : w1.cell? ⟨w.heap.size, 1, none⟩ = some (.slice a bs.length cap) := by rw [cell_of_row _ _ _ _ _ _ X1.out]; rfl
    go_wp2_with fail
    refine (HP1.out _ (H.out.below B1.out (Nat.le_refl _))).mono ?_
    rintro e w2 ⟨rfl, hb2⟩
    go_upto_region 4 with fail
    obtain ⟨W2, hW2⟩ : ∃ X, X = w2.alloc (Obj.cells #[.int .i64 s1, .int .i64 s2, .bool s3, .bool s4] 33) := ⟨_, rfl⟩
    rw [← hW2]
    have hbb2 : Below w1.heap.size w1 W2 := by rw [hW2]; exact hb2.alloc hb2.size _
    have hs2 : W2.heap[w2.heap.size]? = some (.cells #[.int .i64 s1, .int .i64 s2, .bool s3, .bool s4] 33 (0,0)) := by rw [hW2]; exact heap_alloc_new _ _
    have X2 := hidE (blk_below hbb2 (lt_of_block X1.out) X1.out)
    have B2 := hidE (B1.out.trans (hbb2.mono B1.out.size))
    have S2 := hidE hs2
    clear e0 e1 hb2 hbb2 hs2 hW2
    have e0 : W2.cell? ⟨w.heap.size, 0, none⟩ = some (.int .i64 N) := by rw [cell_of_row _ _ _ _ _ _ X2.out]; rfl
    have e1 : W2.cell? ⟨w.heap.size, 1, none⟩ = some (.slice a bs.length cap) := by rw [cell_of_row _ _ _ _ _ _ X2.out]; rfl
    go_wp2_with fail
    refine (HP2.out _ (H.out.below B2.out (Nat.le_refl _))).mono ?_
    rintro e w3 ⟨rfl, hb3⟩
    go_upto_region 5 with fail
    obtain ⟨W3, hW3⟩ : ∃ X, X = w3.alloc (Obj.cells #[.int .i64 s1, .int .i64 s2, .bool s3, .bool s4] 33) := ⟨_, rfl⟩
    rw [← hW3]
    have hbb3 : Below W2.heap.size W2 W3 := by rw [hW3]; exact hb3.alloc hb3.size _
    have hs3 : W3.heap[w3.heap.size]? = some (.cells #[.int .i64 s1, .int .i64 s2, .bool s3, .bool s4] 33 (0,0)) := by rw [hW3]; exact heap_alloc_new _ _
    have X3 := hidE (blk_below hbb3 (lt_of_block X2.out) X2.out)
    have B3 := hidE (B2.out.trans (hbb3.mono B2.out.size))
    have S3 := hidE hs3
    have S2_3 := hidE (blk_below hbb3 (lt_of_block S2.out) S2.out)
    clear e0 e1 hb3 hbb3 hs3 hW3
    have e0 : W3.cell? ⟨w.heap.size, 0, none⟩ = some (.int .i64 N) := by rw [cell_of_row _ _ _ _ _ _ X3.out]; rfl
    have e1 : W3.cell? ⟨w.heap.size, 1, none⟩ = some (.slice a bs.length cap) := by rw [cell_of_row _ _ _ _ _ _ X3.out]; rfl
    go_wp2_with fail
    refine (HP3.out _ (H.out.below B3.out (Nat.le_refl _))).mono ?_
    rintro e w4 ⟨rfl, hb4⟩
    go_upto_region 6 with fail
    obtain ⟨W4, hW4⟩ : ∃ X, X = w4.alloc (Obj.cells #[.int .i64 r1, .int .i64 r2, .bool r3, .bool r4] 33) := ⟨_, rfl⟩
    rw [← hW4]
    have hbb4 : Below W3.heap.size W3 W4 := by rw [hW4]; exact hb4.alloc hb4.size _
    have hs4 : W4.heap[w4.heap.size]? = some (.cells #[.int .i64 r1, .int .i64 r2, .bool r3, .bool r4] 33 (0,0)) := by rw [hW4]; exact heap_alloc_new _ _
    have X4 := hidE (blk_below hbb4 (lt_of_block X3.out) X3.out)
    have B4 := hidE (B3.out.trans (hbb4.mono B3.out.size))
    have S4 := hidE hs4
    have S2_3_4 := hidE (blk_below hbb4 (lt_of_block S2_3.out) S2_3.out)
    have S3_4 := hidE (blk_below hbb4 (lt_of_block S3.out) S3.out)
    clear e0 e1 hb4 hbb4 hs4 hW4
    have e0 : W4.cell? ⟨w.heap.size, 0, none⟩ = some (.int .i64 N) := by rw [cell_of_row _ _ _ _ _ _ X4.out]; rfl
    have e1 : W4.cell? ⟨w.heap.size, 1, none⟩ = some (.slice a bs.length cap) := by rw [cell_of_row _ _ _ _ _ _ X4.out]; rfl
    go_wp2_with fail
    refine (HP4.out _ (H.out.below B4.out (Nat.le_refl _))).mono ?_
    rintro e w5 ⟨rfl, hb5⟩
    go_upto_region 7 with fail
    obtain ⟨W5, hW5⟩ : ∃ X, X = w5.alloc (Obj.cells #[.int .i64 r1, .int .i64 r2, .bool r3, .bool r4] 33) := ⟨_, rfl⟩
    rw [← hW5]
    have hbb5 : Below W4.heap.size W4 W5 := by rw [hW5]; exact hb5.alloc hb5.size _
    have hs5 : W5.heap[w5.heap.size]? = some (.cells #[.int .i64 r1, .int .i64 r2, .bool r3, .bool r4] 33 (0,0)) := by rw [hW5]; exact heap_alloc_new _ _
    have X5 := hidE (blk_below hbb5 (lt_of_block X4.out) X4.out)
    have B5 := hidE (B4.out.trans (hbb5.mono B4.out.size))
    have S5 := hidE hs5
    have S2_3_4_5 := hidE (blk_below hbb5 (lt_of_block S2_3_4.out) S2_3_4.out)
    have S3_4_5 := hidE (blk_below hbb5 (lt_of_block S3_4.out) S3_4.out)
    have S4_5 := hidE (blk_below hbb5 (lt_of_block S4.out) S4.out)
    clear e0 e1 hb5 hbb5 hs5 hW5
    go_wp2_with fail
    refine (alive_any _).mono ?_
    rintro e w6 ⟨rfl, hb6⟩
    have c0 := blk_below hb6 (lt_of_block S2_3_4_5.out) S2_3_4_5.out
    have c00 : w6.cell? ⟨w2.heap.size, 0, none⟩ = some (.int .i64 s1) := by rw [cell_of_row _ _ _ _ _ _ c0]; rfl
    have c01 : w6.cell? ⟨w2.heap.size, 1, none⟩ = some (.int .i64 s2) := by rw [cell_of_row _ _ _ _ _ _ c0]; rfl
    have c02 : w6.cell? ⟨w2.heap.size, 2, none⟩ = some (.bool s3) := by rw [cell_of_row _ _ _ _ _ _ c0]; rfl
    have c03 : w6.cell? ⟨w2.heap.size, 3, none⟩ = some (.bool s4) := by rw [cell_of_row _ _ _ _ _ _ c0]; rfl
    have c1 := blk_below hb6 (lt_of_block S3_4_5.out) S3_4_5.out
    have c10 : w6.cell? ⟨w3.heap.size, 0, none⟩ = some (.int .i64 s1) := by rw [cell_of_row _ _ _ _ _ _ c1]; rfl
    have c11 : w6.cell? ⟨w3.heap.size, 1, none⟩ = some (.int .i64 s2) := by rw [cell_of_row _ _ _ _ _ _ c1]; rfl
    have c12 : w6.cell? ⟨w3.heap.size, 2, none⟩ = some (.bool s3) := by rw [cell_of_row _ _ _ _ _ _ c1]; rfl
    have c13 : w6.cell? ⟨w3.heap.size, 3, none⟩ = some (.bool s4) := by rw [cell_of_row _ _ _ _ _ _ c1]; rfl
    have c2 := blk_below hb6 (lt_of_block S4_5.out) S4_5.out
    have c20 : w6.cell? ⟨w4.heap.size, 0, none⟩ = some (.int .i64 r1) := by rw [cell_of_row _ _ _ _ _ _ c2]; rfl
    have c21 : w6.cell? ⟨w4.heap.size, 1, none⟩ = some (.int .i64 r2) := by rw [cell_of_row _ _ _ _ _ _ c2]; rfl
    have c22 : w6.cell? ⟨w4.heap.size, 2, none⟩ = some (.bool r3) := by rw [cell_of_row _ _ _ _ _ _ c2]; rfl
    have c23 : w6.cell? ⟨w4.heap.size, 3, none⟩ = some (.bool r4) := by rw [cell_of_row _ _ _ _ _ _ c2]; rfl
    have c3 := blk_below hb6 (lt_of_block S5.out) S5.out
    have c30 : w6.cell? ⟨w5.heap.size, 0, none⟩ = some (.int .i64 r1) := by rw [cell_of_row _ _ _ _ _ _ c3]; rfl
    have c31 : w6.cell? ⟨w5.heap.size, 1, none⟩ = some (.int .i64 r2) := by rw [cell_of_row _ _ _ _ _ _ c3]; rfl
    have c32 : w6.cell? ⟨w5.heap.size, 2, none⟩ = some (.bool r3) := by rw [cell_of_row _ _ _ _ _ _ c3]; rfl
    have c33 : w6.cell? ⟨w5.heap.size, 3, none⟩ = some (.bool r4) := by rw [cell_of_row _ _ _ _ _ _ c3]; rfl
    clear c0 c1 c2 c3
    go_wp2_with fail
    go_ret
    exact ⟨rfl, B5.out.trans (hb6.mono B5.out.size)⟩

end Go.Proofs.Ytejbpoclfjkllaa
