/- Walk: the law LineCloses. -/
import Derived.Test.YthcmjhellpjllaaGreatCS8
import Derived.Test.YthcmjhellpjllaaGreatA5
import Derived.Test.YthcmjhellpjllaaGreatCY4
import Derived.Test.YthcmjhellpjllaaGreatCY5
import Derived.Test.YthcmjhellpjllaaGreatCPlCm
import Derived.Test.YthcmjhellpjllaaGreatCPlU
namespace Go.Proofs.YthcmjhellpjllaaGreat
open Go Go.RowKit Go.Shelf

set_option maxRecDepth 100000 in
set_option maxHeartbeats 4000000 in
theorem lineCloses_any (w : World) (N : Int) (a : Option Addr) (cap : Nat) (bs : List Bd) (hN : i64ok N) (hl : bs.length ≤ 9223372036854775807) (h : BoundsAt w a bs) :
    Calls Tryz.prog 3 #[.agg #[.int .i64 N, .slice a bs.length cap]] w fun e w' => e = .returned (.bool true) ∧ Below w.heap.size w w' := by
  have b0 : Below w.heap.size w (w.alloc (.cells #[.int .i64 N, .slice a bs.length cap] 24)) := (Below.refl _ _).alloc (Nat.le_refl _) _
  obtain ⟨f, hf⟩ : ∃ f, fewP N bs.length 14 40 = f := ⟨_, rfl⟩
  have hs := fun W => someL_any W N a cap bs.length
  rw [hf] at hs
  have B0 := hidE b0
  have HN := hidE hN
  have H := hidE h
  have HS := hidE hs
  cases f with
  | false =>
    clear b0 hN h hs hf
    go_enter Tryz.func3, Tryz.ntmps3
    go_wp2_with fail
    refine (HS.out _).mono ?_
    rintro e w1 ⟨rfl, hb1⟩
    have B1 := hidE (B0.out.trans (hb1.mono B0.out.size))
    go_wp2_with fail
    refine (alive_any _).mono ?_
    rintro e w2 ⟨rfl, hb2⟩
    go_wp2_with fail
    go_ret
    exact ⟨rfl, B1.out.trans (hb2.mono B1.out.size)⟩
  | true =>
    have hsm : checkP N bs = 0 → N ≤ 40 := fun hc => by have q := checkP_zero hc; have := fewP_pts hf q.2.1 q.2.2.1; omega
    obtain ⟨⟨M, L, e⟩, hM⟩ : ∃ t, closeE N bs = t := ⟨_, rfl⟩
    have q1 := fun W hb => close_any W N a cap bs HN.out hl hb
    have q2 := fun W hb => refclose_any W N a cap bs HN.out hl hb hsm
    rw [hM] at q1 q2
    unfold ClosePost at q1 q2
    simp only at q1 q2
    have hLl : L.length ≤ 100000 := by
      rcases closed_law hM with ⟨_, _, q⟩ | ⟨_, R, _, _, _, _, q, _⟩
      · rw [q]; simp
      · omega
    have hsa := fun W o c o' c' h1 h2 => same_any W M o c o' c' L (by omega) h1 h2
    obtain ⟨n, hn⟩ : ∃ n, L.length = n := ⟨_, rfl⟩
    rw [hn] at hsa
    have Q1 := hidE q1
    have Q2 := hidE q2
    have HSA := hidE hsa
    have HN9 := hidE hn
    clear b0 hN h hs hf q1 q2 hM hsa hsm hLl hn
    go_enter Tryz.func3, Tryz.ntmps3
    go_wp2_with fail
    refine (HS.out _).mono ?_
    rintro _ w1 ⟨rfl, hb1⟩
    have x1 := blk_below hb1 (by simp) (heap_alloc_new w (.cells #[.int .i64 N, .slice a bs.length cap] 24))
    have e0 : w1.cell? ⟨w.heap.size, 0, none⟩ = some (.int .i64 N) := by rw [cell_of_row _ _ _ _ _ _ x1]; rfl
    have e1 : w1.cell? ⟨w.heap.size, 1, none⟩ = some (.slice a bs.length cap) := by rw [cell_of_row _ _ _ _ _ _ x1]; rfl
    have X1 := hidE x1
    have B1 := hidE (B0.out.trans (hb1.mono B0.out.size))
    clear x1 hb1
    go_wp2_with fail
    refine (Q1.out _ (H.out.below B1.out (Nat.le_refl _))).mono ?_
    rintro _ V2 ⟨⟨v2, rfl, ho2⟩, hb2⟩
    obtain ⟨o5, c5, ev, hi5, _⟩ := boundsAt_of_out ho2
    rw [HN9.out] at ev
    subst ev
    obtain ⟨w2, hW2⟩ : ∃ X, X = V2.alloc (.cells #[.int .i64 M, .slice o5 n c5] 24) := ⟨_, rfl⟩
    obtain ⟨bc, hbc⟩ : ∃ b, b = V2.heap.size := ⟨_, rfl⟩
    have hbb : Below w1.heap.size w1 w2 := by rw [hW2]; exact hb2.alloc hb2.size _
    have X2 := hidE (blk_below hbb (lt_of_block X1.out) X1.out)
    have T2 := hidE (show w2.heap[bc]? = some (.cells #[.int .i64 M, .slice o5 n c5] 24 (0,0)) by rw [hW2, hbc]; exact heap_alloc_new _ _)
    have B2 := hidE (B1.out.trans (hbb.mono B1.out.size))
    have I2 := hidE (show BoundsAt w2 o5 L by rw [hW2]; exact hi5.alloc _)
    have HW2 := hidE hW2
    have HBC := hidE hbc
    clear hb2 ho2 hi5 hbb hW2 hbc e0 e1
    go_upto_region 4 with fail
    rw [← HW2.out, ← HBC.out]
    clear HW2 HBC
    have e0 : w2.cell? ⟨w.heap.size, 0, none⟩ = some (.int .i64 N) := by rw [cell_of_row _ _ _ _ _ _ X2.out]; rfl
    have e1 : w2.cell? ⟨w.heap.size, 1, none⟩ = some (.slice a bs.length cap) := by rw [cell_of_row _ _ _ _ _ _ X2.out]; rfl
    go_wp2_with fail
    refine (Q2.out _ (H.out.below B2.out (Nat.le_refl _))).mono ?_
    rintro _ V3 ⟨⟨v3, rfl, ho3⟩, hb3⟩
    obtain ⟨o7, c7, ev, hi7, _⟩ := boundsAt_of_out ho3
    rw [HN9.out] at ev
    subst ev
    obtain ⟨w3, hW3⟩ : ∃ X, X = V3.alloc (.cells #[.int .i64 M, .slice o7 n c7] 24) := ⟨_, rfl⟩
    obtain ⟨bd, hbd⟩ : ∃ b, b = V3.heap.size := ⟨_, rfl⟩
    have hbb : Below w2.heap.size w2 w3 := by rw [hW3]; exact hb3.alloc hb3.size _
    have T3 := hidE (blk_below hbb (lt_of_block T2.out) T2.out)
    have U3 := hidE (show w3.heap[bd]? = some (.cells #[.int .i64 M, .slice o7 n c7] 24 (0,0)) by rw [hW3, hbd]; exact heap_alloc_new _ _)
    have B3 := hidE (B2.out.trans (hbb.mono B2.out.size))
    have I3 := hidE (I2.out.below hbb (Nat.le_refl _))
    have J3 := hidE (show BoundsAt w3 o7 L by rw [hW3]; exact hi7.alloc _)
    have HW3 := hidE hW3
    have HBD := hidE hbd
    clear hb3 ho3 hi7 hbb hW3 hbd e0 e1
    go_upto_region 5 with fail
    rw [← HW3.out, ← HBD.out]
    clear HW3 HBD
    go_wp2_with fail
    refine (alive_any _).mono ?_
    rintro _ w4 ⟨rfl, hb4⟩
    have T4 := hidE (blk_below hb4 (lt_of_block T3.out) T3.out)
    have U4 := hidE (blk_below hb4 (lt_of_block U3.out) U3.out)
    have B4 := hidE (B3.out.trans (hb4.mono B3.out.size))
    have I4 := hidE (I3.out.below hb4 (Nat.le_refl _))
    have J4 := hidE (J3.out.below hb4 (Nat.le_refl _))
    clear hb4
    have f0 : w4.cell? ⟨bc, 0, none⟩ = some (.int .i64 M) := by rw [cell_of_row _ _ _ _ _ _ T4.out]; rfl
    have f1 : w4.cell? ⟨bc, 1, none⟩ = some (.slice o5 n c5) := by rw [cell_of_row _ _ _ _ _ _ T4.out]; rfl
    have u0 : w4.cell? ⟨bd, 0, none⟩ = some (.int .i64 M) := by rw [cell_of_row _ _ _ _ _ _ U4.out]; rfl
    have u1 : w4.cell? ⟨bd, 1, none⟩ = some (.slice o7 n c7) := by rw [cell_of_row _ _ _ _ _ _ U4.out]; rfl
    go_wp2_with fail
    refine (HSA.out _ _ _ _ _ I4.out J4.out).mono ?_
    rintro _ w5 ⟨rfl, hb5⟩
    have B5 := hidE (B4.out.trans (hb5.mono B4.out.size))
    clear hb5 f0 f1 u0 u1
    go_wp2_with fail
    go_ret
    exact ⟨rfl, B5.out⟩

end Go.Proofs.YthcmjhellpjllaaGreat
