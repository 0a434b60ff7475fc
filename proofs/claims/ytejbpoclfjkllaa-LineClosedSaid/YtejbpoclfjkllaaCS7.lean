/- Walk: the law LineClosed. -/
import Derived.Test.YtejbpoclfjkllaaCS6
import Derived.Test.YtejbpoclfjkllaaCPlCm
import Derived.Test.YtejbpoclfjkllaaA5
import Derived.Test.YtejbpoclfjkllaaCYj
import Derived.Test.YtejbpoclfjkllaaCY4
import Derived.Test.YtejbpoclfjkllaaCY5
namespace Go.Proofs.Ytejbpoclfjkllaa
open Go Go.RowKit Go.Shelf

set_option maxRecDepth 100000 in
set_option maxHeartbeats 4000000 in
theorem lineClosed_any (w : World) (N : Int) (a : Option Addr) (cap : Nat) (bs : List Bd) (hN : i64ok N) (hl : bs.length ≤ 9223372036854775807) (h : BoundsAt w a bs) :
    Calls Try.prog 24 #[.agg #[.int .i64 N, .slice a bs.length cap]] w fun e w' => e = .returned (.bool true) ∧ Below w.heap.size w w' := by
  have b0 : Below w.heap.size w (w.alloc (.cells #[.int .i64 N, .slice a bs.length cap] 24)) := (Below.refl _ _).alloc (Nat.le_refl _) _
  obtain ⟨f, hf⟩ : ∃ f, fewP N bs.length 14 40 = f := ⟨_, rfl⟩
  have hs := fun W => someL_any W N a cap bs.length
  rw [hf] at hs
  have B0 := hidE b0
  have HN := hidE hN
  have H := hidE h
  have HS := hidE hs
  clear b0 hN h hs hf
  cases f with
  | false =>
    go_enter Try.func24, Try.ntmps24
    go_wp2_with fail
    refine (HS.out _).mono ?_
    rintro e w1 ⟨rfl, hb1⟩
    have B1 := hidE (B0.out.trans (hb1.mono B0.out.size))
    go_wp2_with fail
    refine (alive_any _).mono ?_
    rintro e w2 ⟨rfl, hb2⟩
    go_wp2_with fail
    go_ret
    exact ⟨rfl, B1.out.trans (hb2.mono B1.out.size)⟩
  | true =>
    obtain ⟨⟨M, L, e⟩, hM⟩ : ∃ t, closeE N bs = t := ⟨_, rfl⟩
    have q1 := fun W hb => close_any W N a cap bs HN.out hl hb
    have hlaw := closed_law hM
    rw [hM] at q1
    unfold ClosePost at q1
    simp only at q1
    have Q1 := hidE q1
    have HL := hidE hlaw
    clear q1 hlaw hM
    go_enter Try.func24, Try.ntmps24
    go_wp2_with fail
    refine (HS.out _).mono ?_
    rintro _ w1 ⟨rfl, hb1⟩
    have x1 := blk_below hb1 (by simp) (heap_alloc_new w (.cells #[.int .i64 N, .slice a bs.length cap] 24))
    have e0 : w1.cell? ⟨w.heap.size, 0, none⟩ = some (.int .i64 N) := by rw [cell_of_row _ _ _ _ _ _ x1]; rfl
    have e1 : w1.cell? ⟨w.heap.size, 1, none⟩ = some (.slice a bs.length cap) := by rw [cell_of_row _ _ _ _ _ _ x1]; rfl
    have X1 := hidE x1
    have B1 := hidE (B0.out.trans (hb1.mono B0.out.size))
    clear x1 hb1
    go_wp2_with fail
    refine (Q1.out _ (H.out.below B1.out (Nat.le_refl _))).mono ?_
    rintro _ V2 ⟨⟨v2, rfl, ho2⟩, hb2⟩
    obtain ⟨o5, c5, rfl, hi5, _⟩ := boundsAt_of_out ho2
    obtain ⟨w2, hW2⟩ : ∃ X, X = V2.alloc (.cells #[.int .i64 M, .slice o5 L.length c5] 24) := ⟨_, rfl⟩
    obtain ⟨bc, hbc⟩ : ∃ b, b = V2.heap.size := ⟨_, rfl⟩
    have hbb : Below w1.heap.size w1 w2 := by rw [hW2]; exact hb2.alloc hb2.size _
    have X2 := hidE (blk_below hbb (lt_of_block X1.out) X1.out)
    have T2 := hidE (show w2.heap[bc]? = some (.cells #[.int .i64 M, .slice o5 L.length c5] 24 (0,0)) by rw [hW2, hbc]; exact heap_alloc_new _ _)
    have B2 := hidE (B1.out.trans (hbb.mono B1.out.size))
    have I2 := hidE (show BoundsAt w2 o5 L by rw [hW2]; exact hi5.alloc _)
    have HW2 := hidE hW2
    have HBC := hidE hbc
    have f0 : w2.cell? ⟨bc, 0, none⟩ = some (.int .i64 M) := by rw [cell_of_row _ _ _ _ _ _ T2.out]; rfl
    have f1 : w2.cell? ⟨bc, 1, none⟩ = some (.slice o5 L.length c5) := by rw [cell_of_row _ _ _ _ _ _ T2.out]; rfl
    clear hb2 ho2 hi5 hbb hW2 hbc e0 e1
    go_upto_region 4 with fail
    rw [← HW2.out, ← HBC.out]
    clear HW2 HBC
    rcases HL.out with ⟨g1, g2, g3⟩ | ⟨g1, R, g2, g3, g4, g5, g6, g7, g8, g9⟩
    · subst g2
      subst g3
      have hb : (e != 0) = true := by simpa using g1
      have hb' : (e == 0) = false := by simpa using g1
      simp only [List.length_nil] at f1 T2
      clear g1 HL Q1 f0 f1
      go_wp2_with fail
      refine (alive_any _).mono ?_
      rintro _ w3 ⟨rfl, hb3⟩
      have T3 := blk_below hb3 (lt_of_block T2.out) T2.out
      have f0 : w3.cell? ⟨bc, 0, none⟩ = some (.int .i64 0) := by rw [cell_of_row _ _ _ _ _ _ T3]; rfl
      have f1 : w3.cell? ⟨bc, 1, none⟩ = some (.slice o5 0 c5) := by rw [cell_of_row _ _ _ _ _ _ T3]; rfl
      have HB3 := hidE (B2.out.trans (hb3.mono B2.out.size))
      clear hb3 T3
      go_wp2_with fail
      go_ret
      exact ⟨rfl, HB3.out⟩
    · subst g1
      subst g2
      subst g3
      have hN' : i64ok (R : Int) := HN.out
      have q2 := fun W o c hb => close_any W R o c L hN' (by omega) hb
      rw [g7] at q2
      unfold ClosePost at q2
      simp only at q2
      have hsm := fun W o c o' c' h1 h2 => same_any W R o c o' c' L (by omega) h1 h2
      have hal := fun W c2 o2 h1 h2 => alike_any W R a cap bs R o2 c2 L rfl hN' hl (by omega) h1 h2 g8 g4
      rw [g9] at hal
      obtain ⟨n, hn⟩ : ∃ n, L.length = n := ⟨_, rfl⟩
      rw [hn] at q2 hsm hal f1 T2
      have Q2 := hidE q2
      have HSM := hidE hsm
      have HAL := hidE hal
      have HN9 := hidE hn
      clear q2 hsm hal g5 g6 g7 g8 g9 hn HL Q1
      go_wp2_with fail
      refine (Q2.out _ _ _ I2.out).mono ?_
      rintro _ V3 ⟨⟨v3, rfl, ho3⟩, hb3⟩
      obtain ⟨o7, c7, ev, hi7, _⟩ := boundsAt_of_out ho3
      rw [HN9.out] at ev
      subst ev
      obtain ⟨w3, hW3⟩ : ∃ X, X = V3.alloc (.cells #[.int .i64 (R : Int), .slice o7 n c7] 24) := ⟨_, rfl⟩
      obtain ⟨bd, hbd⟩ : ∃ b, b = V3.heap.size := ⟨_, rfl⟩
      have hbb : Below w2.heap.size w2 w3 := by rw [hW3]; exact hb3.alloc hb3.size _
      have X3 := hidE (blk_below hbb (lt_of_block X2.out) X2.out)
      have T3 := hidE (blk_below hbb (lt_of_block T2.out) T2.out)
      have U3 := hidE (show w3.heap[bd]? = some (.cells #[.int .i64 (R : Int), .slice o7 n c7] 24 (0,0)) by rw [hW3, hbd]; exact heap_alloc_new _ _)
      have B3 := hidE (B2.out.trans (hbb.mono B2.out.size))
      have I3 := hidE (I2.out.below hbb (Nat.le_refl _))
      have J3 := hidE (show BoundsAt w3 o7 L by rw [hW3]; exact hi7.alloc _)
      have HW3 := hidE hW3
      have HBD := hidE hbd
      clear hb3 ho3 hi7 hbb hW3 hbd f0 f1
      go_upto_region 7 with fail
      rw [← HW3.out, ← HBD.out]
      clear HW3 HBD
      go_wp2_with fail
      refine (alive_any _).mono ?_
      rintro _ w4 ⟨rfl, hb4⟩
      have X4 := hidE (blk_below hb4 (lt_of_block X3.out) X3.out)
      have T4 := hidE (blk_below hb4 (lt_of_block T3.out) T3.out)
      have U4 := hidE (blk_below hb4 (lt_of_block U3.out) U3.out)
      have B4 := hidE (B3.out.trans (hb4.mono B3.out.size))
      have I4 := hidE (I3.out.below hb4 (Nat.le_refl _))
      have J4 := hidE (J3.out.below hb4 (Nat.le_refl _))
      clear hb4
      have f0 : w4.cell? ⟨bc, 0, none⟩ = some (.int .i64 (R : Int)) := by rw [cell_of_row _ _ _ _ _ _ T4.out]; rfl
      have f1 : w4.cell? ⟨bc, 1, none⟩ = some (.slice o5 n c5) := by rw [cell_of_row _ _ _ _ _ _ T4.out]; rfl
      have u0 : w4.cell? ⟨bd, 0, none⟩ = some (.int .i64 (R : Int)) := by rw [cell_of_row _ _ _ _ _ _ U4.out]; rfl
      have u1 : w4.cell? ⟨bd, 1, none⟩ = some (.slice o7 n c7) := by rw [cell_of_row _ _ _ _ _ _ U4.out]; rfl
      go_wp2_with fail
      refine (HSM.out _ _ _ _ _ I4.out J4.out).mono ?_
      rintro _ w5 ⟨rfl, hb5⟩
      have X5 := hidE (blk_below hb5 (lt_of_block X4.out) X4.out)
      have T5 := hidE (blk_below hb5 (lt_of_block T4.out) T4.out)
      have B5 := hidE (B4.out.trans (hb5.mono B4.out.size))
      have I5 := hidE (I4.out.below hb5 (Nat.le_refl _))
      clear hb5 f0 f1 u0 u1
      have f0 : w5.cell? ⟨bc, 0, none⟩ = some (.int .i64 (R : Int)) := by rw [cell_of_row _ _ _ _ _ _ T5.out]; rfl
      have f1 : w5.cell? ⟨bc, 1, none⟩ = some (.slice o5 n c5) := by rw [cell_of_row _ _ _ _ _ _ T5.out]; rfl
      have e0 : w5.cell? ⟨w.heap.size, 0, none⟩ = some (.int .i64 (R : Int)) := by rw [cell_of_row _ _ _ _ _ _ X5.out]; rfl
      have e1 : w5.cell? ⟨w.heap.size, 1, none⟩ = some (.slice a bs.length cap) := by rw [cell_of_row _ _ _ _ _ _ X5.out]; rfl
      go_wp2_with fail
      refine (HAL.out _ _ _ (H.out.below B5.out (Nat.le_refl _)) I5.out).mono ?_
      rintro _ w6 ⟨rfl, hb6⟩
      have B6 := hidE (B5.out.trans (hb6.mono B5.out.size))
      clear hb6 f0 f1 e0 e1
      go_wp2_with fail
      go_ret
      exact ⟨rfl, B6.out⟩

end Go.Proofs.Ytejbpoclfjkllaa
