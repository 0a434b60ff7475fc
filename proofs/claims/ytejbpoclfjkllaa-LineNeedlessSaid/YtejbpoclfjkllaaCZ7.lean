/- Walk: the law LineNeedless. -/
import Derived.Test.YtejbpoclfjkllaaA5
import Derived.Test.YtejbpoclfjkllaaCY4
import Derived.Test.YtejbpoclfjkllaaCYe
namespace Go.Proofs.Ytejbpoclfjkllaa
open Go Go.RowKit Go.Shelf

set_option maxRecDepth 100000 in
set_option maxHeartbeats 4000000 in
theorem lineNeedless_any (w : World) (N : Int) (a : Option Addr) (cap : Nat) (bs : List Bd) (hN : i64ok N) (hl : bs.length ≤ 9223372036854775807) (h : BoundsAt w a bs) :
    Calls Try.prog 5 #[.agg #[.int .i64 N, .slice a bs.length cap]] w fun e w' => e = .returned (.bool true) ∧ Below w.heap.size w w' := by
  have b0 : Below w.heap.size w (w.alloc (.cells #[.int .i64 N, .slice a bs.length cap] 24)) := (Below.refl _ _).alloc (Nat.le_refl _) _
  obtain ⟨f, hf⟩ : ∃ f, fewP N bs.length 8 14 = f := ⟨_, rfl⟩
  have hs := fun W => fewL_any W N a cap bs.length
  rw [hf] at hs
  have hfew : f = true → checkP N bs = 0 → N ≤ 8 := by
    intro e hc
    rw [← hf] at e
    obtain ⟨n0, n1, n2, _⟩ := checkP_zero hc
    unfold fewP at e
    simp only [Bool.or_eq_true, Bool.and_eq_true, decide_eq_true_eq] at e
    omega
  have B0 := hidE b0
  have HN := hidE hN
  have H := hidE h
  have HS := hidE hs
  have HFW := hidE hfew
  clear b0 hN h hs hf hfew
  cases f with
  | false =>
    go_enter Try.func5, Try.ntmps5
    go_wp2_with fail
    refine (HS.out _).mono ?_
    rintro e w1 ⟨rfl, hb1⟩
    have B1 := hidE (B0.out.trans (hb1.mono B0.out.size))
    go_wp2_with fail
    refine (alive_any _).mono ?_
    rintro e w2 ⟨rfl, hb2⟩
    go_wp2_with fail
    go_ret
    exact ⟨rfl, B1.out.trans (hb2.mono B1.out.size)⟩
  | true =>
    have hp := fun W hb => needless_any W N a cap bs HN.out hl hb
    have hr := fun W hb => refneedless_any W N a cap bs HN.out hl hb (fun hc => by have := HFW.out rfl hc; omega)
    obtain ⟨L, hL⟩ : ∃ L, (needlessE N bs).1 = L := ⟨_, rfl⟩
    obtain ⟨c, hc⟩ : ∃ c, (needlessE N bs).2 = c := ⟨_, rfl⟩
    have hlen : L.length ≤ 9223372036854775807 := by
      rw [← hL]
      unfold needlessE
      split
      · have h1 := needGo_len N.toNat (heightsP N bs) bs bs.length (List.replicate bs.length false) []
        show (needlessP N.toNat (heightsP N bs) bs).length ≤ _
        unfold needlessP
        rw [List.length_reverse]
        simp at h1
        omega
      · simp
    rw [hL, hc] at hp hr
    have HP := hidE hp
    have HR := hidE hr
    clear hp hr hL hc
    go_enter Try.func5, Try.ntmps5
    go_wp2_with fail
    refine (HS.out _).mono ?_
    rintro e w1 ⟨rfl, hb1⟩
    have x1 := blk_below hb1 (by simp) (heap_alloc_new w (.cells #[.int .i64 N, .slice a bs.length cap] 24))
    have e0 : w1.cell? ⟨w.heap.size, 0, none⟩ = some (.int .i64 N) := by rw [cell_of_row _ _ _ _ _ _ x1]; rfl
    have e1 : w1.cell? ⟨w.heap.size, 1, none⟩ = some (.slice a bs.length cap) := by rw [cell_of_row _ _ _ _ _ _ x1]; rfl
    have B1 := hidE (B0.out.trans (hb1.mono B0.out.size))
    have X1 := hidE x1
    clear x1 hb1
    go_wp2_with fail
    refine (HP.out _ (H.out.below B1.out (Nat.le_refl _))).mono ?_
    rintro e w2 ⟨⟨v2, rfl, ho2⟩, hb2⟩
    obtain ⟨o2, c2, rfl, hi2⟩ := owns_intsAt ho2
    have x2 := blk_below hb2 (lt_of_block X1.out) X1.out
    have f0 : w2.cell? ⟨w.heap.size, 0, none⟩ = some (.int .i64 N) := by rw [cell_of_row _ _ _ _ _ _ x2]; rfl
    have f1 : w2.cell? ⟨w.heap.size, 1, none⟩ = some (.slice a bs.length cap) := by rw [cell_of_row _ _ _ _ _ _ x2]; rfl
    have B2 := hidE (B1.out.trans (hb2.mono B1.out.size))
    have I2 := hidE hi2
    clear e0 e1 hb2 x2 ho2 hi2
    go_wp2_with fail
    refine (HR.out _ (H.out.below B2.out (Nat.le_refl _))).mono ?_
    rintro e w3 ⟨⟨v3, rfl, ho3⟩, hb3⟩
    obtain ⟨o3, c3, rfl, hi3⟩ := owns_intsAt ho3
    have B3 := hidE (B2.out.trans (hb3.mono B2.out.size))
    have I3 := hidE (I2.out.below hb3 (Nat.le_refl _))
    have J3 := hidE hi3
    clear f0 f1 hb3 ho3 hi3
    go_wp2_with fail
    refine (alive_any _).mono ?_
    rintro e w4 ⟨rfl, hb4⟩
    have hsm := sameInts_any w4 o2 c2 L o3 c3 L (I3.out.below hb4 (Nat.le_refl _)) (J3.out.below hb4 (Nat.le_refl _)) hlen hlen
    rw [show decide (L = L) = true by simp] at hsm
    have HSM := hidE hsm
    have B4 := hidE (B3.out.trans (hb4.mono B3.out.size))
    clear hsm hb4
    go_wp2_with fail
    refine HSM.out.mono ?_
    rintro e w5 ⟨rfl, hb5⟩
    go_wp2_with fail
    go_ret
    exact ⟨rfl, B4.out.trans (hb5.mono B4.out.size)⟩

end Go.Proofs.Ytejbpoclfjkllaa
