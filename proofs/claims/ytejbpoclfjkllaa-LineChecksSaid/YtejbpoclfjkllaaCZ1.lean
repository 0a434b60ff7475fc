/- Walk: the law LineChecks. -/
import Derived.Test.YtejbpoclfjkllaaCY3
import Derived.Deep.RegionHeld3
namespace Go.Proofs.Ytejbpoclfjkllaa
open Go Go.RowKit Go.Shelf

set_option maxRecDepth 100000 in
set_option maxHeartbeats 4000000 in
theorem lineChecks_any (w : World) (N : Int) (a : Option Addr) (cap : Nat) (bs : List Bd) (a2 : Option Addr) (cap2 : Nat) (y : List Int) (hN : i64ok N) (hl : bs.length ≤ 9223372036854775807) (hl2 : y.length ≤ 9223372036854775807) (h : BoundsAt w a bs) (h2 : IntsAt w a2 y) :
    Calls Try.prog 9 #[.agg #[.int .i64 N, .slice a bs.length cap], .slice a2 y.length cap2] w fun e w' => e = .returned (.bool true) ∧ Below w.heap.size w w' := by
  have b0 : Below w.heap.size w (w.alloc (.cells #[.int .i64 N, .slice a bs.length cap] 24)) := (Below.refl _ _).alloc (Nat.le_refl _) _
  have B0 := hidE b0
  have HN := hidE hN
  have H := hidE h
  have H2 := hidE h2
  clear b0 hN h h2
  by_cases h1 : 2005 < bs.length
  · have hd : decide ((bs.length : Int) > 2005) = true := by simp; omega
    go_enter Try.func9, Try.ntmps9
    go_wp2_with fail
    refine (alive_any _).mono ?_
    rintro e w1 ⟨rfl, hb1⟩
    go_wp2_with fail
    go_ret
    exact ⟨rfl, B0.out.trans (hb1.mono B0.out.size)⟩
  have hd1 : decide ((bs.length : Int) > 2005) = false := by simp; omega
  by_cases h3 : 200 < y.length
  · have hd : decide ((y.length : Int) > 200) = true := by simp; omega
    go_enter Try.func9, Try.ntmps9
    go_wp2_with fail
    refine (alive_any _).mono ?_
    rintro e w1 ⟨rfl, hb1⟩
    go_wp2_with fail
    go_ret
    exact ⟨rfl, B0.out.trans (hb1.mono B0.out.size)⟩
  have hd2 : decide ((y.length : Int) > 200) = false := by simp; omega
  obtain ⟨k1, hk1⟩ : ∃ x, (keptE N bs y).1 = x := ⟨_, rfl⟩
  obtain ⟨k2, hk2⟩ : ∃ x, (keptE N bs y).2.1 = x := ⟨_, rfl⟩
  obtain ⟨k3, hk3⟩ : ∃ x, (keptE N bs y).2.2 = x := ⟨_, rfl⟩
  have hke := fun W hb hb2 => kept_any W N a cap bs a2 cap2 y HN.out hl hl2 hb hb2
  have hrk := fun W hb hb2 => refkept_any W N a cap bs a2 cap2 y HN.out hl hl2 hb hb2
  obtain ⟨cc, hcc⟩ : ∃ x, checkP N bs = x := ⟨_, rfl⟩
  have hch := fun W hb => check_any W N a cap bs HN.out hl hb
  have hrc := fun W hb => refcheck_any W N a cap bs HN.out hl hb
  rw [hk1, hk2, hk3] at hke hrk
  rw [hcc] at hch hrc
  have HKE := hidE hke
  have HRK := hidE hrk
  have HCH := hidE hch
  have HRC := hidE hrc
  clear hke hrk hch hrc hk1 hk2 hk3 hcc
  go_enter Try.func9, Try.ntmps9
  go_wp2_with fail
  refine (HKE.out _ (H.out.alloc _) (H2.out.alloc _)).mono ?_
  rintro e w1 ⟨rfl, hb1⟩
  have x1 := blk_below hb1 (by simp) (heap_alloc_new w (.cells #[.int .i64 N, .slice a bs.length cap] 24))
  have e0 : w1.cell? ⟨w.heap.size, 0, none⟩ = some (.int .i64 N) := by rw [cell_of_row _ _ _ _ _ _ x1]; rfl
  have e1 : w1.cell? ⟨w.heap.size, 1, none⟩ = some (.slice a bs.length cap) := by rw [cell_of_row _ _ _ _ _ _ x1]; rfl
  have B1 := hidE (B0.out.trans (hb1.mono B0.out.size))
  have X1 := hidE x1
  clear x1 hb1
  go_wp2_with fail
  refine (HRK.out _ (H.out.below B1.out (Nat.le_refl _)) (H2.out.below B1.out (Nat.le_refl _))).mono ?_
  rintro e w2 ⟨rfl, hb2⟩
  have x2 := blk_below hb2 (lt_of_block X1.out) X1.out
  have f0 : w2.cell? ⟨w.heap.size, 0, none⟩ = some (.int .i64 N) := by rw [cell_of_row _ _ _ _ _ _ x2]; rfl
  have f1 : w2.cell? ⟨w.heap.size, 1, none⟩ = some (.slice a bs.length cap) := by rw [cell_of_row _ _ _ _ _ _ x2]; rfl
  have l2 := lt_of_block x2
  have B2 := hidE (B1.out.trans (hb2.mono B1.out.size))
  clear e0 e1 hb2 x2
  go_wp2_with fail
  go_region_held3 (fun w' => w'.cell? ⟨w.heap.size, 0, none⟩ = some (.int .i64 N) ∧ w'.cell? ⟨w.heap.size, 1, none⟩ = some (.slice a bs.length cap)) (first | (exact ⟨s0, s1⟩) | (exact ⟨t0, t1⟩) | (exact ⟨u0, u1⟩) | go_keep)
    (first
      | (go_at_call 26; refine (alive_any _).mono ?_; rintro e wa ⟨rfl, hba⟩; (have bA : Below w.heap.size w wa := B2.out.drew.trans (hba.mono B2.out.size)); (have s0 : wa.cell? ⟨w.heap.size, 0, none⟩ = some (.int .i64 N) := (hba.cell (p := ⟨w.heap.size, 0, none⟩) l2).trans f0); (have s1 : wa.cell? ⟨w.heap.size, 1, none⟩ = some (.slice a bs.length cap) := (hba.cell (p := ⟨w.heap.size, 1, none⟩) l2).trans f1); (have la : w.heap.size < wa.heap.size := Nat.lt_of_lt_of_le l2 hba.size))
      | (go_at_call 48; refine (HCH.out _ (by first | exact H.out.below bA (Nat.le_refl _) | exact H.out.below bC (Nat.le_refl _))).mono ?_; rintro e wb ⟨rfl, hbb⟩; (have bB : Below w.heap.size w wb := by first | exact bA.trans (hbb.mono bA.size) | exact bC.trans (hbb.mono bC.size)); (have t0 : wb.cell? ⟨w.heap.size, 0, none⟩ = some (.int .i64 N) := by first | exact (hbb.cell (p := ⟨w.heap.size, 0, none⟩) la).trans s0 | exact (hbb.cell (p := ⟨w.heap.size, 0, none⟩) lc).trans u0); (have t1 : wb.cell? ⟨w.heap.size, 1, none⟩ = some (.slice a bs.length cap) := by first | exact (hbb.cell (p := ⟨w.heap.size, 1, none⟩) la).trans s1 | exact (hbb.cell (p := ⟨w.heap.size, 1, none⟩) lc).trans u1); (have lb : w.heap.size < wb.heap.size := by first | exact Nat.lt_of_lt_of_le la hbb.size | exact Nat.lt_of_lt_of_le lc hbb.size))
      | (go_at_call 49; refine (HRC.out _ (by first | exact H.out.below bA (Nat.le_refl _) | exact H.out.below bB (Nat.le_refl _))).mono ?_; rintro e wc ⟨rfl, hbc⟩; (have bC : Below w.heap.size w wc := by first | exact bA.trans (hbc.mono bA.size) | exact bB.trans (hbc.mono bB.size)); (have u0 : wc.cell? ⟨w.heap.size, 0, none⟩ = some (.int .i64 N) := by first | exact (hbc.cell (p := ⟨w.heap.size, 0, none⟩) la).trans s0 | exact (hbc.cell (p := ⟨w.heap.size, 0, none⟩) lb).trans t0); (have u1 : wc.cell? ⟨w.heap.size, 1, none⟩ = some (.slice a bs.length cap) := by first | exact (hbc.cell (p := ⟨w.heap.size, 1, none⟩) la).trans s1 | exact (hbc.cell (p := ⟨w.heap.size, 1, none⟩) lb).trans t1); (have lc : w.heap.size < wc.heap.size := by first | exact Nat.lt_of_lt_of_le la hbc.size | exact Nat.lt_of_lt_of_le lb hbc.size)))
  all_goals (go_wp2_with fail; go_ret)
  all_goals first
    | exact ⟨rfl, bC⟩
    | exact ⟨rfl, bB⟩

end Go.Proofs.Ytejbpoclfjkllaa
