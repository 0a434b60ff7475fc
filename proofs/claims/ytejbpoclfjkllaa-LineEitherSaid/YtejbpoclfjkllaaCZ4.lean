/- Walk: the law LineEither. No conditions beyond those stated. -/
import Derived.Test.YtejbpoclfjkllaaCPlV
import Derived.Test.YtejbpoclfjkllaaCYb
import Derived.Test.YtejbpoclfjkllaaCY2
import Derived.Test.YtejbpoclfjkllaaA5
namespace Go.Proofs.Ytejbpoclfjkllaa
open Go Go.RowKit Go.Shelf

set_option maxRecDepth 100000 in
set_option maxHeartbeats 8000000 in
theorem lineEither_any (w : World) (N : Int) (a : Option Addr) (cap : Nat) (bs : List Bd) (a2 : Option Addr) (cap2 : Nat) (l : List Int) (hN : i64ok N) (hl : bs.length ≤ 9223372036854775807) (hl2 : l.length ≤ 9223372036854775807) (h : BoundsAt w a bs) (h2 : IntsAt w a2 l) :
    Calls Try.prog 23 #[.agg #[.int .i64 N, .slice a bs.length cap], .slice a2 l.length cap2] w fun e w' => e = .returned (.bool true) ∧ Below w.heap.size w w' := by
  have b0 : Below w.heap.size w (w.alloc (.cells #[.int .i64 N, .slice a bs.length cap] 24)) := (Below.refl _ _).alloc (Nat.le_refl _) _
  obtain ⟨f, hf⟩ : ∃ f, fewP N bs.length 14 40 = f := ⟨_, rfl⟩
  have hs := fun W => someL_any W N a cap bs.length
  rw [hf] at hs
  have B0 := hidE b0
  have HN := hidE hN
  have H := hidE h
  have H2 := hidE h2
  have HS := hidE hs
  have HF := hidE hf
  clear b0 hN h h2 hs hf
  cases f with
  | false =>
    go_enter Try.func23, Try.ntmps23
    go_wp2_with fail
    refine (HS.out _).mono ?_
    rintro e w1 ⟨rfl, hb1⟩
    have B1 := hidE (B0.out.trans (hb1.mono B0.out.size))
    go_wp2_with fail
    refine (alive_any _).mono ?_
    rintro e w2 ⟨rfl, hb2⟩
    go_wp2_with fail
    go_ret
    exact ⟨rfl, B1.out.trans (hb2.mono B1.out.size)⟩
  | true =>
    by_cases hbig : 40 < l.length
    · have hd : decide ((l.length : Int) > 40) = true := by simp; omega
      clear hbig
      go_enter Try.func23, Try.ntmps23
      go_wp2_with fail
      refine (HS.out _).mono ?_
      rintro e w1 ⟨rfl, hb1⟩
      have B1 := hidE (B0.out.trans (hb1.mono B0.out.size))
      go_wp2_with fail
      refine (alive_any _).mono ?_
      rintro e w2 ⟨rfl, hb2⟩
      go_wp2_with fail
      go_ret
      exact ⟨rfl, B1.out.trans (hb2.mono B1.out.size)⟩
    have hd : decide ((l.length : Int) > 40) = false := by simp; omega
    clear hbig
    have hlaw := either_law l HF.out
    have hcir := fun W hb => circle_any W N a cap bs HN.out hl hb
    have hsom := fun W hb => someE_any W N a cap bs HN.out hl hb
    have hcon := fun W hb => consistent_any W N a cap bs HN.out hl hb
    have hcck := fun W hb hb2 => checkCircle_any W N a cap bs a2 cap2 l HN.out hl hl2 hb hb2
    obtain ⟨cl, hcl⟩ : ∃ t, (circleP N bs).1 = t := ⟨_, rfl⟩
    obtain ⟨co, hco⟩ : ∃ t, (circleP N bs).2.1 = t := ⟨_, rfl⟩
    obtain ⟨ce, hce⟩ : ∃ t, (circleP N bs).2.2 = t := ⟨_, rfl⟩
    obtain ⟨sl, hsl⟩ : ∃ t, (someE N bs).1 = t := ⟨_, rfl⟩
    obtain ⟨se, hse⟩ : ∃ t, (someE N bs).2 = t := ⟨_, rfl⟩
    obtain ⟨kb, hkb⟩ : ∃ t, (consistentE N bs).1 = t := ⟨_, rfl⟩
    obtain ⟨ke, hke⟩ : ∃ t, (consistentE N bs).2 = t := ⟨_, rfl⟩
    obtain ⟨ob, hob⟩ : ∃ t, (checkCircleP N bs l).1 = t := ⟨_, rfl⟩
    obtain ⟨oe, hoe⟩ : ∃ t, (checkCircleP N bs l).2 = t := ⟨_, rfl⟩
    have E1 : circleP N bs = (cl, co, ce) := by rw [← hcl, ← hco, ← hce]
    have E2 : someE N bs = (sl, se) := by rw [← hsl, ← hse]
    have E3 : consistentE N bs = (kb, ke) := by rw [← hkb, ← hke]
    have E4 : checkCircleP N bs l = (ob, oe) := by rw [← hob, ← hoe]
    rw [hcl, hco, hce] at hcir
    rw [hsl, hse] at hsom
    rw [hkb, hke] at hcon
    rw [hob, hoe] at hcck
    rw [E1, E2, E3, E4] at hlaw
    simp only [Prod.mk.injEq] at hlaw
    have HL := hidE hlaw
    have HCIR := hidE hcir
    have HSOM := hidE hsom
    have HCON := hidE hcon
    have HCCK := hidE hcck
    clear hlaw hcir hsom hcon hcck hcl hco hce hsl hse hkb hke hob hoe E1 E2 E3 E4
    go_enter Try.func23, Try.ntmps23
    go_wp2_with fail
    refine (HS.out _).mono ?_
    rintro e w1 ⟨rfl, hb1⟩
    have x1 := blk_below hb1 (by simp) (heap_alloc_new w (.cells #[.int .i64 N, .slice a bs.length cap] 24))
    have e0 : w1.cell? ⟨w.heap.size, 0, none⟩ = some (.int .i64 N) := by rw [cell_of_row _ _ _ _ _ _ x1]; rfl
    have e1 : w1.cell? ⟨w.heap.size, 1, none⟩ = some (.slice a bs.length cap) := by rw [cell_of_row _ _ _ _ _ _ x1]; rfl
    have B1 := hidE (B0.out.trans (hb1.mono B0.out.size))
    have X1 := hidE x1
    clear x1 hb1
    go_wp2_with fail
    refine (HCIR.out _ (H.out.below B1.out (Nat.le_refl _))).mono ?_
    rintro e w2 ⟨⟨vv, rfl, ho⟩, hb2⟩
    obtain ⟨o1, k1, rfl, hi1, _⟩ := intsAt_of_owns ho
    have x2 := blk_below hb2 (lt_of_block X1.out) X1.out
    have f0 : w2.cell? ⟨w.heap.size, 0, none⟩ = some (.int .i64 N) := by rw [cell_of_row _ _ _ _ _ _ x2]; rfl
    have f1 : w2.cell? ⟨w.heap.size, 1, none⟩ = some (.slice a bs.length cap) := by rw [cell_of_row _ _ _ _ _ _ x2]; rfl
    have B2 := hidE (B1.out.trans (hb2.mono B1.out.size))
    have X2 := hidE x2
    have I2 := hidE hi1
    clear e0 e1 hb2 x2 ho hi1
    go_wp2_with fail
    refine (HSOM.out _ (H.out.below B2.out (Nat.le_refl _))).mono ?_
    rintro e w3 ⟨⟨vv, rfl, ho⟩, hb3⟩
    obtain ⟨o2, k2, rfl, hi2, _⟩ := intsAt_of_owns ho
    have x3 := blk_below hb3 (lt_of_block X2.out) X2.out
    have e0 : w3.cell? ⟨w.heap.size, 0, none⟩ = some (.int .i64 N) := by rw [cell_of_row _ _ _ _ _ _ x3]; rfl
    have e1 : w3.cell? ⟨w.heap.size, 1, none⟩ = some (.slice a bs.length cap) := by rw [cell_of_row _ _ _ _ _ _ x3]; rfl
    have B3 := hidE (B2.out.trans (hb3.mono B2.out.size))
    have X3 := hidE x3
    have I3 := hidE (I2.out.below hb3 (Nat.le_refl _))
    have J3 := hidE hi2
    clear f0 f1 hb3 x3 ho hi2
    go_wp2_with fail
    refine (HCON.out _ (H.out.below B3.out (Nat.le_refl _))).mono ?_
    rintro e w4 ⟨rfl, hb4⟩
    have x4 := blk_below hb4 (lt_of_block X3.out) X3.out
    have f0 : w4.cell? ⟨w.heap.size, 0, none⟩ = some (.int .i64 N) := by rw [cell_of_row _ _ _ _ _ _ x4]; rfl
    have f1 : w4.cell? ⟨w.heap.size, 1, none⟩ = some (.slice a bs.length cap) := by rw [cell_of_row _ _ _ _ _ _ x4]; rfl
    have B4 := hidE (B3.out.trans (hb4.mono B3.out.size))
    have X4 := hidE x4
    have I4 := hidE (I3.out.below hb4 (Nat.le_refl _))
    have J4 := hidE (J3.out.below hb4 (Nat.le_refl _))
    clear e0 e1 hb4 x4
    go_wp2_with fail
    refine (HCCK.out _ (H.out.below B4.out (Nat.le_refl _)) (H2.out.below B4.out (Nat.le_refl _))).mono ?_
    rintro e w5 ⟨rfl, hb5⟩
    have x5 := blk_below hb5 (lt_of_block X4.out) X4.out
    have e0 : w5.cell? ⟨w.heap.size, 0, none⟩ = some (.int .i64 N) := by rw [cell_of_row _ _ _ _ _ _ x5]; rfl
    have e1 : w5.cell? ⟨w.heap.size, 1, none⟩ = some (.slice a bs.length cap) := by rw [cell_of_row _ _ _ _ _ _ x5]; rfl
    have B5 := hidE (B4.out.trans (hb5.mono B4.out.size))
    have I5 := hidE (I4.out.below hb5 (Nat.le_refl _))
    have J5 := hidE (J4.out.below hb5 (Nat.le_refl _))
    clear f0 f1 hb5 x5
    rcases HL.out with ⟨c, hc, ⟨rfl, rfl, rfl⟩, ⟨rfl, rfl⟩, ⟨rfl, rfl⟩, ⟨rfl, rfl⟩⟩ | ⟨s, ⟨rfl, rfl, rfl⟩, ⟨rfl, rfl⟩, ⟨rfl, rfl⟩, ⟨rfl, rfl⟩, hk, hsl⟩ | ⟨c, ok, ⟨rfl, rfl, rfl⟩, ⟨rfl, rfl⟩, ⟨rfl, rfl⟩, ⟨rfl, rfl⟩, hle, hcc, hcl⟩
    · have hb : (oe != 0) = true := by simpa using hc
      clear hc
      go_wp2_with fail
      refine (alive_any _).mono ?_
      rintro e w6 ⟨rfl, hb6⟩
      go_wp2_with fail
      go_ret
      exact ⟨rfl, B5.out.trans (hb6.mono B5.out.size)⟩
    · have hkk := fun W hb hb2 => kept_any W N a cap bs o2 k2 sl HN.out hl (by omega) hb hb2
      rw [hk] at hkk
      simp only at hkk
      have HK := hidE hkk
      clear hk hkk
      go_wp2_with fail
      refine (HK.out _ (H.out.below B5.out (Nat.le_refl _)) J5.out).mono ?_
      rintro e w6 ⟨rfl, hb6⟩
      have B6 := hidE (B5.out.trans (hb6.mono B5.out.size))
      clear hb6
      go_wp2_with fail
      refine (alive_any _).mono ?_
      rintro e w7 ⟨rfl, hb7⟩
      go_wp2_with fail
      go_ret
      exact ⟨rfl, B6.out.trans (hb7.mono B6.out.size)⟩
    · have hkk := fun W hb hb2 => checkCircle_any W N a cap bs o1 k1 cl HN.out hl (by omega) hb hb2
      rw [hcc] at hkk
      simp only at hkk
      have HK := hidE hkk
      clear hcc hkk hcl
      cases ob with
      | false =>
        clear hle
        go_wp2_with fail
        refine (HK.out _ (H.out.below B5.out (Nat.le_refl _)) I5.out).mono ?_
        rintro e w6 ⟨rfl, hb6⟩
        have B6 := hidE (B5.out.trans (hb6.mono B5.out.size))
        clear hb6
        go_wp2_with fail
        refine (alive_any _).mono ?_
        rintro e w7 ⟨rfl, hb7⟩
        go_wp2_with fail
        go_ret
        exact ⟨rfl, B6.out.trans (hb7.mono B6.out.size)⟩
      | true =>
        have hle2 := hle rfl
        have t1 : decide (l.length < cl.length) = false := by simpa using hle2
        have t2 : decide ((cl.length : Int) > (l.length : Int)) = false := by simp; omega
        clear hle hle2
        go_wp2_with fail
        refine (HK.out _ (H.out.below B5.out (Nat.le_refl _)) I5.out).mono ?_
        rintro e w6 ⟨rfl, hb6⟩
        have B6 := hidE (B5.out.trans (hb6.mono B5.out.size))
        clear hb6
        go_wp2_with fail
        refine (alive_any _).mono ?_
        rintro e w7 ⟨rfl, hb7⟩
        go_wp2_with fail
        go_ret
        exact ⟨rfl, B6.out.trans (hb7.mono B6.out.size)⟩

end Go.Proofs.Ytejbpoclfjkllaa
