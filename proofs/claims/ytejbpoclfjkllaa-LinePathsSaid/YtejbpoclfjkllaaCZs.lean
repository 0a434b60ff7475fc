/- Walk: the law LinePaths. -/
import Derived.Test.YtejbpoclfjkllaaCZr
import Derived.Test.YtejbpoclfjkllaaCZp
import Derived.Test.YtejbpoclfjkllaaCZ8
import Derived.Test.YtejbpoclfjkllaaA5
namespace Go.Proofs.Ytejbpoclfjkllaa
open Go Go.RowKit Go.Shelf

theorem followed_len {bs : List Bd} {ks : List Nat} {gd : Int → Int → Int → Bool} : ∀ (many : Nat) (A S : Int) (acc r : List Int), followGo bs ks gd many A S acc = some r → r.length = acc.length + many
  | 0, _, _, acc, r, h => by simp [followGo] at h; subst h; rfl
  | k + 1, A, S, acc, r, h => by
    simp only [followGo] at h
    split at h
    · simp at h
    · have := followed_len k _ _ _ _ h
      simp at this; omega
theorem pathE_len {N : Int} {bs : List Bd} {x y : Int} (h : checkP N bs = 0 → N ≤ 128) : (pathE N bs x y).1.length ≤ 1000 := by
  unfold pathE
  by_cases he : askedE N bs [x, y] = 0
  · have hN := h (askedE_zero he).1
    rw [if_pos he]
    split
    · simp
    · unfold pathP followedP
      have hi := idxOf_lt (p := fun r : List Int => r.getD x.toNat 0 == distN N.toNat bs x.toNat y.toNat) (walksP bs y.toNat N.toNat)
      rw [walksP_length] at hi
      cases hf : followGo bs (passes allT bs.length) (gdRows (walksP bs y.toNat N.toNat) (distN N.toNat bs x.toNat y.toNat)) (idxOf (fun r : List Int => r.getD x.toNat 0 == distN N.toNat bs x.toNat y.toNat) (walksP bs y.toNat N.toNat)).toNat x.toNat 0 [] with
      | none => simp
      | some r =>
        have := followed_len _ _ _ _ _ hf
        simp only [List.length_nil, Nat.zero_add] at this
        show r.length ≤ 1000
        omega
  · rw [if_neg he]; simp

set_option maxRecDepth 100000 in
set_option maxHeartbeats 4000000 in
theorem linePaths_any (w : World) (N : Int) (a : Option Addr) (cap : Nat) (bs : List Bd) (x y : Int) (a2 : Option Addr) (cap2 : Nat) (l : List Int) (m : Int) (hN : i64ok N) (hl : bs.length ≤ 9223372036854775807) (h : BoundsAt w a bs) (hl2 : l.length ≤ 9223372036854775807) (h2 : IntsAt w a2 l) :
    Calls Try.prog 16 #[.agg #[.int .i64 N, .slice a bs.length cap], .int .i64 x, .int .i64 y, .slice a2 l.length cap2, .int .i64 m] w fun e w' => e = .returned (.bool true) ∧ Below w.heap.size w w' := by
  have b0 : Below w.heap.size w (w.alloc (.cells #[.int .i64 N, .slice a bs.length cap] 24)) := (Below.refl _ _).alloc (Nat.le_refl _) _
  obtain ⟨f, hf⟩ : ∃ f, fewP N bs.length 14 40 = f := ⟨_, rfl⟩
  have hs := fun W => someL_any W N a cap bs.length
  rw [hf] at hs
  have hfew : f = true → checkP N bs = 0 → N ≤ 14 := fun e hc => (fewP_pts (hf.trans e) rfl (by omega) hc).1
  have B0 := hidE b0
  have HN := hidE hN
  have H := hidE h
  have H2 := hidE h2
  have HS := hidE hs
  have HFW := hidE hfew
  clear b0 hN h h2 hs hf hfew
  cases f with
  | false =>
    go_enter Try.func16, Try.ntmps16
    go_wp2_with fail
    refine (HS.out _).mono ?_
    rintro e w1 ⟨rfl, hb1⟩
    have B1 := hidE (B0.out.trans (hb1.mono B0.out.size))
    go_wp2_with fail
    refine (alive_any _).mono ?_
    rintro e w2 ⟨rfl, hb2⟩
    go_wp2_with fail
    go_ret
    exact ⟨rfl, B1.out.trans (hb2.mono B1.out.size)⟩
  | true =>
    by_cases c1 : l.length ≤ 60
    · have d1 : decide ((l.length : Int) > 60) = false := by simp; omega
      have d3 : decide ((l.length : Int) > 2005) = false := by simp; omega
      have h40 : checkP N bs = 0 → N ≤ 40 := fun hc => by have := HFW.out rfl hc; omega
      have h1 := fun W hb => path_any W N a cap bs x y HN.out hl hb
      have h2 := fun W hb => refpathE_any W N a cap bs x y HN.out hl hb h40
      have h3 := fun W hb hb2 => checkPath_any W N a cap bs a2 cap2 l x y m HN.out hl hl2 hb hb2
      have h4 := fun W hb hb2 => refcheckPath_any W N a cap bs a2 cap2 l x y m HN.out hl hl2 hb hb2
      have k1 := pathE_len (x := x) (y := y) (fun hc => by have := HFW.out rfl hc; omega)
      obtain ⟨⟨L1, e1⟩, hd1⟩ : ∃ t, pathE N bs x y = t := ⟨_, rfl⟩
      obtain ⟨⟨q2, e2⟩, hd2⟩ : ∃ t, checkPathE N bs l x y m = t := ⟨_, rfl⟩
      rw [hd1] at h1 h2 k1
      rw [hd2] at h3 h4
      simp only at k1 h3 h4
      have HP1 := hidE h1
      have HP2 := hidE h2
      have HP3 := hidE h3
      have HP4 := hidE h4
      have HK := hidE k1
      clear h1 h2 h3 h4 k1 hd1 hd2 h40
      go_enter Try.func16, Try.ntmps16
      go_wp2_with fail
      refine (HS.out _).mono ?_
      rintro _ w1 ⟨rfl, hb1⟩
      have X1 := hidE (blk_below hb1 (by simp) (heap_alloc_new w (.cells #[.int .i64 N, .slice a bs.length cap] 24)))
      have B1 := hidE (B0.out.trans (hb1.mono B0.out.size))
      clear hb1
      have f0 : w1.cell? ⟨w.heap.size, 0, none⟩ = some (.int .i64 N) := by rw [cell_of_row _ _ _ _ _ _ X1.out]; rfl
      have f1 : w1.cell? ⟨w.heap.size, 1, none⟩ = some (.slice a bs.length cap) := by rw [cell_of_row _ _ _ _ _ _ X1.out]; rfl
      go_wp2_with fail
      refine (HP1.out _ (H.out.below B1.out (Nat.le_refl _))).mono ?_
      rintro _ w2 ⟨⟨v1, rfl, ho1⟩, hb2⟩
      obtain ⟨o1, c1, rfl, hi1⟩ := owns_intsAt ho1
      have I1 := hidE hi1
      have X2 := hidE (blk_below hb2 (lt_of_block X1.out) X1.out)
      have B2 := hidE (B1.out.trans (hb2.mono B1.out.size))
      clear f0 f1 hb2 hi1 ho1
      have f0 : w2.cell? ⟨w.heap.size, 0, none⟩ = some (.int .i64 N) := by rw [cell_of_row _ _ _ _ _ _ X2.out]; rfl
      have f1 : w2.cell? ⟨w.heap.size, 1, none⟩ = some (.slice a bs.length cap) := by rw [cell_of_row _ _ _ _ _ _ X2.out]; rfl
      go_wp2_with fail
      refine (HP2.out _ (H.out.below B2.out (Nat.le_refl _))).mono ?_
      rintro _ w3 ⟨⟨v2, rfl, ho2⟩, hb3⟩
      obtain ⟨o2, c2, rfl, hi2⟩ := owns_intsAt ho2
      replace I1 := hidE (I1.out.below hb3 (Nat.le_refl _))
      have I2 := hidE hi2
      have X3 := hidE (blk_below hb3 (lt_of_block X2.out) X2.out)
      have B3 := hidE (B2.out.trans (hb3.mono B2.out.size))
      clear f0 f1 hb3 hi2 ho2
      have f0 : w3.cell? ⟨w.heap.size, 0, none⟩ = some (.int .i64 N) := by rw [cell_of_row _ _ _ _ _ _ X3.out]; rfl
      have f1 : w3.cell? ⟨w.heap.size, 1, none⟩ = some (.slice a bs.length cap) := by rw [cell_of_row _ _ _ _ _ _ X3.out]; rfl
      go_wp2_with fail
      refine (HP3.out _ (H.out.below B3.out (Nat.le_refl _)) (H2.out.below B3.out (Nat.le_refl _))).mono ?_
      rintro _ w4 ⟨rfl, hb4⟩
      replace I1 := hidE (I1.out.below hb4 (Nat.le_refl _))
      replace I2 := hidE (I2.out.below hb4 (Nat.le_refl _))
      have X4 := hidE (blk_below hb4 (lt_of_block X3.out) X3.out)
      have B4 := hidE (B3.out.trans (hb4.mono B3.out.size))
      clear f0 f1 hb4
      have f0 : w4.cell? ⟨w.heap.size, 0, none⟩ = some (.int .i64 N) := by rw [cell_of_row _ _ _ _ _ _ X4.out]; rfl
      have f1 : w4.cell? ⟨w.heap.size, 1, none⟩ = some (.slice a bs.length cap) := by rw [cell_of_row _ _ _ _ _ _ X4.out]; rfl
      go_wp2_with fail
      refine (HP4.out _ (H.out.below B4.out (Nat.le_refl _)) (H2.out.below B4.out (Nat.le_refl _))).mono ?_
      rintro _ w5 ⟨rfl, hb5⟩
      replace I1 := hidE (I1.out.below hb5 (Nat.le_refl _))
      replace I2 := hidE (I2.out.below hb5 (Nat.le_refl _))
      have X5 := hidE (blk_below hb5 (lt_of_block X4.out) X4.out)
      have B5 := hidE (B4.out.trans (hb5.mono B4.out.size))
      clear f0 f1 hb5
      go_wp2_with fail
      refine (alive_any _).mono ?_
      rintro _ w6 ⟨rfl, hb6⟩
      replace I1 := hidE (I1.out.below hb6 (Nat.le_refl _))
      replace I2 := hidE (I2.out.below hb6 (Nat.le_refl _))
      have B6 := hidE (B5.out.trans (hb6.mono B5.out.size))
      have hsi := sameInts_any w6 o1 c1 L1 o2 c2 L1 I1.out I2.out (by have := HK.out; omega) (by have := HK.out; omega)
      rw [show decide (L1 = L1) = true by simp] at hsi
      have HSI := hidE hsi
      clear hsi hb6
      go_wp2_with fail
      refine HSI.out.mono ?_
      rintro _ w7 ⟨rfl, hb7⟩
      go_wp2_with fail
      go_ret
      exact ⟨rfl, B6.out.trans (hb7.mono B6.out.size)⟩
    · have d1 : decide ((l.length : Int) > 60) = true := by simp; omega
      by_cases c2 : l.length ≤ 2000
      · have d2 : decide ((l.length : Int) ≤ 2000) = true := by simp; omega
        go_enter Try.func16, Try.ntmps16
        go_wp2_with fail
        refine (HS.out _).mono ?_
        rintro e w1 ⟨rfl, hb1⟩
        have B1 := hidE (B0.out.trans (hb1.mono B0.out.size))
        go_wp2_with fail
        refine (alive_any _).mono ?_
        rintro e w2 ⟨rfl, hb2⟩
        go_wp2_with fail
        go_ret
        exact ⟨rfl, B1.out.trans (hb2.mono B1.out.size)⟩
      · have d2 : decide ((l.length : Int) ≤ 2000) = false := by simp; omega
        by_cases c3 : l.length ≤ 2005
        · have d3 : decide ((l.length : Int) > 2005) = false := by simp; omega
          have h40 : checkP N bs = 0 → N ≤ 40 := fun hc => by have := HFW.out rfl hc; omega
          have h1 := fun W hb => path_any W N a cap bs x y HN.out hl hb
          have h2 := fun W hb => refpathE_any W N a cap bs x y HN.out hl hb h40
          have h3 := fun W hb hb2 => checkPath_any W N a cap bs a2 cap2 l x y m HN.out hl hl2 hb hb2
          have h4 := fun W hb hb2 => refcheckPath_any W N a cap bs a2 cap2 l x y m HN.out hl hl2 hb hb2
          have k1 := pathE_len (x := x) (y := y) (fun hc => by have := HFW.out rfl hc; omega)
          obtain ⟨⟨L1, e1⟩, hd1⟩ : ∃ t, pathE N bs x y = t := ⟨_, rfl⟩
          obtain ⟨⟨q2, e2⟩, hd2⟩ : ∃ t, checkPathE N bs l x y m = t := ⟨_, rfl⟩
          rw [hd1] at h1 h2 k1
          rw [hd2] at h3 h4
          simp only at k1 h3 h4
          have HP1 := hidE h1
          have HP2 := hidE h2
          have HP3 := hidE h3
          have HP4 := hidE h4
          have HK := hidE k1
          clear h1 h2 h3 h4 k1 hd1 hd2 h40
          go_enter Try.func16, Try.ntmps16
          go_wp2_with fail
          refine (HS.out _).mono ?_
          rintro _ w1 ⟨rfl, hb1⟩
          have X1 := hidE (blk_below hb1 (by simp) (heap_alloc_new w (.cells #[.int .i64 N, .slice a bs.length cap] 24)))
          have B1 := hidE (B0.out.trans (hb1.mono B0.out.size))
          clear hb1
          have f0 : w1.cell? ⟨w.heap.size, 0, none⟩ = some (.int .i64 N) := by rw [cell_of_row _ _ _ _ _ _ X1.out]; rfl
          have f1 : w1.cell? ⟨w.heap.size, 1, none⟩ = some (.slice a bs.length cap) := by rw [cell_of_row _ _ _ _ _ _ X1.out]; rfl
          go_wp2_with fail
          refine (HP1.out _ (H.out.below B1.out (Nat.le_refl _))).mono ?_
          rintro _ w2 ⟨⟨v1, rfl, ho1⟩, hb2⟩
          obtain ⟨o1, c1, rfl, hi1⟩ := owns_intsAt ho1
          have I1 := hidE hi1
          have X2 := hidE (blk_below hb2 (lt_of_block X1.out) X1.out)
          have B2 := hidE (B1.out.trans (hb2.mono B1.out.size))
          clear f0 f1 hb2 hi1 ho1
          have f0 : w2.cell? ⟨w.heap.size, 0, none⟩ = some (.int .i64 N) := by rw [cell_of_row _ _ _ _ _ _ X2.out]; rfl
          have f1 : w2.cell? ⟨w.heap.size, 1, none⟩ = some (.slice a bs.length cap) := by rw [cell_of_row _ _ _ _ _ _ X2.out]; rfl
          go_wp2_with fail
          refine (HP2.out _ (H.out.below B2.out (Nat.le_refl _))).mono ?_
          rintro _ w3 ⟨⟨v2, rfl, ho2⟩, hb3⟩
          obtain ⟨o2, c2, rfl, hi2⟩ := owns_intsAt ho2
          replace I1 := hidE (I1.out.below hb3 (Nat.le_refl _))
          have I2 := hidE hi2
          have X3 := hidE (blk_below hb3 (lt_of_block X2.out) X2.out)
          have B3 := hidE (B2.out.trans (hb3.mono B2.out.size))
          clear f0 f1 hb3 hi2 ho2
          have f0 : w3.cell? ⟨w.heap.size, 0, none⟩ = some (.int .i64 N) := by rw [cell_of_row _ _ _ _ _ _ X3.out]; rfl
          have f1 : w3.cell? ⟨w.heap.size, 1, none⟩ = some (.slice a bs.length cap) := by rw [cell_of_row _ _ _ _ _ _ X3.out]; rfl
          go_wp2_with fail
          refine (HP3.out _ (H.out.below B3.out (Nat.le_refl _)) (H2.out.below B3.out (Nat.le_refl _))).mono ?_
          rintro _ w4 ⟨rfl, hb4⟩
          replace I1 := hidE (I1.out.below hb4 (Nat.le_refl _))
          replace I2 := hidE (I2.out.below hb4 (Nat.le_refl _))
          have X4 := hidE (blk_below hb4 (lt_of_block X3.out) X3.out)
          have B4 := hidE (B3.out.trans (hb4.mono B3.out.size))
          clear f0 f1 hb4
          have f0 : w4.cell? ⟨w.heap.size, 0, none⟩ = some (.int .i64 N) := by rw [cell_of_row _ _ _ _ _ _ X4.out]; rfl
          have f1 : w4.cell? ⟨w.heap.size, 1, none⟩ = some (.slice a bs.length cap) := by rw [cell_of_row _ _ _ _ _ _ X4.out]; rfl
          go_wp2_with fail
          refine (HP4.out _ (H.out.below B4.out (Nat.le_refl _)) (H2.out.below B4.out (Nat.le_refl _))).mono ?_
          rintro _ w5 ⟨rfl, hb5⟩
          replace I1 := hidE (I1.out.below hb5 (Nat.le_refl _))
          replace I2 := hidE (I2.out.below hb5 (Nat.le_refl _))
          have X5 := hidE (blk_below hb5 (lt_of_block X4.out) X4.out)
          have B5 := hidE (B4.out.trans (hb5.mono B4.out.size))
          clear f0 f1 hb5
          go_wp2_with fail
          refine (alive_any _).mono ?_
          rintro _ w6 ⟨rfl, hb6⟩
          replace I1 := hidE (I1.out.below hb6 (Nat.le_refl _))
          replace I2 := hidE (I2.out.below hb6 (Nat.le_refl _))
          have B6 := hidE (B5.out.trans (hb6.mono B5.out.size))
          have hsi := sameInts_any w6 o1 c1 L1 o2 c2 L1 I1.out I2.out (by have := HK.out; omega) (by have := HK.out; omega)
          rw [show decide (L1 = L1) = true by simp] at hsi
          have HSI := hidE hsi
          clear hsi hb6
          go_wp2_with fail
          refine HSI.out.mono ?_
          rintro _ w7 ⟨rfl, hb7⟩
          go_wp2_with fail
          go_ret
          exact ⟨rfl, B6.out.trans (hb7.mono B6.out.size)⟩
        · have d3 : decide ((l.length : Int) > 2005) = true := by simp; omega
          go_enter Try.func16, Try.ntmps16
          go_wp2_with fail
          refine (HS.out _).mono ?_
          rintro e w1 ⟨rfl, hb1⟩
          have B1 := hidE (B0.out.trans (hb1.mono B0.out.size))
          go_wp2_with fail
          refine (alive_any _).mono ?_
          rintro e w2 ⟨rfl, hb2⟩
          go_wp2_with fail
          go_ret
          exact ⟨rfl, B1.out.trans (hb2.mono B1.out.size)⟩

end Go.Proofs.Ytejbpoclfjkllaa
