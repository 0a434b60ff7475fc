/- Walk: the law LineRigid. -/
import Derived.Test.YtejbpoclfjkllaaCZm
import Derived.Test.YtejbpoclfjkllaaCZ8
import Derived.Test.YtejbpoclfjkllaaA5
namespace Go.Proofs.Ytejbpoclfjkllaa
open Go Go.RowKit Go.Shelf

theorem rigidE_len {N : Int} {bs : List Bd} (h : checkP N bs = 0 → N ≤ 128) : (rigidE N bs).1.length ≤ 1000 ∧ ∀ l ∈ (rigidE N bs).1, l.length ≤ 1000 := by
  unfold rigidE
  by_cases he : askedE N bs [] = 0
  · have := h (askedE_zero he).1
    rw [if_pos he]
    refine ⟨?_, fun l hl => ?_⟩
    · unfold rigidL
      rw [List.length_map]
      have := List.length_filter_le (leader (distN N.toNat bs)) (List.range N.toNat)
      simp at this; omega
    · unfold rigidL at hl
      simp only [List.mem_map] at hl
      obtain ⟨x, _, rfl⟩ := hl
      have := classTo_len (distN N.toNat bs) x N.toNat
      rw [classTo_end] at this
      omega
  · rw [if_neg he]; exact ⟨by simp, fun l hl => by simp at hl⟩

set_option maxRecDepth 100000 in
set_option maxHeartbeats 4000000 in
theorem lineRigid_any (w : World) (N : Int) (a : Option Addr) (cap : Nat) (bs : List Bd) (hN : i64ok N) (hl : bs.length ≤ 9223372036854775807) (h : BoundsAt w a bs) :
    Calls Try.prog 15 #[.agg #[.int .i64 N, .slice a bs.length cap]] w fun e w' => e = .returned (.bool true) ∧ Below w.heap.size w w' := by
  have b0 : Below w.heap.size w (w.alloc (.cells #[.int .i64 N, .slice a bs.length cap] 24)) := (Below.refl _ _).alloc (Nat.le_refl _) _
  obtain ⟨f, hf⟩ : ∃ f, fewP N bs.length 14 40 = f := ⟨_, rfl⟩
  have hs := fun W => someL_any W N a cap bs.length
  rw [hf] at hs
  have hfew : f = true → checkP N bs = 0 → N ≤ 14 := fun e hc => (fewP_pts (hf.trans e) rfl (by omega) hc).1
  have B0 := hidE b0
  have HN := hidE hN
  have H := hidE h
  have HS := hidE hs
  have HFW := hidE hfew
  clear b0 hN h hs hf hfew
  cases f with
  | false =>
    go_enter Try.func15, Try.ntmps15
    go_wp2_with fail
    refine (HS.out _).mono ?_
    rintro e w1 ⟨rfl, hb1⟩
    have B1 := hidE (B0.out.trans (hb1.mono B0.out.size))
    go_wp2_with fail
    refine (alive_any _).mono ?_
    rintro e w2 ⟨rfl, hb2⟩
    go_wp2_with fail
    go_ret
    exact ⟨rfl, B1.out.trans (hb2.mono B1.out.size)⟩
  | true =>
    have h40 : checkP N bs = 0 → N ≤ 40 := fun hc => by have := HFW.out rfl hc; omega
    have h128 : checkP N bs = 0 → N ≤ 128 := fun hc => by have := HFW.out rfl hc; omega
    have h1 := fun W hb => rigid_any W N a cap bs HN.out hl hb
    have h2 := fun W hb => refrigid_any W N a cap bs HN.out hl hb h40
    have k1 := rigidE_len h128
    obtain ⟨⟨L, c⟩, hd⟩ : ∃ t, rigidE N bs = t := ⟨_, rfl⟩
    rw [hd] at h1 h2 k1
    simp only at k1
    have HP1 := hidE h1
    have HP2 := hidE h2
    have HK := hidE k1
    clear h1 h2 k1 hd h40 h128
    go_enter Try.func15, Try.ntmps15
    go_wp2_with fail
    refine (HS.out _).mono ?_
    rintro _ w1 ⟨rfl, hb1⟩
    have X1 := hidE (blk_below hb1 (by simp) (heap_alloc_new w (.cells #[.int .i64 N, .slice a bs.length cap] 24)))
    have B1 := hidE (B0.out.trans (hb1.mono B0.out.size))
    clear hb1
    have f0 : w1.cell? ⟨w.heap.size, 0, none⟩ = some (.int .i64 N) := by rw [cell_of_row _ _ _ _ _ _ X1.out]; rfl
    have f1 : w1.cell? ⟨w.heap.size, 1, none⟩ = some (.slice a bs.length cap) := by rw [cell_of_row _ _ _ _ _ _ X1.out]; rfl
    go_wp2_with fail
    refine (HP1.out _ (H.out.below B1.out (Nat.le_refl _))).mono ?_
    rintro _ w2 ⟨⟨v1, rfl, ho1⟩, hb2⟩
    obtain ⟨o1, c1, rfl, hi1⟩ := ho1.lists
    have I1 := hidE hi1
    have X2 := hidE (blk_below hb2 (lt_of_block X1.out) X1.out)
    have B2 := hidE (B1.out.trans (hb2.mono B1.out.size))
    clear f0 f1 hb2 hi1 ho1
    have f0 : w2.cell? ⟨w.heap.size, 0, none⟩ = some (.int .i64 N) := by rw [cell_of_row _ _ _ _ _ _ X2.out]; rfl
    have f1 : w2.cell? ⟨w.heap.size, 1, none⟩ = some (.slice a bs.length cap) := by rw [cell_of_row _ _ _ _ _ _ X2.out]; rfl
    go_wp2_with fail
    refine (HP2.out _ (H.out.below B2.out (Nat.le_refl _))).mono ?_
    rintro _ w3 ⟨⟨v2, rfl, ho2⟩, hb3⟩
    obtain ⟨o2, c2, rfl, hi2⟩ := ho2.lists
    replace I1 := hidE (I1.out.below hb3 (Nat.le_refl _))
    have I2 := hidE hi2
    have B3 := hidE (B2.out.trans (hb3.mono B2.out.size))
    clear f0 f1 hb3 hi2 ho2
    go_wp2_with fail
    refine (alive_any _).mono ?_
    rintro _ w4 ⟨rfl, hb4⟩
    have hsl := sameLists_any w4 o1 c1 o2 c2 L (I1.out.below hb4 (Nat.le_refl _)) (I2.out.below hb4 (Nat.le_refl _)) HK.out.1 HK.out.2
    have HSL := hidE hsl
    have B4 := hidE (B3.out.trans (hb4.mono B3.out.size))
    clear hsl hb4
    go_wp2_with fail
    refine HSL.out.mono ?_
    rintro _ w5 ⟨rfl, hb5⟩
    go_wp2_with fail
    go_ret
    exact ⟨rfl, B4.out.trans (hb5.mono B4.out.size)⟩

end Go.Proofs.Ytejbpoclfjkllaa
