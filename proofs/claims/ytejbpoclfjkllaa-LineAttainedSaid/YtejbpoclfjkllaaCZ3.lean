/- Walk: the law LineAttained. No conditions beyond those stated. -/
import Derived.Test.YtejbpoclfjkllaaCPlU
import Derived.Test.YtejbpoclfjkllaaCY2
import Derived.Test.YtejbpoclfjkllaaA5
namespace Go.Proofs.Ytejbpoclfjkllaa
open Go Go.RowKit Go.Shelf

set_option maxRecDepth 100000 in
set_option maxHeartbeats 8000000 in
theorem lineAttained_any (w : World) (N : Int) (a : Option Addr) (cap : Nat) (bs : List Bd) (p v : Int) (hN : i64ok N) (hl : bs.length ≤ 9223372036854775807) (h : BoundsAt w a bs) :
    Calls Try.prog 10 #[.agg #[.int .i64 N, .slice a bs.length cap], .int .i64 p, .int .i64 v] w fun e w' => e = .returned (.bool true) ∧ Below w.heap.size w w' := by
  have b0 : Below w.heap.size w (w.alloc (.cells #[.int .i64 N, .slice a bs.length cap] 24)) := (Below.refl _ _).alloc (Nat.le_refl _) _
  obtain ⟨f, hf⟩ : ∃ f, fewP N bs.length 14 40 = f := ⟨_, rfl⟩
  have hs := fun W => someL_any W N a cap bs.length
  rw [hf] at hs
  have B0 := hidE b0
  have HN := hidE hN
  have H := hidE h
  have HS := hidE hs
  have HF := hidE hf
  clear b0 hN h hs hf
  cases f with
  | false =>
    go_enter Try.func10, Try.ntmps10
    go_wp2_with fail
    refine (HS.out _).mono ?_
    rintro e w1 ⟨rfl, hb1⟩
    have B1 := hidE (B0.out.trans (hb1.mono B0.out.size))
    go_wp2_with fail
    refine (alive_any _).mono ?_
    rintro e w2 ⟨rfl, hb2⟩
    go_wp2_with fail
    go_ret
    exact ⟨rfl, B1.out.trans (hb2.mono B1.out.size)⟩
  | true =>
    go_enter Try.func10, Try.ntmps10
    go_wp2_with fail
    refine (HS.out _).mono ?_
    rintro e w1 ⟨rfl, hb1⟩
    have x1 := blk_below hb1 (by simp) (heap_alloc_new w (.cells #[.int .i64 N, .slice a bs.length cap] 24))
    have B1 := hidE (B0.out.trans (hb1.mono B0.out.size))
    have X1 := hidE x1
    clear x1 hb1
    by_cases p1 : v < -1000000
    · have q1 : decide (v < -1000000) = true := by simpa using p1
      clear p1
      go_wp2_with fail
      refine (alive_any _).mono ?_
      rintro e w2 ⟨rfl, hb2⟩
      go_wp2_with fail
      go_ret
      exact ⟨rfl, B1.out.trans (hb2.mono B1.out.size)⟩
    have q1 : decide (v < -1000000) = false := by simpa using p1
    by_cases p2 : v > 1000000
    · have q2 : decide (v > 1000000) = true := by simpa using p2
      clear p1 p2
      go_wp2_with fail
      refine (alive_any _).mono ?_
      rintro e w2 ⟨rfl, hb2⟩
      go_wp2_with fail
      go_ret
      exact ⟨rfl, B1.out.trans (hb2.mono B1.out.size)⟩
    have q2 : decide (v > 1000000) = false := by simpa using p2
    have hnone := fun hB => attained_none (N := N) (bs := bs) (p := p) (v := v) (by omega) (by omega) hB
    have hlaw := fun ha => attained_law (N := N) (bs := bs) (p := p) (v := v) HF.out (by omega) (by omega) ha
    have hra := fun W hb => range_any W N a cap bs p HN.out hl hb
    have hth := fun W hb => through_any W N a cap bs p v HN.out hl hb
    obtain ⟨⟨lo, hi, lb, hb⟩, hrg⟩ : ∃ t, (betweenP N bs 0 p).1 = t := ⟨_, rfl⟩
    obtain ⟨be, hbe⟩ : ∃ t, (betweenP N bs 0 p).2 = t := ⟨_, rfl⟩
    obtain ⟨l, hl1⟩ : ∃ t, (throughE N bs p v).1 = t := ⟨_, rfl⟩
    obtain ⟨ok, hok⟩ : ∃ t, (throughE N bs p v).2.1 = t := ⟨_, rfl⟩
    obtain ⟨er, her⟩ : ∃ t, (throughE N bs p v).2.2 = t := ⟨_, rfl⟩
    rw [hrg, hbe] at hra
    rw [hl1, hok, her] at hth
    rw [hbe, hok, hl1] at hnone
    rw [hrg, hbe, hl1, hok, her] at hlaw
    simp only at hlaw
    simp only [Sp.arr] at hra
    have HRA := hidE hra
    have HTH := hidE hth
    have HNO := hidE hnone
    have HLA := hidE hlaw
    have e0 : w1.cell? ⟨w.heap.size, 0, none⟩ = some (.int .i64 N) := by rw [cell_of_row _ _ _ _ _ _ X1.out]; rfl
    have e1 : w1.cell? ⟨w.heap.size, 1, none⟩ = some (.slice a bs.length cap) := by rw [cell_of_row _ _ _ _ _ _ X1.out]; rfl
    clear p1 p2 hnone hlaw hra hth hrg hbe hl1 hok her
    go_wp2_with fail
    refine (HRA.out _ (H.out.below B1.out (Nat.le_refl _))).mono ?_
    rintro e w2 ⟨rfl, hb2⟩
    have x2 := blk_below hb2 (lt_of_block X1.out) X1.out
    have B2 := hidE (B1.out.trans (hb2.mono B1.out.size))
    have X2 := hidE x2
    clear e0 e1 hb2 x2
    go_upto_region 4 with fail
    obtain ⟨W3, hW3⟩ : ∃ W3, W3 = w2.alloc (.cells #[.int .i64 lo, .int .i64 hi, .bool lb, .bool hb] 33) := ⟨_, rfl⟩
    rw [← hW3]
    have hb3 : Below w2.heap.size w2 W3 := by rw [hW3]; exact (Below.refl _ _).alloc (Nat.le_refl _) _
    have z5 : W3.heap[w2.heap.size]? = some (.cells #[.int .i64 lo, .int .i64 hi, .bool lb, .bool hb] 33 (0,0)) := by rw [hW3]; exact heap_alloc_new _ _
    have z0 := blk_below hb3 (lt_of_block X2.out) X2.out
    have e0 : W3.cell? ⟨w.heap.size, 0, none⟩ = some (.int .i64 N) := by rw [cell_of_row _ _ _ _ _ _ z0]; rfl
    have e1 : W3.cell? ⟨w.heap.size, 1, none⟩ = some (.slice a bs.length cap) := by rw [cell_of_row _ _ _ _ _ _ z0]; rfl
    have B3 := hidE (B2.out.trans (hb3.mono B2.out.size))
    have Z0 := hidE z0
    have Z5 := hidE z5
    clear hW3 hb3 z0 z5
    go_wp2_with fail
    refine (HTH.out _ (H.out.below B3.out (Nat.le_refl _))).mono ?_
    rintro e w4 ⟨⟨vv, rfl, ho⟩, hb4⟩
    obtain ⟨o, k, rfl, hil, _⟩ := intsAt_of_owns ho
    have x4 := blk_below hb4 (lt_of_block Z0.out) Z0.out
    have y4 := blk_below hb4 (lt_of_block Z5.out) Z5.out
    have f0 : w4.cell? ⟨w.heap.size, 0, none⟩ = some (.int .i64 N) := by rw [cell_of_row _ _ _ _ _ _ x4]; rfl
    have f1 : w4.cell? ⟨w.heap.size, 1, none⟩ = some (.slice a bs.length cap) := by rw [cell_of_row _ _ _ _ _ _ x4]; rfl
    have g0 : w4.cell? ⟨w2.heap.size, 0, none⟩ = some (.int .i64 lo) := by rw [cell_of_row _ _ _ _ _ _ y4]; rfl
    have g1 : w4.cell? ⟨w2.heap.size, 1, none⟩ = some (.int .i64 hi) := by rw [cell_of_row _ _ _ _ _ _ y4]; rfl
    have g2 : w4.cell? ⟨w2.heap.size, 2, none⟩ = some (.bool lb) := by rw [cell_of_row _ _ _ _ _ _ y4]; rfl
    have g3 : w4.cell? ⟨w2.heap.size, 3, none⟩ = some (.bool hb) := by rw [cell_of_row _ _ _ _ _ _ y4]; rfl
    have B4 := hidE (B3.out.trans (hb4.mono B3.out.size))
    have HI := hidE hil
    clear e0 e1 ho hil hb4 x4 y4
    by_cases hbe : be = 0
    · subst hbe
      obtain ⟨rfl, hlk, hlf, hlt⟩ := HLA.out rfl
      obtain ⟨c1, h1⟩ : ∃ c, decide (v ≥ lo) = c := ⟨_, rfl⟩
      obtain ⟨c2, h2⟩ : ∃ c, decide (v ≤ hi) = c := ⟨_, rfl⟩
      rw [h1, h2] at hlk
      cases ok with
      | false =>
        obtain rfl := hlf rfl
        clear hlf hlt
        cases lb <;> cases hb <;> cases c1 <;> cases c2 <;> first
          | exact absurd hlk (by decide)
          | (clear hlk
             go_wp2_with fail
             refine (alive_any _).mono ?_
             rintro e w5 ⟨rfl, hb5⟩
             go_wp2_with fail
             go_ret
             exact ⟨rfl, B4.out.trans (hb5.mono B4.out.size)⟩)
      | true =>
        obtain ⟨hkE, y, rfl, hy, hv, hlen⟩ := hlt rfl
        have hx : l[y] = v := by rw [← hv, List.getD_eq_getElem?_getD, List.getElem?_eq_getElem hy]; rfl
        have hkk := fun W hb hb2 => kept_any W N a cap bs o k l HN.out hl (by omega) hb hb2
        rw [hkE] at hkk
        simp only at hkk
        have HK := hidE hkk
        have HX := hidE hx
        clear hlf hlt hkE hv hkk hx hlen
        cases lb <;> cases hb <;> cases c1 <;> cases c2 <;> first
          | exact absurd hlk (by decide)
          | (clear hlk
             go_wp2_with fail
             refine (HK.out _ (H.out.below B4.out (Nat.le_refl _)) HI.out).mono ?_
             rintro e w5 ⟨rfl, hb5⟩
             obtain ⟨b, off, rfl, hbl, hck⟩ := (HI.out.below hb5 (Nat.le_refl _)).at hy
             rw [HX.out] at hck
             have B5 := hidE (B4.out.trans (hb5.mono B4.out.size))
             have HCK := hidE hck
             clear hb5 hck
             go_wp2_with fail
             refine (alive_any _).mono ?_
             rintro e w6 ⟨rfl, hb6⟩
             have hck6 : w6.cell? ⟨b, off + y, none⟩ = some (.int .i64 v) := (hb6.cell (p := ⟨b, off + y, none⟩) hbl).trans HCK.out
             have B6 := hidE (B5.out.trans (hb6.mono B5.out.size))
             clear hb6
             go_wp2_with fail
             go_ret
             exact ⟨rfl, B6.out⟩)
    · have q3 : (be != 0) = true := by simpa using hbe
      obtain ⟨rfl, rfl⟩ := HNO.out hbe
      clear hbe
      go_wp2_with fail
      refine (alive_any _).mono ?_
      rintro e w5 ⟨rfl, hb5⟩
      go_wp2_with fail
      go_ret
      exact ⟨rfl, B4.out.trans (hb5.mono B4.out.size)⟩

end Go.Proofs.Ytejbpoclfjkllaa
