/- Walk: the law LineNeeded. -/
import Derived.Test.YtejbpoclfjkllaaCPlX
import Derived.Test.YtejbpoclfjkllaaA5
import Derived.Test.YtejbpoclfjkllaaCFb
import Derived.Deep.RegionHeld3
namespace Go.Proofs.Ytejbpoclfjkllaa
open Go Go.RowKit Go.Shelf

set_option maxRecDepth 100000 in
set_option maxHeartbeats 8000000 in
theorem lineNeeded_any (w : World) (N : Int) (a : Option Addr) (cap : Nat) (bs : List Bd) (n : Int) (hN : i64ok N) (hl : bs.length ≤ 9223372036854775807) (h : BoundsAt w a bs) (hn : 0 ≤ n ∧ n ≤ 255) :
    Calls Try.prog 8 #[.agg #[.int .i64 N, .slice a bs.length cap], .int .u8 n] w fun e w' => e = .returned (.bool true) ∧ Below w.heap.size w w' := by
  have b0 : Below w.heap.size w (w.alloc (.cells #[.int .i64 N, .slice a bs.length cap] 24)) := (Below.refl _ _).alloc (Nat.le_refl _) _
  obtain ⟨f, hf⟩ : ∃ f, fewP N bs.length 8 14 = f := ⟨_, rfl⟩
  have hs := fun W => fewL_any W N a cap bs.length
  rw [hf] at hs
  have B0 := hidE b0
  have HN := hidE hN
  have H := hidE h
  have HS := hidE hs
  clear b0 hN h hs hf
  cases f with
  | false =>
    go_enter Try.func8, Try.ntmps8
    go_wp2_with fail
    refine (HS.out _).mono ?_
    rintro e w1 ⟨rfl, hb1⟩
    have B1 := hidE (B0.out.trans (hb1.mono B0.out.size))
    go_wp2_with fail
    refine (alive_any _).mono ?_
    rintro e w2 ⟨rfl, hb2⟩
    go_wp2_with fail
    go_ret
    exact ⟨rfl, B1.out.trans (hb2.mono B1.out.size)⟩
  | true =>
    have q1 := fun W hb => needless_any W N a cap bs HN.out hl hb
    obtain ⟨⟨M, e⟩, hM⟩ : ∃ t, needlessE N bs = t := ⟨_, rfl⟩
    have hlaw := needed_law hM rfl
    rw [hM] at q1
    simp only at q1
    have Q1 := hidE q1
    have HL := hidE hlaw
    clear q1 hlaw hM
    go_enter Try.func8, Try.ntmps8
    go_wp2_with fail
    refine (HS.out _).mono ?_
    rintro _ w1 ⟨rfl, hb1⟩
    have x1 := blk_below hb1 (by simp) (heap_alloc_new w (.cells #[.int .i64 N, .slice a bs.length cap] 24))
    have e0 : w1.cell? ⟨w.heap.size, 0, none⟩ = some (.int .i64 N) := by rw [cell_of_row _ _ _ _ _ _ x1]; rfl
    have e1 : w1.cell? ⟨w.heap.size, 1, none⟩ = some (.slice a bs.length cap) := by rw [cell_of_row _ _ _ _ _ _ x1]; rfl
    have X1 := hidE x1
    have B1 := hidE (B0.out.trans (hb1.mono B0.out.size))
    clear x1 hb1
    go_wp2_with fail
    refine (Q1.out _ (H.out.below B1.out (Nat.le_refl _))).mono ?_
    rintro _ w2 ⟨⟨v2, rfl, ho2⟩, hb2⟩
    obtain ⟨o5, c5, rfl, hi5⟩ := owns_intsAt ho2
    have X2 := hidE (blk_below hb2 (lt_of_block X1.out) X1.out)
    have B2 := hidE (B1.out.trans (hb2.mono B1.out.size))
    have I2 := hidE hi5
    clear e0 e1 hb2 ho2 hi5
    rcases HL.out with ⟨g1, g2⟩ | ⟨g1, R, g2, g3, g4, g5, g6, g7, g8, g9⟩
    · subst g2
      have hb : (e != 0) = true := by simpa using g1
      clear g1
      go_wp2_with fail
      refine (alive_any _).mono ?_
      rintro _ w3 ⟨rfl, hb3⟩
      go_wp2_with fail
      go_ret
      exact ⟨rfl, B2.out.trans (hb3.mono B2.out.size)⟩
    · subst g1
      subst g2
      obtain ⟨T, hT⟩ : ∃ T, takenP bs M = T := ⟨_, rfl⟩
      rw [hT] at g6 g7 g8 g9
      have htk := fun W hb hb2 => taken_any W R a cap bs o5 c5 M (by omega) hb (by omega) hb2
      rw [hT] at htk
      have TK := hidE htk
      have G7 := hidE g7
      have G8 := hidE g8
      have G9 := hidE g9
      have hTl : T.length ≤ 2000 := by omega
      have hsub : IntKind.i64.wrap ((bs.length : Int) - (M.length : Int)) = (T.length : Int) := by rw [IntWalk.i64_in _ (by omega)]; omega
      have HRi : Hid (i64ok (R : Int)) := hidE (by unfold i64ok; omega)
      clear htk g5 g6 g7 g8 g9 hT HL Q1
      have e0 : w2.cell? ⟨w.heap.size, 0, none⟩ = some (.int .i64 (R : Int)) := by rw [cell_of_row _ _ _ _ _ _ X2.out]; rfl
      have e1 : w2.cell? ⟨w.heap.size, 1, none⟩ = some (.slice a bs.length cap) := by rw [cell_of_row _ _ _ _ _ _ X2.out]; rfl
      go_wp2_with fail
      refine (TK.out _ (H.out.below B2.out (Nat.le_refl _)) I2.out).mono ?_
      rintro _ V3 ⟨v3, rfl, ho3, hb3⟩
      obtain ⟨o7, c7, rfl, hi7, _⟩ := boundsAt_of_out ho3
      go_upto_region 7 with fail
      obtain ⟨w3, hW3⟩ : ∃ X, X = V3.alloc (.cells #[.int .i64 (R : Int), .slice o7 T.length c7] 24) := ⟨_, rfl⟩
      rw [← hW3]
      have hbb : Below w2.heap.size w2 w3 := by rw [hW3]; exact hb3.alloc hb3.size _
      have X3 := hidE (blk_below hbb (lt_of_block X2.out) X2.out)
      have T3 := hidE (show w3.heap[V3.heap.size]? = some (.cells #[.int .i64 (R : Int), .slice o7 T.length c7] 24 (0,0)) by rw [hW3]; exact heap_alloc_new _ _)
      have B3 := hidE (B2.out.trans (hbb.mono B2.out.size))
      have J3 := hidE (show BoundsAt w3 o7 T by rw [hW3]; exact hi7.alloc _)
      have hal := alike_any w3 R a cap bs R o7 c7 T rfl HRi.out hl (by omega) (H.out.below B3.out (Nat.le_refl _)) J3.out G7.out g3
      rw [G8.out] at hal
      have HAL := hidE hal
      clear e0 e1 hb3 ho3 hi7 hW3 hbb hal
      have e0 : w3.cell? ⟨w.heap.size, 0, none⟩ = some (.int .i64 (R : Int)) := by rw [cell_of_row _ _ _ _ _ _ X3.out]; rfl
      have e1 : w3.cell? ⟨w.heap.size, 1, none⟩ = some (.slice a bs.length cap) := by rw [cell_of_row _ _ _ _ _ _ X3.out]; rfl
      have f0 : w3.cell? ⟨V3.heap.size, 0, none⟩ = some (.int .i64 (R : Int)) := by rw [cell_of_row _ _ _ _ _ _ T3.out]; rfl
      have f1 : w3.cell? ⟨V3.heap.size, 1, none⟩ = some (.slice o7 T.length c7) := by rw [cell_of_row _ _ _ _ _ _ T3.out]; rfl
      go_wp2_with fail
      refine HAL.out.mono ?_
      rintro _ w4 ⟨rfl, hb4⟩
      have T4 := hidE (blk_below hb4 (lt_of_block T3.out) T3.out)
      have B4 := hidE (B3.out.trans (hb4.mono B3.out.size))
      have J4 := hidE (J3.out.below hb4 (Nat.le_refl _))
      clear e0 e1 f0 f1 hb4
      have f0 : w4.cell? ⟨V3.heap.size, 0, none⟩ = some (.int .i64 (R : Int)) := by rw [cell_of_row _ _ _ _ _ _ T4.out]; rfl
      have f1 : w4.cell? ⟨V3.heap.size, 1, none⟩ = some (.slice o7 T.length c7) := by rw [cell_of_row _ _ _ _ _ _ T4.out]; rfl
      have lV : V3.heap.size < w4.heap.size := lt_of_block T4.out
      by_cases hz : T.length = 0
      · have hzb : ((T.length : Int) == 0) = true := beq_iff_eq.2 (by omega)
        clear hsub
        go_wp2_with fail
        refine (alive_any _).mono ?_
        rintro _ w5 ⟨rfl, hb5⟩
        go_wp2_with fail
        go_ret
        exact ⟨rfl, B4.out.trans (hb5.mono B4.out.size)⟩
      · have hzb : ((T.length : Int) == 0) = false := beq_eq_false_iff_ne.2 (by omega)
        have hzn : ¬ ((T.length : Int) = 0) := by omega
        obtain ⟨m, rfl⟩ := Int.eq_ofNat_of_zero_le hn.1
        obtain ⟨j, hj⟩ : ∃ j, m % T.length = j := ⟨_, rfl⟩
        have hjl : j < T.length := by rw [← hj]; exact Nat.mod_lt _ (by omega)
        obtain ⟨k1, k2, k3⟩ := G9.out j hjl
        have hw1 : IntKind.i64.wrap (m : Int) = (m : Int) := IntWalk.i64_in _ (by omega)
        have hw2 : IntKind.i64.wrap (j : Int) = (j : Int) := IntWalk.i64_in _ (by omega)
        have hrem : Int.tmod (m : Int) (T.length : Int) = (j : Int) := by rw [← hj]; exact (Int.ofNat_tmod m T.length).symm
        obtain ⟨U, hU⟩ : ∃ U, takenP T [(j : Int)] = U := ⟨_, rfl⟩
        rw [hU] at k1 k2 k3
        have K1 := hidE k1
        have K3 := hidE k3
        have hUl : U.length ≤ 2000 := by omega
        have HU := hidE hU
        have HJ := hidE hj
        clear hsub k1 k2 k3 hU hj
        go_wp2_with fail
        go_region_held3 (fun V => V.cell? ⟨V3.heap.size, 0, none⟩ = some (.int .i64 (R : Int)) ∧ V.cell? ⟨V3.heap.size, 1, none⟩ = some (.slice o7 T.length c7))
          (first
            | (exact ⟨u0, u1⟩)
            | (exact ⟨t0, t1⟩)
            | (exact ⟨((Below.refl wa.heap.size wa).alloc (Nat.le_refl _) _ |>.cell (p := ⟨V3.heap.size, 0, none⟩) la).trans s0, ((Below.refl wa.heap.size wa).alloc (Nat.le_refl _) _ |>.cell (p := ⟨V3.heap.size, 1, none⟩) la).trans s1⟩)
            | (exact ⟨s0, s1⟩)
            | (exact ⟨f0, f1⟩)
            | go_keep)
          (first
            | (go_at_call 26; refine (alive_any _).mono ?_; rintro e wa ⟨rfl, hba⟩; (have hba' : Below w4.heap.size w4 wa := below_of_drew hba); (have s0 : wa.cell? ⟨V3.heap.size, 0, none⟩ = some (.int .i64 (R : Int)) := (hba'.cell (p := ⟨V3.heap.size, 0, none⟩) lV).trans f0); (have s1 : wa.cell? ⟨V3.heap.size, 1, none⟩ = some (.slice o7 T.length c7) := (hba'.cell (p := ⟨V3.heap.size, 1, none⟩) lV).trans f1); (have la : V3.heap.size < wa.heap.size := Nat.lt_of_lt_of_le lV hba'.size); (have BA := hidE (B4.out.trans (hba'.mono B4.out.size))); (have JA := hidE (J4.out.below hba' (Nat.le_refl _))); clear hba hba')
            | (go_at_call 44; refine (taken_any _ R o7 c7 T (some ⟨wa.heap.size, 0, none⟩) 1 [(j : Int)] (by omega) (JA.out.alloc _) (by simp) (ints_one wa (j : Int))).mono ?_; rintro e wb ⟨vb, rfl, hob, hbb⟩; (rw [HU.out] at hob); (obtain ⟨o8, c8, rfl, hi8, _⟩ := boundsAt_of_out hob); (have hbb' : Below wa.heap.size wa wb := ((Below.refl wa.heap.size wa).alloc (Nat.le_refl _) (.cells #[.int .i64 (j : Int)] 3)).trans (hbb.mono (by simp))); (have t0 : wb.cell? ⟨V3.heap.size, 0, none⟩ = some (.int .i64 (R : Int)) := (hbb'.cell (p := ⟨V3.heap.size, 0, none⟩) la).trans s0); (have t1 : wb.cell? ⟨V3.heap.size, 1, none⟩ = some (.slice o7 T.length c7) := (hbb'.cell (p := ⟨V3.heap.size, 1, none⟩) la).trans s1); (have lb : V3.heap.size < wb.heap.size := Nat.lt_of_lt_of_le la hbb'.size); (have BB := hidE (BA.out.trans (hbb'.mono BA.out.size))); (have JB := hidE (JA.out.below hbb' (Nat.le_refl _))); (have I8 := hidE hi8); clear hob hbb hbb' hi8)
            | (go_at_call 45; refine (alike_any _ R o7 c7 T R o8 c8 U rfl HRi.out (by omega) (by omega) JB.out I8.out K1.out g3).mono ?_; rintro e wc ⟨rfl, hbc⟩; (rw [K3.out]); (have u0 : wc.cell? ⟨V3.heap.size, 0, none⟩ = some (.int .i64 (R : Int)) := (hbc.cell (p := ⟨V3.heap.size, 0, none⟩) lb).trans t0); (have u1 : wc.cell? ⟨V3.heap.size, 1, none⟩ = some (.slice o7 T.length c7) := (hbc.cell (p := ⟨V3.heap.size, 1, none⟩) lb).trans t1); (have BC := hidE (BB.out.trans (hbc.mono BB.out.size))); clear hbc))
        all_goals (go_wp2_with fail; go_ret)
        all_goals exact ⟨rfl, BC.out⟩

end Go.Proofs.Ytejbpoclfjkllaa
