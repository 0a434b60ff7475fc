/- Walk: the law LineEnds. -/
import Derived.Test.YtejbpoclfjkllaaP2
import Derived.Test.YtejbpoclfjkllaaA5
import Derived.Test.YtejbpoclfjkllaaCY4
namespace Go.Proofs.Ytejbpoclfjkllaa
open Go Go.RowKit Go.Shelf

theorem fewP_len {N : Int} {n : Nat} (h : fewP N n 14 40 = true) (h1 : N ≤ 128) (h2 : n ≤ 2000) : n ≤ 40 := by
  unfold fewP at h
  simp only [Bool.or_eq_true, Bool.and_eq_true, decide_eq_true_eq] at h
  omega

theorem ends_facts {N : Int} {bs : List Bd} {x y dv : Int} (hf : fewP N bs.length 14 40 = true) (hd : distanceP N bs x y = (dv, true, 0)) (hxy : x ≠ y) (h1 : -999999 ≤ dv) (h2 : dv ≤ 999999) :
    bs.length ≤ 40 ∧ consistentE N (bs ++ [⟨y, x, -dv, 0⟩]) = (true, 0) ∧ consistentE N (bs ++ [⟨y, x, -dv - 1, 0⟩]) = (false, 0) := by
  have ha : askedE N bs [x, y] = 0 := by
    unfold distanceP at hd
    split at hd
    · assumption
    · simp at hd
  obtain ⟨hc, _, _⟩ := askedE_zero ha
  obtain ⟨n0, n1, n2, nv⟩ := checkP_zero hc
  have hlen := fewP_len hf (by omega) (by omega)
  rw [distanceP, if_pos ha] at hd
  obtain ⟨d, hdd⟩ : ∃ d, distN N.toNat bs x.toNat y.toNat = d := ⟨_, rfl⟩
  rw [hdd] at hd
  simp only [Prod.mk.injEq] at hd
  obtain ⟨e1, e2, _⟩ := hd
  have hfar : d < 1125899906842624 := by
    unfold nB at e2
    simpa using e2
  have hdv : d = dv := by
    unfold nV at e1
    split at e1
    · omega
    · exact e1
  subst hdv
  have HL := ends_law ha (by omega) hxy (by rw [hdd]; exact hfar) (by rw [hdd]; exact h1) (by rw [hdd]; exact h2)
  rw [hdd] at HL
  obtain ⟨k1, k2, k3, k4⟩ := HL
  refine ⟨hlen, ?_, ?_⟩
  · unfold consistentE
    rw [if_pos k1]
    unfold keptP at k3
    rw [k3]
  · unfold consistentE
    rw [if_pos k2]
    unfold keptP at k4
    rw [k4]

set_option maxRecDepth 100000 in
set_option maxHeartbeats 4000000 in
theorem lineEnds_any (w : World) (N : Int) (a : Option Addr) (cap : Nat) (bs : List Bd) (x y : Int) (hN : i64ok N) (hl : bs.length ≤ 9223372036854775807) (h : BoundsAt w a bs) :
    Calls Try.prog 6 #[.agg #[.int .i64 N, .slice a bs.length cap], .int .i64 x, .int .i64 y] w fun e w' => e = .returned (.bool true) ∧ Below w.heap.size w w' := by
  have b0 : Below w.heap.size w (w.alloc (.cells #[.int .i64 N, .slice a bs.length cap] 24)) := (Below.refl _ _).alloc (Nat.le_refl _) _
  obtain ⟨f, hf⟩ : ∃ f, fewP N bs.length 14 40 = f := ⟨_, rfl⟩
  have hs := fun W => someL_any W N a cap bs.length
  rw [hf] at hs
  have B0 := hidE b0
  have HN := hidE hN
  have H := hidE h
  have HS := hidE hs
  have HF := hidE hf
  clear b0 hN h hs hf
  cases f with
  | false =>
    go_enter Try.func6, Try.ntmps6
    go_wp2_with fail
    refine (HS.out _).mono ?_
    rintro e w1 ⟨rfl, hb1⟩
    have B1 := hidE (B0.out.trans (hb1.mono B0.out.size))
    go_wp2_with fail
    refine (alive_any _).mono ?_
    rintro e w2 ⟨rfl, hb2⟩
    go_wp2_with fail
    go_ret
    exact ⟨rfl, B1.out.trans (hb2.mono B1.out.size)⟩
  | true =>
    obtain ⟨dv, hdv⟩ : ∃ t, (distanceP N bs x y).1 = t := ⟨_, rfl⟩
    obtain ⟨db, hdb⟩ : ∃ t, (distanceP N bs x y).2.1 = t := ⟨_, rfl⟩
    obtain ⟨de, hde⟩ : ∃ t, (distanceP N bs x y).2.2 = t := ⟨_, rfl⟩
    have hdi := fun W hb => distance_any W N a cap bs x y HN.out hl hb
    rw [hdv, hdb, hde] at hdi
    have hd : distanceP N bs x y = (dv, db, de) := by rw [← hdv, ← hdb, ← hde]
    have HDI := hidE hdi
    have HD := hidE hd
    clear hdi hdv hdb hde hd
    go_enter Try.func6, Try.ntmps6
    go_wp2_with fail
    refine (HS.out _).mono ?_
    rintro e w1 ⟨rfl, hb1⟩
    have x1 := blk_below hb1 (by simp) (heap_alloc_new w (.cells #[.int .i64 N, .slice a bs.length cap] 24))
    have e0 : w1.cell? ⟨w.heap.size, 0, none⟩ = some (.int .i64 N) := by rw [cell_of_row _ _ _ _ _ _ x1]; rfl
    have e1 : w1.cell? ⟨w.heap.size, 1, none⟩ = some (.slice a bs.length cap) := by rw [cell_of_row _ _ _ _ _ _ x1]; rfl
    have B1 := hidE (B0.out.trans (hb1.mono B0.out.size))
    have X1 := hidE x1
    clear x1 hb1
    go_wp2_with fail
    refine (HDI.out _ (H.out.below B1.out (Nat.le_refl _))).mono ?_
    rintro e w2 ⟨rfl, hb2⟩
    have x2 := blk_below hb2 (lt_of_block X1.out) X1.out
    have f0 : w2.cell? ⟨w.heap.size, 0, none⟩ = some (.int .i64 N) := by rw [cell_of_row _ _ _ _ _ _ x2]; rfl
    have f1 : w2.cell? ⟨w.heap.size, 1, none⟩ = some (.slice a bs.length cap) := by rw [cell_of_row _ _ _ _ _ _ x2]; rfl
    have B2 := hidE (B1.out.trans (hb2.mono B1.out.size))
    have X2 := hidE x2
    clear e0 e1 hb2 x2
    by_cases hgood : de = 0 ∧ db = true ∧ x ≠ y ∧ -999999 ≤ dv ∧ dv ≤ 999999
    · obtain ⟨rfl, rfl, hxy, h1, h2⟩ := hgood
      obtain ⟨hlen, hc1, hc2⟩ := ends_facts HF.out HD.out hxy h1 h2
      have q3 : (x == y) = false := by simpa using hxy
      have q4 : decide (dv < -999999) = false := by simp; omega
      have q5 : decide (dv > 999999) = false := by simp; omega
      have v1 : IntKind.i64.wrap (-dv) = -dv := IntWalk.i64_in _ (by omega)
      have v2 : IntKind.i64.wrap (-dv - 1) = -dv - 1 := IntWalk.i64_in _ (by omega)
      have hw1 : ∀ W, BoundsAt W a bs → Calls Try.prog 39 #[.agg #[.int .i64 N, .slice a bs.length cap], .agg #[.int .i64 y, .int .i64 x, .int .i64 (-dv), .int .i64 0]] W fun e w' => ∃ v, e = .returned (.agg #[.int .i64 N, v]) ∧ BoundsOut (bs ++ [⟨y, x, -dv, 0⟩]) W.heap.size v w' ∧ Below W.heap.size W w' :=
        fun W hb => with_any W N a cap bs ⟨y, x, -dv, 0⟩ (by omega) hb
      have hw2 : ∀ W, BoundsAt W a bs → Calls Try.prog 39 #[.agg #[.int .i64 N, .slice a bs.length cap], .agg #[.int .i64 y, .int .i64 x, .int .i64 (-dv - 1), .int .i64 0]] W fun e w' => ∃ v, e = .returned (.agg #[.int .i64 N, v]) ∧ BoundsOut (bs ++ [⟨y, x, -dv - 1, 0⟩]) W.heap.size v w' ∧ Below W.heap.size W w' :=
        fun W hb => with_any W N a cap bs ⟨y, x, -dv - 1, 0⟩ (by omega) hb
      obtain ⟨L1, hL1⟩ : ∃ L, bs ++ [⟨y, x, -dv, 0⟩] = L := ⟨_, rfl⟩
      obtain ⟨L2, hL2⟩ : ∃ L, bs ++ [⟨y, x, -dv - 1, 0⟩] = L := ⟨_, rfl⟩
      have n1 : L1.length ≤ 9223372036854775807 := by rw [← hL1]; simp; omega
      have n2 : L2.length ≤ 9223372036854775807 := by rw [← hL2]; simp; omega
      rw [hL1] at hw1 hc1
      rw [hL2] at hw2 hc2
      have HW1 := hidE hw1
      have HW2 := hidE hw2
      have HC1 := hidE hc1
      have HC2 := hidE hc2
      have N1 := hidE n1
      have N2 := hidE n2
      clear hw1 hw2 hc1 hc2 n1 n2 hL1 hL2 hxy h1 h2 hlen
      go_wp2_with fail
      refine (HW1.out _ (H.out.below B2.out (Nat.le_refl _))).mono ?_
      rintro e w3 ⟨v, rfl, ho, hb3⟩
      obtain ⟨o1, k1, rfl, hbs1, _⟩ := boundsAt_of_out ho
      have x3 := blk_below hb3 (lt_of_block X2.out) X2.out
      have hcs : Calls Try.prog 38 #[.agg #[.int .i64 N, .slice o1 L1.length k1]] w3 fun e w' => e = .returned (.tuple #[.bool true, .int .i64 0]) ∧ Below w3.heap.size w3 w' := by
        have q := consistent_any w3 N o1 k1 L1 HN.out N1.out hbs1
        rw [HC1.out] at q
        exact q
      have B3 := hidE (B2.out.trans (hb3.mono B2.out.size))
      have X3 := hidE x3
      have HCS := hidE hcs
      clear f0 f1 hb3 x3 ho hbs1 hcs
      go_wp2_with fail
      refine HCS.out.mono ?_
      rintro e w4 ⟨rfl, hb4⟩
      have x4 := blk_below hb4 (lt_of_block X3.out) X3.out
      have e0 : w4.cell? ⟨w.heap.size, 0, none⟩ = some (.int .i64 N) := by rw [cell_of_row _ _ _ _ _ _ x4]; rfl
      have e1 : w4.cell? ⟨w.heap.size, 1, none⟩ = some (.slice a bs.length cap) := by rw [cell_of_row _ _ _ _ _ _ x4]; rfl
      have B4 := hidE (B3.out.trans (hb4.mono B3.out.size))
      clear hb4 x4
      go_wp2_with fail
      refine (HW2.out _ (H.out.below B4.out (Nat.le_refl _))).mono ?_
      rintro e w5 ⟨v, rfl, ho, hb5⟩
      obtain ⟨o2, k2, rfl, hbs2, _⟩ := boundsAt_of_out ho
      have hcs : Calls Try.prog 38 #[.agg #[.int .i64 N, .slice o2 L2.length k2]] w5 fun e w' => e = .returned (.tuple #[.bool false, .int .i64 0]) ∧ Below w5.heap.size w5 w' := by
        have q := consistent_any w5 N o2 k2 L2 HN.out N2.out hbs2
        rw [HC2.out] at q
        exact q
      have B5 := hidE (B4.out.trans (hb5.mono B4.out.size))
      have HCS2 := hidE hcs
      clear e0 e1 hb5 ho hbs2 hcs
      go_wp2_with fail
      refine HCS2.out.mono ?_
      rintro e w6 ⟨rfl, hb6⟩
      have B6 := hidE (B5.out.trans (hb6.mono B5.out.size))
      clear hb6
      go_wp2_with fail
      refine (alive_any _).mono ?_
      rintro e w7 ⟨rfl, hb7⟩
      go_wp2_with fail
      go_ret
      exact ⟨rfl, B6.out.trans (hb7.mono B6.out.size)⟩
    · have hbad : (de != 0) = true ∨ ((de != 0) = false ∧ db = false) ∨ ((de != 0) = false ∧ db = true ∧ (x == y) = true) ∨ ((de != 0) = false ∧ db = true ∧ (x == y) = false ∧ decide (dv < -999999) = true) ∨ ((de != 0) = false ∧ db = true ∧ (x == y) = false ∧ decide (dv < -999999) = false ∧ decide (dv > 999999) = true) := by
        by_cases p1 : de = 0
        · have q1 : (de != 0) = false := by simpa using p1
          cases db with
          | false => exact .inr (.inl ⟨q1, rfl⟩)
          | true =>
            by_cases p3 : x = y
            · exact .inr (.inr (.inl ⟨q1, rfl, by simpa using p3⟩))
            · have q3 : (x == y) = false := by simpa using p3
              by_cases p4 : dv < -999999
              · exact .inr (.inr (.inr (.inl ⟨q1, rfl, q3, by simpa using p4⟩)))
              · by_cases p5 : dv > 999999
                · exact .inr (.inr (.inr (.inr ⟨q1, rfl, q3, by simpa using p4, by simpa using p5⟩)))
                · exact absurd ⟨p1, rfl, p3, by omega, by omega⟩ hgood
        · exact .inl (by simpa using p1)
      clear hgood
      rcases hbad with q1 | ⟨q1, rfl⟩ | ⟨q1, rfl, q3⟩ | ⟨q1, rfl, q3, q4⟩ | ⟨q1, rfl, q3, q4, q5⟩
      all_goals
        go_wp2_with fail
        refine (alive_any _).mono ?_
        rintro e w3 ⟨rfl, hb3⟩
        go_wp2_with fail
        go_ret
        exact ⟨rfl, B2.out.trans (hb3.mono B2.out.size)⟩

end Go.Proofs.Ytejbpoclfjkllaa
