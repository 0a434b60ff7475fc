/- Walk: the law LineMore. -/
import Derived.Test.YtejbpoclfjkllaaA5
import Derived.Test.YtejbpoclfjkllaaCY4
import Derived.Test.YtejbpoclfjkllaaCY6
import Derived.Test.YtejbpoclfjkllaaP2
namespace Go.Proofs.Ytejbpoclfjkllaa
open Go Go.RowKit Go.Shelf

theorem more_facts {N M : Int} {bs cs : List Bd} {jn kn je ke : Int} {jl kl : List Bd} (h1 : joinE N M bs cs = (jn, jl, je)) (h2 : joinE M N cs bs = (kn, kl, ke)) :
    (je ≠ 0 ∧ ke ≠ 0) ∨ (je = 0 ∧ ke = 0 ∧ N = M ∧ jn = N ∧ kn = N ∧ jl = bs ++ cs ∧ kl = cs ++ bs ∧ checkP N bs = 0 ∧ checkP N cs = 0 ∧ bs.length + cs.length ≤ 2000) := by
  unfold joinE at h1 h2
  by_cases a1 : checkP N bs = 0
  · by_cases a2 : checkP M cs = 0
    · by_cases a3 : N = M
      · subst a3
        by_cases a4 : 2000 < bs.length + cs.length
        · rw [if_neg (by simp [a1]), if_neg (by simp [a2]), if_neg (by simp), if_pos a4] at h1
          rw [if_neg (by simp [a2]), if_neg (by simp [a1]), if_neg (by simp), if_pos (by omega)] at h2
          simp only [Prod.mk.injEq] at h1 h2
          left; omega
        · rw [if_neg (by simp [a1]), if_neg (by simp [a2]), if_neg (by simp), if_neg a4] at h1
          rw [if_neg (by simp [a2]), if_neg (by simp [a1]), if_neg (by simp), if_neg (by omega)] at h2
          simp only [Prod.mk.injEq] at h1 h2
          exact .inr ⟨h1.2.2.symm, h2.2.2.symm, rfl, h1.1.symm, h2.1.symm, h1.2.1.symm, h2.2.1.symm, a1, a2, by omega⟩
      · rw [if_neg (by simp [a1]), if_neg (by simp [a2]), if_pos a3] at h1
        rw [if_neg (by simp [a2]), if_neg (by simp [a1]), if_pos (Ne.symm a3)] at h2
        simp only [Prod.mk.injEq] at h1 h2
        left; omega
    · rw [if_neg (by simp [a1]), if_pos a2] at h1
      rw [if_pos a2] at h2
      simp only [Prod.mk.injEq] at h1 h2
      left; omega
  · rw [if_pos a1] at h1
    simp only [Prod.mk.injEq] at h1
    by_cases a2 : checkP M cs = 0
    · rw [if_neg (by simp [a2]), if_pos a1] at h2
      simp only [Prod.mk.injEq] at h2
      left; omega
    · rw [if_pos a2] at h2
      simp only [Prod.mk.injEq] at h2
      left; omega

set_option maxRecDepth 100000 in
set_option maxHeartbeats 8000000 in
theorem lineMore_any (w : World) (N : Int) (a : Option Addr) (cap : Nat) (bs : List Bd) (M : Int) (a2 : Option Addr) (cap2 : Nat) (cs : List Bd) (x y : Int) (hN : i64ok N) (hl : bs.length ≤ 9223372036854775807) (h : BoundsAt w a bs) (hM : i64ok M) (hl2 : cs.length ≤ 9223372036854775807) (h2 : BoundsAt w a2 cs) :
    Calls Try.prog 12 #[.agg #[.int .i64 N, .slice a bs.length cap], .agg #[.int .i64 M, .slice a2 cs.length cap2], .int .i64 x, .int .i64 y] w fun e w' => e = .returned (.bool true) ∧ Below w.heap.size w w' := by
  obtain ⟨W0, hW0⟩ : ∃ W0, W0 = (w.alloc (.cells #[.int .i64 N, .slice a bs.length cap] 24)).alloc (.cells #[.int .i64 M, .slice a2 cs.length cap2] 24) := ⟨_, rfl⟩
  have b0 : Below w.heap.size w W0 := by rw [hW0]; exact ((Below.refl _ _).alloc (Nat.le_refl _) _).alloc (by simp) _
  have x0 : W0.heap[w.heap.size]? = some (.cells #[.int .i64 N, .slice a bs.length cap] 24 (0,0)) := by rw [hW0, Below.heap_alloc _ _ _ (by simp), heap_alloc_new]
  have x1 : W0.heap[w.heap.size + 1]? = some (.cells #[.int .i64 M, .slice a2 cs.length cap2] 24 (0,0)) := by rw [hW0, heap_alloc_at _ _ _ (by simp)]
  have HW0 := hidE hW0
  have B0 := hidE b0
  have X0 := hidE x0
  have X1 := hidE x1
  have H := hidE h
  have H2 := hidE h2
  have HN := hidE hN
  have HM := hidE hM
  obtain ⟨f1, hf1⟩ : ∃ f, fewP N bs.length 8 14 = f := ⟨_, rfl⟩
  obtain ⟨f2, hf2⟩ : ∃ f, fewP M cs.length 8 14 = f := ⟨_, rfl⟩
  have hs1 := fun W => fewL_any W N a cap bs.length
  have hs2 := fun W => fewL_any W M a2 cap2 cs.length
  rw [hf1] at hs1
  rw [hf2] at hs2
  have HS1 := hidE hs1
  have HS2 := hidE hs2
  clear hW0 b0 x0 x1 h h2 hN hM hf1 hf2 hs1 hs2
  go_enter Try.func12, Try.ntmps12
  go_upto_region 1 with fail
  rw [← HW0.out]
  have e0 : W0.cell? ⟨w.heap.size, 0, none⟩ = some (.int .i64 N) := by rw [cell_of_row _ _ _ _ _ _ X0.out]; rfl
  have e1 : W0.cell? ⟨w.heap.size, 1, none⟩ = some (.slice a bs.length cap) := by rw [cell_of_row _ _ _ _ _ _ X0.out]; rfl
  go_wp2_with fail
  refine (HS1.out _).mono ?_
  rintro e w1 ⟨rfl, hb1⟩
  replace X0 := hidE (blk_below hb1 (lt_of_block X0.out) X0.out)
  replace X1 := hidE (blk_below hb1 (lt_of_block X1.out) X1.out)
  have B1 := hidE (B0.out.trans (hb1.mono B0.out.size))
  clear e0 e1 hb1
  cases f1 with
  | false =>
    go_wp2_with fail
    refine (alive_any _).mono ?_
    rintro e w2 ⟨rfl, hb2⟩
    go_wp2_with fail
    go_ret
    exact ⟨rfl, B1.out.trans (hb2.mono B1.out.size)⟩
  | true =>
    have e0 : w1.cell? ⟨w.heap.size + 1, 0, none⟩ = some (.int .i64 M) := by rw [cell_of_row _ _ _ _ _ _ X1.out]; rfl
    have e1 : w1.cell? ⟨w.heap.size + 1, 1, none⟩ = some (.slice a2 cs.length cap2) := by rw [cell_of_row _ _ _ _ _ _ X1.out]; rfl
    go_wp2_with fail
    refine (HS2.out _).mono ?_
    rintro e w2 ⟨rfl, hb2⟩
    replace X0 := hidE (blk_below hb2 (lt_of_block X0.out) X0.out)
    replace X1 := hidE (blk_below hb2 (lt_of_block X1.out) X1.out)
    have B2 := hidE (B1.out.trans (hb2.mono B1.out.size))
    clear e0 e1 hb2
    cases f2 with
    | false =>
      go_wp2_with fail
      refine (alive_any _).mono ?_
      rintro e w3 ⟨rfl, hb3⟩
      go_wp2_with fail
      go_ret
      exact ⟨rfl, B2.out.trans (hb3.mono B2.out.size)⟩
    | true =>
      have q1 := fun W hb hb2 => join_any W N M a a2 cap cap2 bs cs HN.out HM.out hl hl2 hb hb2
      have q2 := fun W hb hb2 => join_any W M N a2 a cap2 cap cs bs HM.out HN.out hl2 hl hb hb2
      obtain ⟨⟨jn, jl, je⟩, hj⟩ : ∃ t, joinE N M bs cs = t := ⟨_, rfl⟩
      obtain ⟨⟨kn, kl, ke⟩, hk⟩ : ∃ t, joinE M N cs bs = t := ⟨_, rfl⟩
      have hmf := more_facts hj hk
      rw [hj] at q1
      rw [hk] at q2
      have Q1 := hidE q1
      have Q2 := hidE q2
      have MFX := hidE hmf
      clear q1 q2 hj hk hmf
      have c_X0_0 : w2.cell? ⟨w.heap.size, 0, none⟩ = some (.int .i64 N) := by rw [cell_of_row _ _ _ _ _ _ X0.out]; rfl
      have c_X0_1 : w2.cell? ⟨w.heap.size, 1, none⟩ = some (.slice a bs.length cap) := by rw [cell_of_row _ _ _ _ _ _ X0.out]; rfl
      have c_X1_0 : w2.cell? ⟨w.heap.size + 1, 0, none⟩ = some (.int .i64 M) := by rw [cell_of_row _ _ _ _ _ _ X1.out]; rfl
      have c_X1_1 : w2.cell? ⟨w.heap.size + 1, 1, none⟩ = some (.slice a2 cs.length cap2) := by rw [cell_of_row _ _ _ _ _ _ X1.out]; rfl
      go_wp2_with fail
      refine (Q1.out _ (H.out.below B2.out (Nat.le_refl _)) (H2.out.below B2.out (Nat.le_refl _))).mono ?_
      rintro e V3 ⟨hp, hb⟩
      obtain ⟨o3, c3, rfl, hi⟩ := sysPost_get hp
      simp only
      go_upto_region 4 with fail
      obtain ⟨w3, hW⟩ : ∃ X, X = V3.alloc (.cells #[.int .i64 jn, .slice o3 jl.length c3] 24) := ⟨_, rfl⟩
      rw [← hW]
      have hbx : Below w2.heap.size w2 w3 := by rw [hW]; exact hb.alloc hb.size _
      replace X0 := hidE (blk_below hbx (lt_of_block X0.out) X0.out)
      replace X1 := hidE (blk_below hbx (lt_of_block X1.out) X1.out)
      have B3 := hidE (B2.out.trans (hbx.mono B2.out.size))
      have XJ := hidE (show w3.heap[V3.heap.size]? = some (.cells #[.int .i64 jn, .slice o3 jl.length c3] 24 (0,0)) by rw [hW]; exact heap_alloc_new _ _)
      have IJ := hidE (show BoundsAt w3 o3 jl by rw [hW]; exact hi.alloc _)
      clear c_X0_0 c_X0_1 c_X1_0 c_X1_1 hb hbx hW hp hi
      have c_X0_0 : w3.cell? ⟨w.heap.size, 0, none⟩ = some (.int .i64 N) := by rw [cell_of_row _ _ _ _ _ _ X0.out]; rfl
      have c_X0_1 : w3.cell? ⟨w.heap.size, 1, none⟩ = some (.slice a bs.length cap) := by rw [cell_of_row _ _ _ _ _ _ X0.out]; rfl
      have c_X1_0 : w3.cell? ⟨w.heap.size + 1, 0, none⟩ = some (.int .i64 M) := by rw [cell_of_row _ _ _ _ _ _ X1.out]; rfl
      have c_X1_1 : w3.cell? ⟨w.heap.size + 1, 1, none⟩ = some (.slice a2 cs.length cap2) := by rw [cell_of_row _ _ _ _ _ _ X1.out]; rfl
      go_wp2_with fail
      refine (Q2.out _ (H2.out.below B3.out (Nat.le_refl _)) (H.out.below B3.out (Nat.le_refl _))).mono ?_
      rintro e V4 ⟨hp, hb⟩
      obtain ⟨o4, c4, rfl, hi⟩ := sysPost_get hp
      simp only
      go_upto_region 5 with fail
      obtain ⟨w4, hW⟩ : ∃ X, X = V4.alloc (.cells #[.int .i64 kn, .slice o4 kl.length c4] 24) := ⟨_, rfl⟩
      rw [← hW]
      have hbx : Below w3.heap.size w3 w4 := by rw [hW]; exact hb.alloc hb.size _
      replace X0 := hidE (blk_below hbx (lt_of_block X0.out) X0.out)
      replace X1 := hidE (blk_below hbx (lt_of_block X1.out) X1.out)
      replace XJ := hidE (blk_below hbx (lt_of_block XJ.out) XJ.out)
      replace IJ := hidE (IJ.out.below hbx (Nat.le_refl _))
      have B4 := hidE (B3.out.trans (hbx.mono B3.out.size))
      have XK := hidE (show w4.heap[V4.heap.size]? = some (.cells #[.int .i64 kn, .slice o4 kl.length c4] 24 (0,0)) by rw [hW]; exact heap_alloc_new _ _)
      have IK := hidE (show BoundsAt w4 o4 kl by rw [hW]; exact hi.alloc _)
      clear c_X0_0 c_X0_1 c_X1_0 c_X1_1 hb hbx hW hp hi
      rcases MFX.out with ⟨e1, e2⟩ | ⟨e1, e2, e3, e4, e5, e6, e7, e8, e9, e10⟩
      · have p1 : (je != 0) = true := by simpa using e1
        have p2 : (ke != 0) = true := by simpa using e2
        clear e1 e2
        go_wp2_with fail
        refine (alive_any _).mono ?_
        rintro e w9 ⟨rfl, hb9⟩
        go_wp2_with fail
        go_ret
        exact ⟨rfl, B4.out.trans (hb9.mono B4.out.size)⟩
      · subst e1
        subst e2
        subst e3
        subst e5
        subst e4
        subst e6
        subst e7
        obtain ⟨g1, g2, g3, g4⟩ := more_law e8 e9 e10
        obtain ⟨g5, g6⟩ := more_between e8 e9 e10 x y
        have c1 := fun W hb => consistent_any W jn a cap bs HN.out hl hb
        have c2 := fun W hb => consistent_any W jn o3 c3 (bs ++ cs) HN.out (by simp; omega) hb
        have c3' := fun W hb => consistent_any W jn o4 c4 (cs ++ bs) HN.out (by simp; omega) hb
        have z1 : consistentE jn bs = (keptP jn bs, 0) := by unfold consistentE; rw [if_pos e8]; rfl
        have z2 : consistentE jn (bs ++ cs) = (keptP jn (bs ++ cs), 0) := by unfold consistentE; rw [if_pos g1]; rfl
        have z3 : consistentE jn (cs ++ bs) = (keptP jn (bs ++ cs), 0) := by unfold consistentE; rw [if_pos g2, g4]; rfl
        rw [z1] at c1
        rw [z2] at c2
        rw [z3] at c3'
        have d1 := fun W hb => between_any W jn a cap bs x y HN.out hl hb
        have d2 := fun W hb => between_any W jn o3 c3 (bs ++ cs) x y HN.out (by simp; omega) hb
        have d3 := fun W hb => between_any W jn o4 c4 (cs ++ bs) x y HN.out (by simp; omega) hb
        rw [← g5] at d3
        have hbz : ∀ l, askedE jn l [x, y] ≠ 0 → (betweenP jn l x y).2 = askedE jn l [x, y] := fun l hh => by unfold betweenP; rw [if_neg hh]
        have hbo : ∀ l, askedE jn l [x, y] = 0 → (betweenP jn l x y).2 = 0 := fun l hh => by unfold betweenP; rw [if_pos hh]
        obtain ⟨s1, s2, s3, s4, se, hse⟩ := betweenP_split jn bs x y
        obtain ⟨r1, r2, r3, r4, re, hre⟩ := betweenP_split jn (bs ++ cs) x y
        have hfin : re ≠ 0 ∨ (re = 0 ∧ se = 0 ∧ narrowP ⟨s1, s2, s3, s4⟩ ⟨r1, r2, r3, r4⟩ = true) := by
          by_cases hh : askedE jn (bs ++ cs) [x, y] = 0
          · obtain ⟨i1, i2⟩ := g6 hh
            have i3 := hbo _ hh
            have i4 := hbo _ i1
            rw [hre] at i3
            rw [hse] at i4
            rw [hse, hre] at i2
            exact .inr ⟨i3, i4, i2⟩
          · have i3 := hbz _ hh
            rw [hre] at i3
            exact .inl (by simp only at i3; rw [i3]; exact hh)
        rw [hse] at d1
        rw [hre] at d2 d3
        unfold Sp.arr at d1 d2 d3
        simp only at d1 d2 d3
        obtain ⟨kb, hkb⟩ : ∃ t, keptP jn bs = t := ⟨_, rfl⟩
        obtain ⟨kj, hkj⟩ : ∃ t, keptP jn (bs ++ cs) = t := ⟨_, rfl⟩
        rw [hkb] at c1 g3
        rw [hkj] at c2 c3' g3
        simp only [List.length_append] at c2 c3' d2 d3
        have C1 := hidE c1
        have C2 := hidE c2
        have C3 := hidE c3'
        have D1 := hidE d1
        have D2 := hidE d2
        have D3 := hidE d3
        have HF := hidE hfin
        have hlen1 : (bs ++ cs).length = bs.length + cs.length := List.length_append
        have hlen2 : (cs ++ bs).length = cs.length + bs.length := List.length_append
        rw [hlen1] at XJ
        rw [hlen2] at XK
        clear c1 c2 c3' d1 d2 d3 hfin hse hre hbz hbo g1 g2 g4 g5 g6 z1 z2 z3 hkb hkj e8 e9 e10 hlen1 hlen2 MFX Q1 Q2
        have hkk : kj = true → kb = true := g3
        clear g3
        have c_X0_0 : w4.cell? ⟨w.heap.size, 0, none⟩ = some (.int .i64 jn) := by rw [cell_of_row _ _ _ _ _ _ X0.out]; rfl
        have c_X0_1 : w4.cell? ⟨w.heap.size, 1, none⟩ = some (.slice a bs.length cap) := by rw [cell_of_row _ _ _ _ _ _ X0.out]; rfl
        go_wp2_with fail
        refine (C1.out _ (H.out.below B4.out (Nat.le_refl _))).mono ?_
        rintro e w5 ⟨rfl, hb⟩
        have hbx : Below w4.heap.size w4 w5 := hb
        replace X0 := hidE (blk_below hbx (lt_of_block X0.out) X0.out)
        replace X1 := hidE (blk_below hbx (lt_of_block X1.out) X1.out)
        replace XJ := hidE (blk_below hbx (lt_of_block XJ.out) XJ.out)
        replace XK := hidE (blk_below hbx (lt_of_block XK.out) XK.out)
        replace IJ := hidE (IJ.out.below hbx (Nat.le_refl _))
        replace IK := hidE (IK.out.below hbx (Nat.le_refl _))
        have B5 := hidE (B4.out.trans (hbx.mono B4.out.size))
        clear c_X0_0 c_X0_1 hb hbx
        have c_XJ_0 : w5.cell? ⟨V3.heap.size, 0, none⟩ = some (.int .i64 jn) := by rw [cell_of_row _ _ _ _ _ _ XJ.out]; rfl
        have c_XJ_1 : w5.cell? ⟨V3.heap.size, 1, none⟩ = some (.slice o3 (bs.length + cs.length) c3) := by rw [cell_of_row _ _ _ _ _ _ XJ.out]; rfl
        go_wp2_with fail
        refine (C2.out _ IJ.out).mono ?_
        rintro e w6 ⟨rfl, hb⟩
        have hbx : Below w5.heap.size w5 w6 := hb
        replace X0 := hidE (blk_below hbx (lt_of_block X0.out) X0.out)
        replace X1 := hidE (blk_below hbx (lt_of_block X1.out) X1.out)
        replace XJ := hidE (blk_below hbx (lt_of_block XJ.out) XJ.out)
        replace XK := hidE (blk_below hbx (lt_of_block XK.out) XK.out)
        replace IJ := hidE (IJ.out.below hbx (Nat.le_refl _))
        replace IK := hidE (IK.out.below hbx (Nat.le_refl _))
        have B6 := hidE (B5.out.trans (hbx.mono B5.out.size))
        clear c_XJ_0 c_XJ_1 hb hbx
        have c_XK_0 : w6.cell? ⟨V4.heap.size, 0, none⟩ = some (.int .i64 jn) := by rw [cell_of_row _ _ _ _ _ _ XK.out]; rfl
        have c_XK_1 : w6.cell? ⟨V4.heap.size, 1, none⟩ = some (.slice o4 (cs.length + bs.length) c4) := by rw [cell_of_row _ _ _ _ _ _ XK.out]; rfl
        go_wp2_with fail
        refine (C3.out _ IK.out).mono ?_
        rintro e w7 ⟨rfl, hb⟩
        have hbx : Below w6.heap.size w6 w7 := hb
        replace X0 := hidE (blk_below hbx (lt_of_block X0.out) X0.out)
        replace X1 := hidE (blk_below hbx (lt_of_block X1.out) X1.out)
        replace XJ := hidE (blk_below hbx (lt_of_block XJ.out) XJ.out)
        replace XK := hidE (blk_below hbx (lt_of_block XK.out) XK.out)
        replace IJ := hidE (IJ.out.below hbx (Nat.le_refl _))
        replace IK := hidE (IK.out.below hbx (Nat.le_refl _))
        have B7 := hidE (B6.out.trans (hbx.mono B6.out.size))
        clear c_XK_0 c_XK_1 hb hbx
        have hkcase : (kj = false) ∨ (kj = true ∧ kb = true) := by
          cases kj
          · exact .inl rfl
          · exact .inr ⟨rfl, hkk rfl⟩
        clear hkk
        have hgo : ∀ P : Prop, ((kj = false → P) ∧ (kj = true → kb = true → P)) → P := fun P hP => by
          rcases hkcase with q | ⟨q, q'⟩
          · exact hP.1 q
          · exact hP.2 q q'
        clear hkcase
        refine hgo _ ⟨?_, ?_⟩
        · intro q
          subst q
          have c_X0_0 : w7.cell? ⟨w.heap.size, 0, none⟩ = some (.int .i64 jn) := by rw [cell_of_row _ _ _ _ _ _ X0.out]; rfl
          have c_X0_1 : w7.cell? ⟨w.heap.size, 1, none⟩ = some (.slice a bs.length cap) := by rw [cell_of_row _ _ _ _ _ _ X0.out]; rfl
          go_wp2_with fail
          refine (D1.out _ (H.out.below B7.out (Nat.le_refl _))).mono ?_
          rintro e V8 ⟨rfl, hb⟩
          go_upto_region 13 with fail
          obtain ⟨w8, hW⟩ : ∃ X, X = V8.alloc (.cells #[.int .i64 s1, .int .i64 s2, .bool s3, .bool s4] 33) := ⟨_, rfl⟩
          rw [← hW]
          have hbx : Below w7.heap.size w7 w8 := by rw [hW]; exact hb.alloc hb.size _
          replace X0 := hidE (blk_below hbx (lt_of_block X0.out) X0.out)
          replace X1 := hidE (blk_below hbx (lt_of_block X1.out) X1.out)
          replace XJ := hidE (blk_below hbx (lt_of_block XJ.out) XJ.out)
          replace XK := hidE (blk_below hbx (lt_of_block XK.out) XK.out)
          replace IJ := hidE (IJ.out.below hbx (Nat.le_refl _))
          replace IK := hidE (IK.out.below hbx (Nat.le_refl _))
          have B8 := hidE (B7.out.trans (hbx.mono B7.out.size))
          have SX := hidE (show w8.heap[V8.heap.size]? = some (.cells #[.int .i64 s1, .int .i64 s2, .bool s3, .bool s4] 33 (0,0)) by rw [hW]; exact heap_alloc_new _ _)
          clear c_X0_0 c_X0_1 hb hbx hW
          have c_XJ_0 : w8.cell? ⟨V3.heap.size, 0, none⟩ = some (.int .i64 jn) := by rw [cell_of_row _ _ _ _ _ _ XJ.out]; rfl
          have c_XJ_1 : w8.cell? ⟨V3.heap.size, 1, none⟩ = some (.slice o3 (bs.length + cs.length) c3) := by rw [cell_of_row _ _ _ _ _ _ XJ.out]; rfl
          go_wp2_with fail
          refine (D2.out _ IJ.out).mono ?_
          rintro e V9 ⟨rfl, hb⟩
          go_upto_region 14 with fail
          obtain ⟨w9, hW⟩ : ∃ X, X = V9.alloc (.cells #[.int .i64 r1, .int .i64 r2, .bool r3, .bool r4] 33) := ⟨_, rfl⟩
          rw [← hW]
          have hbx : Below w8.heap.size w8 w9 := by rw [hW]; exact hb.alloc hb.size _
          replace X0 := hidE (blk_below hbx (lt_of_block X0.out) X0.out)
          replace X1 := hidE (blk_below hbx (lt_of_block X1.out) X1.out)
          replace XJ := hidE (blk_below hbx (lt_of_block XJ.out) XJ.out)
          replace XK := hidE (blk_below hbx (lt_of_block XK.out) XK.out)
          replace SX := hidE (blk_below hbx (lt_of_block SX.out) SX.out)
          replace IJ := hidE (IJ.out.below hbx (Nat.le_refl _))
          replace IK := hidE (IK.out.below hbx (Nat.le_refl _))
          have B9 := hidE (B8.out.trans (hbx.mono B8.out.size))
          have SY := hidE (show w9.heap[V9.heap.size]? = some (.cells #[.int .i64 r1, .int .i64 r2, .bool r3, .bool r4] 33 (0,0)) by rw [hW]; exact heap_alloc_new _ _)
          clear c_XJ_0 c_XJ_1 hb hbx hW
          have c_XK_0 : w9.cell? ⟨V4.heap.size, 0, none⟩ = some (.int .i64 jn) := by rw [cell_of_row _ _ _ _ _ _ XK.out]; rfl
          have c_XK_1 : w9.cell? ⟨V4.heap.size, 1, none⟩ = some (.slice o4 (cs.length + bs.length) c4) := by rw [cell_of_row _ _ _ _ _ _ XK.out]; rfl
          go_wp2_with fail
          refine (D3.out _ IK.out).mono ?_
          rintro e V10 ⟨rfl, hb⟩
          go_upto_region 15 with fail
          obtain ⟨w10, hW⟩ : ∃ X, X = V10.alloc (.cells #[.int .i64 r1, .int .i64 r2, .bool r3, .bool r4] 33) := ⟨_, rfl⟩
          rw [← hW]
          have hbx : Below w9.heap.size w9 w10 := by rw [hW]; exact hb.alloc hb.size _
          replace X0 := hidE (blk_below hbx (lt_of_block X0.out) X0.out)
          replace X1 := hidE (blk_below hbx (lt_of_block X1.out) X1.out)
          replace XJ := hidE (blk_below hbx (lt_of_block XJ.out) XJ.out)
          replace XK := hidE (blk_below hbx (lt_of_block XK.out) XK.out)
          replace SX := hidE (blk_below hbx (lt_of_block SX.out) SX.out)
          replace SY := hidE (blk_below hbx (lt_of_block SY.out) SY.out)
          replace IJ := hidE (IJ.out.below hbx (Nat.le_refl _))
          replace IK := hidE (IK.out.below hbx (Nat.le_refl _))
          have B10 := hidE (B9.out.trans (hbx.mono B9.out.size))
          have SZ := hidE (show w10.heap[V10.heap.size]? = some (.cells #[.int .i64 r1, .int .i64 r2, .bool r3, .bool r4] 33 (0,0)) by rw [hW]; exact heap_alloc_new _ _)
          clear c_XK_0 c_XK_1 hb hbx hW
          rcases HF.out with hre | ⟨hre, hse, hnar⟩
          · have p1 : (re != 0) = true := by simpa using hre
            clear hre
            go_wp2_with fail
            refine (alive_any _).mono ?_
            rintro e w20 ⟨rfl, hb20⟩
            go_wp2_with fail
            go_ret
            exact ⟨rfl, B10.out.trans (hb20.mono B10.out.size)⟩
          · subst hre
            subst hse
            unfold narrowP at hnar
            simp only [Bool.and_eq_true, Bool.or_eq_true, Bool.not_eq_true', decide_eq_true_eq] at hnar
            obtain ⟨n1, n2⟩ := hnar
            have c_SX_0 : w10.cell? ⟨V8.heap.size, 0, none⟩ = some (.int .i64 s1) := by rw [cell_of_row _ _ _ _ _ _ SX.out]; rfl
            have c_SX_1 : w10.cell? ⟨V8.heap.size, 1, none⟩ = some (.int .i64 s2) := by rw [cell_of_row _ _ _ _ _ _ SX.out]; rfl
            have c_SX_2 : w10.cell? ⟨V8.heap.size, 2, none⟩ = some (.bool s3) := by rw [cell_of_row _ _ _ _ _ _ SX.out]; rfl
            have c_SX_3 : w10.cell? ⟨V8.heap.size, 3, none⟩ = some (.bool s4) := by rw [cell_of_row _ _ _ _ _ _ SX.out]; rfl
            have c_SY_0 : w10.cell? ⟨V9.heap.size, 0, none⟩ = some (.int .i64 r1) := by rw [cell_of_row _ _ _ _ _ _ SY.out]; rfl
            have c_SY_1 : w10.cell? ⟨V9.heap.size, 1, none⟩ = some (.int .i64 r2) := by rw [cell_of_row _ _ _ _ _ _ SY.out]; rfl
            have c_SY_2 : w10.cell? ⟨V9.heap.size, 2, none⟩ = some (.bool r3) := by rw [cell_of_row _ _ _ _ _ _ SY.out]; rfl
            have c_SY_3 : w10.cell? ⟨V9.heap.size, 3, none⟩ = some (.bool r4) := by rw [cell_of_row _ _ _ _ _ _ SY.out]; rfl
            have n3 : s4 = false ∨ (s4 = true ∧ r4 = true ∧ r2 ≤ s2) := by cases s4; exact .inl rfl; exact .inr ⟨rfl, n1.resolve_left (by simp)⟩
            have n4 : s3 = false ∨ (s3 = true ∧ r3 = true ∧ s1 ≤ r1) := by cases s3; exact .inl rfl; exact .inr ⟨rfl, n2.resolve_left (by simp)⟩
            clear n1 n2
            rcases n3 with rfl | ⟨rfl, rfl, n1⟩ <;> rcases n4 with rfl | ⟨rfl, rfl, n2⟩
            all_goals
              go_wp2_with fail
              refine (alive_any _).mono ?_
              rintro e w20 ⟨rfl, hb20⟩
              have y1 := blk_below hb20 (lt_of_block SY.out) SY.out
              have y2 := blk_below hb20 (lt_of_block SZ.out) SZ.out
              have u0 := (cell_of_row _ _ 0 _ _ _ y1)
              have u1 := (cell_of_row _ _ 1 _ _ _ y1)
              have u2 := (cell_of_row _ _ 2 _ _ _ y1)
              have u3 := (cell_of_row _ _ 3 _ _ _ y1)
              have v0 := (cell_of_row _ _ 0 _ _ _ y2)
              have v1 := (cell_of_row _ _ 1 _ _ _ y2)
              have v2 := (cell_of_row _ _ 2 _ _ _ y2)
              have v3 := (cell_of_row _ _ 3 _ _ _ y2)
              simp only [List.getElem?_toArray, List.getElem?_cons_zero, List.getElem?_cons_succ] at u0 u1 u2 u3 v0 v1 v2 v3
              clear c_SX_0 c_SX_1 c_SX_2 c_SX_3 c_SY_0 c_SY_1 c_SY_2 c_SY_3 y1 y2
              go_wp2_with fail
              go_ret
              exact ⟨rfl, B10.out.trans (hb20.mono B10.out.size)⟩
        · intro q q'
          subst q
          subst q'
          have c_X0_0 : w7.cell? ⟨w.heap.size, 0, none⟩ = some (.int .i64 jn) := by rw [cell_of_row _ _ _ _ _ _ X0.out]; rfl
          have c_X0_1 : w7.cell? ⟨w.heap.size, 1, none⟩ = some (.slice a bs.length cap) := by rw [cell_of_row _ _ _ _ _ _ X0.out]; rfl
          go_wp2_with fail
          refine (D1.out _ (H.out.below B7.out (Nat.le_refl _))).mono ?_
          rintro e V8 ⟨rfl, hb⟩
          go_upto_region 13 with fail
          obtain ⟨w8, hW⟩ : ∃ X, X = V8.alloc (.cells #[.int .i64 s1, .int .i64 s2, .bool s3, .bool s4] 33) := ⟨_, rfl⟩
          rw [← hW]
          have hbx : Below w7.heap.size w7 w8 := by rw [hW]; exact hb.alloc hb.size _
          replace X0 := hidE (blk_below hbx (lt_of_block X0.out) X0.out)
          replace X1 := hidE (blk_below hbx (lt_of_block X1.out) X1.out)
          replace XJ := hidE (blk_below hbx (lt_of_block XJ.out) XJ.out)
          replace XK := hidE (blk_below hbx (lt_of_block XK.out) XK.out)
          replace IJ := hidE (IJ.out.below hbx (Nat.le_refl _))
          replace IK := hidE (IK.out.below hbx (Nat.le_refl _))
          have B8 := hidE (B7.out.trans (hbx.mono B7.out.size))
          have SX := hidE (show w8.heap[V8.heap.size]? = some (.cells #[.int .i64 s1, .int .i64 s2, .bool s3, .bool s4] 33 (0,0)) by rw [hW]; exact heap_alloc_new _ _)
          clear c_X0_0 c_X0_1 hb hbx hW
          have c_XJ_0 : w8.cell? ⟨V3.heap.size, 0, none⟩ = some (.int .i64 jn) := by rw [cell_of_row _ _ _ _ _ _ XJ.out]; rfl
          have c_XJ_1 : w8.cell? ⟨V3.heap.size, 1, none⟩ = some (.slice o3 (bs.length + cs.length) c3) := by rw [cell_of_row _ _ _ _ _ _ XJ.out]; rfl
          go_wp2_with fail
          refine (D2.out _ IJ.out).mono ?_
          rintro e V9 ⟨rfl, hb⟩
          go_upto_region 14 with fail
          obtain ⟨w9, hW⟩ : ∃ X, X = V9.alloc (.cells #[.int .i64 r1, .int .i64 r2, .bool r3, .bool r4] 33) := ⟨_, rfl⟩
          rw [← hW]
          have hbx : Below w8.heap.size w8 w9 := by rw [hW]; exact hb.alloc hb.size _
          replace X0 := hidE (blk_below hbx (lt_of_block X0.out) X0.out)
          replace X1 := hidE (blk_below hbx (lt_of_block X1.out) X1.out)
          replace XJ := hidE (blk_below hbx (lt_of_block XJ.out) XJ.out)
          replace XK := hidE (blk_below hbx (lt_of_block XK.out) XK.out)
          replace SX := hidE (blk_below hbx (lt_of_block SX.out) SX.out)
          replace IJ := hidE (IJ.out.below hbx (Nat.le_refl _))
          replace IK := hidE (IK.out.below hbx (Nat.le_refl _))
          have B9 := hidE (B8.out.trans (hbx.mono B8.out.size))
          have SY := hidE (show w9.heap[V9.heap.size]? = some (.cells #[.int .i64 r1, .int .i64 r2, .bool r3, .bool r4] 33 (0,0)) by rw [hW]; exact heap_alloc_new _ _)
          clear c_XJ_0 c_XJ_1 hb hbx hW
          have c_XK_0 : w9.cell? ⟨V4.heap.size, 0, none⟩ = some (.int .i64 jn) := by rw [cell_of_row _ _ _ _ _ _ XK.out]; rfl
          have c_XK_1 : w9.cell? ⟨V4.heap.size, 1, none⟩ = some (.slice o4 (cs.length + bs.length) c4) := by rw [cell_of_row _ _ _ _ _ _ XK.out]; rfl
          go_wp2_with fail
          refine (D3.out _ IK.out).mono ?_
          rintro e V10 ⟨rfl, hb⟩
          go_upto_region 15 with fail
          obtain ⟨w10, hW⟩ : ∃ X, X = V10.alloc (.cells #[.int .i64 r1, .int .i64 r2, .bool r3, .bool r4] 33) := ⟨_, rfl⟩
          rw [← hW]
          have hbx : Below w9.heap.size w9 w10 := by rw [hW]; exact hb.alloc hb.size _
          replace X0 := hidE (blk_below hbx (lt_of_block X0.out) X0.out)
          replace X1 := hidE (blk_below hbx (lt_of_block X1.out) X1.out)
          replace XJ := hidE (blk_below hbx (lt_of_block XJ.out) XJ.out)
          replace XK := hidE (blk_below hbx (lt_of_block XK.out) XK.out)
          replace SX := hidE (blk_below hbx (lt_of_block SX.out) SX.out)
          replace SY := hidE (blk_below hbx (lt_of_block SY.out) SY.out)
          replace IJ := hidE (IJ.out.below hbx (Nat.le_refl _))
          replace IK := hidE (IK.out.below hbx (Nat.le_refl _))
          have B10 := hidE (B9.out.trans (hbx.mono B9.out.size))
          have SZ := hidE (show w10.heap[V10.heap.size]? = some (.cells #[.int .i64 r1, .int .i64 r2, .bool r3, .bool r4] 33 (0,0)) by rw [hW]; exact heap_alloc_new _ _)
          clear c_XK_0 c_XK_1 hb hbx hW
          rcases HF.out with hre | ⟨hre, hse, hnar⟩
          · have p1 : (re != 0) = true := by simpa using hre
            clear hre
            go_wp2_with fail
            refine (alive_any _).mono ?_
            rintro e w20 ⟨rfl, hb20⟩
            go_wp2_with fail
            go_ret
            exact ⟨rfl, B10.out.trans (hb20.mono B10.out.size)⟩
          · subst hre
            subst hse
            unfold narrowP at hnar
            simp only [Bool.and_eq_true, Bool.or_eq_true, Bool.not_eq_true', decide_eq_true_eq] at hnar
            obtain ⟨n1, n2⟩ := hnar
            have c_SX_0 : w10.cell? ⟨V8.heap.size, 0, none⟩ = some (.int .i64 s1) := by rw [cell_of_row _ _ _ _ _ _ SX.out]; rfl
            have c_SX_1 : w10.cell? ⟨V8.heap.size, 1, none⟩ = some (.int .i64 s2) := by rw [cell_of_row _ _ _ _ _ _ SX.out]; rfl
            have c_SX_2 : w10.cell? ⟨V8.heap.size, 2, none⟩ = some (.bool s3) := by rw [cell_of_row _ _ _ _ _ _ SX.out]; rfl
            have c_SX_3 : w10.cell? ⟨V8.heap.size, 3, none⟩ = some (.bool s4) := by rw [cell_of_row _ _ _ _ _ _ SX.out]; rfl
            have c_SY_0 : w10.cell? ⟨V9.heap.size, 0, none⟩ = some (.int .i64 r1) := by rw [cell_of_row _ _ _ _ _ _ SY.out]; rfl
            have c_SY_1 : w10.cell? ⟨V9.heap.size, 1, none⟩ = some (.int .i64 r2) := by rw [cell_of_row _ _ _ _ _ _ SY.out]; rfl
            have c_SY_2 : w10.cell? ⟨V9.heap.size, 2, none⟩ = some (.bool r3) := by rw [cell_of_row _ _ _ _ _ _ SY.out]; rfl
            have c_SY_3 : w10.cell? ⟨V9.heap.size, 3, none⟩ = some (.bool r4) := by rw [cell_of_row _ _ _ _ _ _ SY.out]; rfl
            have n3 : s4 = false ∨ (s4 = true ∧ r4 = true ∧ r2 ≤ s2) := by cases s4; exact .inl rfl; exact .inr ⟨rfl, n1.resolve_left (by simp)⟩
            have n4 : s3 = false ∨ (s3 = true ∧ r3 = true ∧ s1 ≤ r1) := by cases s3; exact .inl rfl; exact .inr ⟨rfl, n2.resolve_left (by simp)⟩
            clear n1 n2
            rcases n3 with rfl | ⟨rfl, rfl, n1⟩ <;> rcases n4 with rfl | ⟨rfl, rfl, n2⟩
            all_goals
              go_wp2_with fail
              refine (alive_any _).mono ?_
              rintro e w20 ⟨rfl, hb20⟩
              have y1 := blk_below hb20 (lt_of_block SY.out) SY.out
              have y2 := blk_below hb20 (lt_of_block SZ.out) SZ.out
              have u0 := (cell_of_row _ _ 0 _ _ _ y1)
              have u1 := (cell_of_row _ _ 1 _ _ _ y1)
              have u2 := (cell_of_row _ _ 2 _ _ _ y1)
              have u3 := (cell_of_row _ _ 3 _ _ _ y1)
              have v0 := (cell_of_row _ _ 0 _ _ _ y2)
              have v1 := (cell_of_row _ _ 1 _ _ _ y2)
              have v2 := (cell_of_row _ _ 2 _ _ _ y2)
              have v3 := (cell_of_row _ _ 3 _ _ _ y2)
              simp only [List.getElem?_toArray, List.getElem?_cons_zero, List.getElem?_cons_succ] at u0 u1 u2 u3 v0 v1 v2 v3
              clear c_SX_0 c_SX_1 c_SX_2 c_SX_3 c_SY_0 c_SY_1 c_SY_2 c_SY_3 y1 y2
              go_wp2_with fail
              go_ret
              exact ⟨rfl, B10.out.trans (hb20.mono B10.out.size)⟩

end Go.Proofs.Ytejbpoclfjkllaa
