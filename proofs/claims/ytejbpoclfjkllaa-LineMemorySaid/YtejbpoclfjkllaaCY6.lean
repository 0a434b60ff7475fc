/- Walks: Join; the law LineJoins. -/
import Derived.Test.YtejbpoclfjkllaaCY5
namespace Go.Proofs.Ytejbpoclfjkllaa
open Go Go.RowKit Go.Shelf

set_option maxRecDepth 100000 in
set_option maxHeartbeats 4000000 in
theorem join_any (w : World) (N M : Int) (a a2 : Option Addr) (cap cap2 : Nat) (bs cs : List Bd) (hN : i64ok N) (hM : i64ok M) (hl : bs.length ≤ 9223372036854775807) (hl2 : cs.length ≤ 9223372036854775807) (h : BoundsAt w a bs) (h2 : BoundsAt w a2 cs) :
    Calls Try.prog 51 #[.agg #[.int .i64 N, .slice a bs.length cap], .agg #[.int .i64 M, .slice a2 cs.length cap2]] w fun e w' => SysPost (joinE N M bs cs) w.heap.size e w' ∧ Below w.heap.size w w' := by
  obtain ⟨W0, hW0⟩ : ∃ W0, W0 = ((w.alloc (.cells #[.int .i64 N, .slice a bs.length cap] 24)).alloc (.cells #[.int .i64 M, .slice a2 cs.length cap2] 24)).alloc (.cells #[.int .i64 0, .slice none 0 0] 24) := ⟨_, rfl⟩
  have hj0 : JSt w W0 N M a a2 cap cap2 bs cs := by rw [hW0]; exact jst_start _ _ _ _ _ _ _ _ _
  have J0 := hidE hj0
  have HW := hidE hW0
  have H := hidE h
  have H2 := hidE h2
  have HCK := hidE (fun W hb => check_any W N a cap bs hN hl hb)
  have HRC := hidE (fun W hb => check_any W M a2 cap2 cs hM hl2 hb)
  clear hj0 hW0 h h2 hN hM
  go_enter Try.func51, Try.ntmps51
  go_upto_region 1 with fail
  rw [← HW.out]
  obtain ⟨e0, e1, e2, e3, e4, e5, e6, e7⟩ := J0.out.cells
  go_wp2_with fail
  obtain ⟨W1, hW1⟩ : ∃ W1, W1 = W0.alloc (.cells #[.int .i64 N, .slice a bs.length cap, .int .i64 M, .slice a2 cs.length cap2] 24) := ⟨_, rfl⟩
  rw [← hW1]
  have J1 := hidE (J0.out.next (by rw [hW1]; exact (Below.refl _ _).alloc (Nat.le_refl _) _ : Below W0.heap.size W0 W1))
  have XL : Hid (W1.heap[W0.heap.size]? = some (.cells #[.int .i64 N, .slice a bs.length cap, .int .i64 M, .slice a2 cs.length cap2] 24 (0,0))) := hidE (by rw [hW1]; exact heap_alloc_new _ _)
  clear hW1 e0 e1 e2 e3 e4 e5 e6 e7
  go_loopw [13] (fun t wr => ∃ k : Nat, k ≤ 2 ∧ t = .int .i64 k ∧ Hid (0 < k → checkP N bs = 0) ∧ Hid (1 < k → checkP M cs = 0) ∧ Hid (JSt w wr N M a a2 cap cap2 bs cs) ∧ Hid (wr.heap[W0.heap.size]? = some (.cells #[.int .i64 N, .slice a bs.length cap, .int .i64 M, .slice a2 cs.length cap2] 24 (0,0)))) (fun t _ => 2 - (intOf t).toNat)
  case atStart => exact ⟨0, by omega, rfl, hidE (by omega), hidE (by omega), J1, XL⟩
  case round =>
    obtain ⟨k, hk, rfl, k1, k2, J2, X2⟩ := hrel
    have hk3 : k = 0 ∨ k = 1 ∨ k = 2 := by omega
    rcases hk3 with rfl | rfl | rfl
    · have c0 : wr.cell? ⟨W0.heap.size, 0, none⟩ = some (.int .i64 N) := by rw [cell_of_row _ _ _ _ _ _ X2.out]; rfl
      have c1 : wr.cell? ⟨W0.heap.size, 1, none⟩ = some (.slice a bs.length cap) := by rw [cell_of_row _ _ _ _ _ _ X2.out]; rfl
      have hb0 : Below wr.heap.size wr (wr.alloc (.cells #[.int .i64 N, .slice a bs.length cap] 24)) := (Below.refl _ _).alloc (Nat.le_refl _) _
      have hc := HCK.out (wr.alloc (.cells #[.int .i64 N, .slice a bs.length cap] 24)) (H.out.below (J2.out.next hb0).bl (Nat.le_refl _))
      by_cases h0 : checkP N bs = 0
      · rw [h0] at hc
        have HC := hidE hc
        have H0 := hidE h0
        clear hc h0 k1 k2
        go_wp2_with fail
        refine HC.out.mono ?_
        rintro e w3 ⟨rfl, hb3⟩
        have J3 := hidE ((J2.out.next hb0).next hb3)
        have X3 := hidE (blk_below hb3 (by simp; exact Nat.lt_succ_of_lt (lt_of_block X2.out)) ((Below.heap_alloc _ _ _ (lt_of_block X2.out)).trans X2.out))
        clear hb3 c0 c1 hb0
        go_wp2_with fail
        go_roundw
        case rel => exact ⟨1, by omega, rfl, hidE (fun _ => H0.out), hidE (by omega), J3, X3⟩
        case measure => simp [intOf]
      · have hd : joinE N M bs cs = (0, [], checkP N bs) := by unfold joinE; rw [if_pos h0]
        obtain ⟨c, hcc⟩ : ∃ c, checkP N bs = c := ⟨_, rfl⟩
        rw [hcc] at hd h0 hc
        have hcb : (c != 0) = true := by simpa using h0
        have HD := hidE hd
        have HC := hidE hc
        clear hc h0 k1 k2 hcc hd
        go_wp2_with fail
        refine HC.out.mono ?_
        rintro e w3 ⟨rfl, hb3⟩
        have J3 := hidE ((J2.out.next hb0).next hb3)
        clear hb3 c0 c1 hb0
        obtain ⟨e0, e1, e2, e3, e4, e5, e6, e7⟩ := J3.out.cells
        go_wp2_with fail
        exact bodyPost_ret (v := .tuple #[.agg #[.int .i64 0, .slice none 0 0], .int .i64 c]) (by simp [results, Try.results51, go_sem, e4, e5]) rfl ⟨by rw [HD.out]; exact ⟨_, rfl, boundsOut_nil _ _⟩, J3.out.zero⟩
    · have c0 : wr.cell? ⟨W0.heap.size, 2, none⟩ = some (.int .i64 M) := by rw [cell_of_row _ _ _ _ _ _ X2.out]; rfl
      have c1 : wr.cell? ⟨W0.heap.size, 3, none⟩ = some (.slice a2 cs.length cap2) := by rw [cell_of_row _ _ _ _ _ _ X2.out]; rfl
      have hb0 : Below wr.heap.size wr (wr.alloc (.cells #[.int .i64 M, .slice a2 cs.length cap2] 24)) := (Below.refl _ _).alloc (Nat.le_refl _) _
      have hc := HRC.out (wr.alloc (.cells #[.int .i64 M, .slice a2 cs.length cap2] 24)) (H2.out.below (J2.out.next hb0).bl (Nat.le_refl _))
      have hn0 := k1.out (by omega)
      by_cases h0 : checkP M cs = 0
      · rw [h0] at hc
        have HC := hidE hc
        have H0 := hidE h0
        have HN0 := hidE hn0
        clear hc h0 k1 k2 hn0
        go_wp2_with fail
        refine HC.out.mono ?_
        rintro e w3 ⟨rfl, hb3⟩
        have J3 := hidE ((J2.out.next hb0).next hb3)
        have X3 := hidE (blk_below hb3 (by simp; exact Nat.lt_succ_of_lt (lt_of_block X2.out)) ((Below.heap_alloc _ _ _ (lt_of_block X2.out)).trans X2.out))
        clear hb3 c0 c1 hb0
        go_wp2_with fail
        go_roundw
        case rel => exact ⟨2, by omega, rfl, hidE (fun _ => HN0.out), hidE (fun _ => H0.out), J3, X3⟩
        case measure => simp [intOf]
      · have hd : joinE N M bs cs = (0, [], checkP M cs) := by unfold joinE; rw [if_neg (by simp [hn0]), if_pos h0]
        obtain ⟨c, hcc⟩ : ∃ c, checkP M cs = c := ⟨_, rfl⟩
        rw [hcc] at hd h0 hc
        have hcb : (c != 0) = true := by simpa using h0
        have HD := hidE hd
        have HC := hidE hc
        clear hc h0 k1 k2 hcc hd hn0
        go_wp2_with fail
        refine HC.out.mono ?_
        rintro e w3 ⟨rfl, hb3⟩
        have J3 := hidE ((J2.out.next hb0).next hb3)
        clear hb3 c0 c1 hb0
        obtain ⟨e0, e1, e2, e3, e4, e5, e6, e7⟩ := J3.out.cells
        go_wp2_with fail
        exact bodyPost_ret (v := .tuple #[.agg #[.int .i64 0, .slice none 0 0], .int .i64 c]) (by simp [results, Try.results51, go_sem, e4, e5]) rfl ⟨by rw [HD.out]; exact ⟨_, rfl, boundsOut_nil _ _⟩, J3.out.zero⟩
    · have hc1 := k1.out (by omega)
      have hc2 := k2.out (by omega)
      obtain ⟨n0, n1, n2, _⟩ := checkP_zero hc1
      obtain ⟨m0, m1, m2, _⟩ := checkP_zero hc2
      obtain ⟨e0, e1, e2, e3, e4, e5, e6, e7⟩ := J2.out.cells
      by_cases hnm : N = M
      · have hnb : (N != M) = false := by simpa using hnm
        have hw1 : IntKind.i64.wrap ((bs.length : Int) + (cs.length : Int)) = (bs.length : Int) + (cs.length : Int) := IntWalk.i64_in _ (by omega)
        by_cases hsz : 2000 < bs.length + cs.length
        · have hd : joinE N M bs cs = (0, [], 2) := by unfold joinE; rw [if_neg (by simp [hc1]), if_neg (by simp [hc2]), if_neg (by simp [hnm]), if_pos hsz]
          have hdd : decide ((bs.length : Int) + (cs.length : Int) > 2000) = true := by simp; omega
          have HD := hidE hd
          clear hd hc1 hc2 hnm k1 k2
          go_wp2_with fail
          exact bodyPost_ret (v := .tuple #[.agg #[.int .i64 0, .slice none 0 0], .int .i64 2]) (by simp [results, Try.results51, go_sem, e4, e5]) rfl ⟨by rw [HD.out]; exact ⟨_, rfl, boundsOut_nil _ _⟩, J2.out.zero⟩
        · have hd : joinE N M bs cs = (N, bs ++ cs, 0) := by unfold joinE; rw [if_neg (by simp [hc1]), if_neg (by simp [hc2]), if_neg (by simp [hnm]), if_neg hsz]
          have hdd : decide ((bs.length : Int) + (cs.length : Int) > 2000) = false := by simp; omega
          have HD := hidE hd
          have HA2 := hidE (H.out.below J2.out.bl (Nat.le_refl _))
          have HC2 := hidE (H2.out.below J2.out.bl (Nat.le_refl _))
          obtain ⟨w2, rfl⟩ : ∃ x : World, x = wr := ⟨wr, rfl⟩
          have l0 : w.heap.size < w2.heap.size := by omega
          have l1 : w.heap.size + 1 < w2.heap.size := by omega
          clear hd hc1 hc2 hnm k1 k2
          go_wp2_with fail
          go_region_held3 (fun w' => w'.cell? ⟨w.heap.size, 0, none⟩ = some (.int .i64 N) ∧ w'.cell? ⟨w.heap.size, 1, none⟩ = some (.slice a bs.length cap) ∧ w'.cell? ⟨w.heap.size + 1, 1, none⟩ = some (.slice a2 cs.length cap2)) (first | (exact ⟨q0, q1, q2⟩) | (exact ⟨(keep_two (w.heap.size + 1 + 1) _ (by omega) q0), (keep_two (w.heap.size + 1 + 1) _ (by omega) q1), (keep_two (w.heap.size + 1 + 1) _ (by omega) q2)⟩) | go_keep)
            (first | (go_at_call 107; refine (concat_bounds _ w2.heap.size 2 a cap bs a2 cap2 cs (by exact HA2.out.below ((Below.refl _ _).alloc (Nat.le_refl _) _).drew (Nat.le_refl _)) (by exact HC2.out.below ((Below.refl _ _).alloc (Nat.le_refl _) _).drew (Nat.le_refl _)) (by omega) (by omega) (by exact heap_alloc_new _ _)).mono ?_; rintro e wb ⟨v, rfl, ho2, hb2⟩; (obtain ⟨o3, c3, e3', _⟩ := boundsAt_of_out (l := bs ++ cs) ho2); subst e3'; (have bw2 : Below w2.heap.size w2 wb := (((Below.refl _ _).alloc (Nat.le_refl _) _).drew).trans (hb2.mono (by simp))); (have q0 : wb.cell? ⟨w.heap.size, 0, none⟩ = some (.int .i64 N) := (bw2.cell (p := ⟨w.heap.size, 0, none⟩) l0).trans e0); (have q1 : wb.cell? ⟨w.heap.size, 1, none⟩ = some (.slice a bs.length cap) := (bw2.cell (p := ⟨w.heap.size, 1, none⟩) l0).trans e1); (have q2 : wb.cell? ⟨w.heap.size + 1, 1, none⟩ = some (.slice a2 cs.length cap2) := (bw2.cell (p := ⟨w.heap.size + 1, 1, none⟩) l1).trans e3); (have t0 : wb.cell? ⟨w.heap.size + 1 + 1, 0, none⟩ = some (.int .i64 0) := (bw2.cell (p := ⟨w.heap.size + 1 + 1, 0, none⟩) e7).trans e4); (have t1 : wb.cell? ⟨w.heap.size + 1 + 1, 1, none⟩ = some (.slice none 0 0) := (bw2.cell (p := ⟨w.heap.size + 1 + 1, 1, none⟩) e7).trans e5); (have tf : ∀ i, wb.frozen? ⟨w.heap.size + 1 + 1, i, none⟩ = false := fun i => (bw2.frozen (p := ⟨w.heap.size + 1 + 1, i, none⟩) e7).trans (e6 i))))
          all_goals (go_wp2_with fail; exact bodyPost_ret (v := .tuple #[.agg #[.int .i64 N, .slice o3 (bs.length + cs.length) c3], .int .i64 0]) (by simp [results, Try.results51, go_sem, t0, t1]) rfl ⟨by rw [HD.out]; exact ⟨_, rfl, by have q := J2.out.done (u := .int .i64 N) (ownsRow_base ho2 (by simp)) rfl; simpa only [List.length_append] using q⟩, by have q := (J2.out.next bw2).after (.int .i64 N) (.slice o3 (bs ++ cs).length c3); simpa only [List.length_append] using q⟩)
      · have hnb : (N != M) = true := by simpa using hnm
        have hd : joinE N M bs cs = (0, [], 1) := by unfold joinE; rw [if_neg (by simp [hc1]), if_neg (by simp [hc2]), if_pos hnm]
        have HD := hidE hd
        clear hd hc1 hc2 hnm k1 k2
        go_wp2_with fail
        exact bodyPost_ret (v := .tuple #[.agg #[.int .i64 0, .slice none 0 0], .int .i64 1]) (by simp [results, Try.results51, go_sem, e4, e5]) rfl ⟨by rw [HD.out]; exact ⟨_, rfl, boundsOut_nil _ _⟩, J2.out.zero⟩

theorem sysPost_get {r : Int × List Bd × Int} {base : Nat} {e : Ending} {w' : World} (h : SysPost r base e w') : ∃ o c, e = .returned (.tuple #[.agg #[.int .i64 r.1, .slice o r.2.1.length c], .int .i64 r.2.2]) ∧ BoundsAt w' o r.2.1 := by
  obtain ⟨v, h1, h2⟩ := h
  obtain ⟨o, c, rfl, h3, _⟩ := boundsAt_of_out h2
  exact ⟨o, c, h1, h3⟩

set_option maxRecDepth 100000 in
set_option maxHeartbeats 4000000 in
theorem lineJoins_any (w : World) (N : Int) (a : Option Addr) (cap : Nat) (bs : List Bd) (M : Int) (a2 : Option Addr) (cap2 : Nat) (cs : List Bd) (hN : i64ok N) (hl : bs.length ≤ 9223372036854775807) (h : BoundsAt w a bs) (hM : i64ok M) (hl2 : cs.length ≤ 9223372036854775807) (h2 : BoundsAt w a2 cs) :
    Calls Try.prog 11 #[.agg #[.int .i64 N, .slice a bs.length cap], .agg #[.int .i64 M, .slice a2 cs.length cap2]] w fun e w' => e = .returned (.bool true) ∧ Below w.heap.size w w' := by
  obtain ⟨W0, hW0⟩ : ∃ W0, W0 = (w.alloc (.cells #[.int .i64 N, .slice a bs.length cap] 24)).alloc (.cells #[.int .i64 M, .slice a2 cs.length cap2] 24) := ⟨_, rfl⟩
  have b0 : Below w.heap.size w W0 := by rw [hW0]; exact ((Below.refl _ _).alloc (Nat.le_refl _) _).alloc (by simp) _
  have x0 : W0.heap[w.heap.size]? = some (.cells #[.int .i64 N, .slice a bs.length cap] 24 (0,0)) := by rw [hW0, Below.heap_alloc _ _ _ (by simp), heap_alloc_new]
  have x1 : W0.heap[w.heap.size + 1]? = some (.cells #[.int .i64 M, .slice a2 cs.length cap2] 24 (0,0)) := by rw [hW0, heap_alloc_at _ _ _ (by simp)]
  have B0 := hidE b0
  have X0 := hidE x0
  have X1 := hidE x1
  have HW := hidE hW0
  have H := hidE h
  have H2 := hidE h2
  have HJ := hidE (fun W hb hb2 => join_any W N M a a2 cap cap2 bs cs hN hM hl hl2 hb hb2)
  have HR := hidE (fun W hb hb2 => refjoin_any W N M a a2 cap cap2 bs cs hN hM hl hl2 hb hb2)
  clear b0 x0 x1 hW0 h h2 hN hM
  have e0 : W0.cell? ⟨w.heap.size, 0, none⟩ = some (.int .i64 N) := by rw [cell_of_row _ _ _ _ _ _ X0.out]; rfl
  have e1 : W0.cell? ⟨w.heap.size, 1, none⟩ = some (.slice a bs.length cap) := by rw [cell_of_row _ _ _ _ _ _ X0.out]; rfl
  have e2 : W0.cell? ⟨w.heap.size + 1, 0, none⟩ = some (.int .i64 M) := by rw [cell_of_row _ _ _ _ _ _ X1.out]; rfl
  have e3 : W0.cell? ⟨w.heap.size + 1, 1, none⟩ = some (.slice a2 cs.length cap2) := by rw [cell_of_row _ _ _ _ _ _ X1.out]; rfl
  by_cases h1 : 2005 < bs.length
  · have hd : decide ((bs.length : Int) > 2005) = true := by simp; omega
    go_enter Try.func11, Try.ntmps11
    go_upto_region 1 with fail
    rw [← HW.out]
    go_wp2_with fail
    refine (alive_any _).mono ?_
    rintro e w1 ⟨rfl, hb1⟩
    go_wp2_with fail
    go_ret
    exact ⟨rfl, B0.out.trans (hb1.mono B0.out.size)⟩
  have hd1 : decide ((bs.length : Int) > 2005) = false := by simp; omega
  by_cases h3 : 2005 < cs.length
  · have hd : decide ((cs.length : Int) > 2005) = true := by simp; omega
    go_enter Try.func11, Try.ntmps11
    go_upto_region 1 with fail
    rw [← HW.out]
    go_wp2_with fail
    refine (alive_any _).mono ?_
    rintro e w1 ⟨rfl, hb1⟩
    go_wp2_with fail
    go_ret
    exact ⟨rfl, B0.out.trans (hb1.mono B0.out.size)⟩
  have hd2 : decide ((cs.length : Int) > 2005) = false := by simp; omega
  obtain ⟨r, hr⟩ : ∃ r, joinE N M bs cs = r := ⟨_, rfl⟩
  obtain ⟨rn, rl, re⟩ := r
  have hrl : rl.length ≤ 5000 := by
    unfold joinE at hr
    split at hr
    · simp only [Prod.mk.injEq] at hr; rw [← hr.2.1]; simp
    · split at hr
      · simp only [Prod.mk.injEq] at hr; rw [← hr.2.1]; simp
      · split at hr
        · simp only [Prod.mk.injEq] at hr; rw [← hr.2.1]; simp
        · split at hr
          · simp only [Prod.mk.injEq] at hr; rw [← hr.2.1]; simp
          · simp only [Prod.mk.injEq] at hr; rw [← hr.2.1]; simp; omega
  have HRR := hidE hr
  clear hr
  go_enter Try.func11, Try.ntmps11
  go_upto_region 1 with fail
  rw [← HW.out]
  go_wp2_with fail
  refine (HJ.out W0 (H.out.below B0.out (Nat.le_refl _)) (H2.out.below B0.out (Nat.le_refl _))).mono ?_
  rintro e w1 ⟨hp, hb1⟩
  rw [HRR.out] at hp
  obtain ⟨o1, c1, rfl, hB1⟩ := sysPost_get hp
  simp only at hB1
  have y0 := blk_below hb1 (lt_of_block X0.out) X0.out
  have y1 := blk_below hb1 (lt_of_block X1.out) X1.out
  have B1 := hidE (B0.out.trans (hb1.mono B0.out.size))
  have Y0 := hidE y0
  have Y1 := hidE y1
  have HB1 := hidE hB1
  clear hp hb1 y0 y1 e0 e1 e2 e3 hB1
  simp only
  go_upto_region 4 with fail
  obtain ⟨W2, hW2⟩ : ∃ W2, W2 = w1.alloc (.cells #[.int .i64 rn, .slice o1 rl.length c1] 24) := ⟨_, rfl⟩
  rw [← hW2]
  have hb2 : Below w1.heap.size w1 W2 := by rw [hW2]; exact (Below.refl _ _).alloc (Nat.le_refl _) _
  have z5 : W2.heap[w1.heap.size]? = some (.cells #[.int .i64 rn, .slice o1 rl.length c1] 24 (0,0)) := by rw [hW2]; exact heap_alloc_new _ _
  have z0 := blk_below hb2 (lt_of_block Y0.out) Y0.out
  have z1 := blk_below hb2 (lt_of_block Y1.out) Y1.out
  have B2 := hidE (B1.out.trans (hb2.mono B1.out.size))
  have HB2 := hidE (HB1.out.below hb2 (Nat.le_refl _))
  have Z0 := hidE z0
  have Z1 := hidE z1
  have Z5 := hidE z5
  clear hW2 hb2 z0 z1 z5
  have e0 : W2.cell? ⟨w.heap.size, 0, none⟩ = some (.int .i64 N) := by rw [cell_of_row _ _ _ _ _ _ Z0.out]; rfl
  have e1 : W2.cell? ⟨w.heap.size, 1, none⟩ = some (.slice a bs.length cap) := by rw [cell_of_row _ _ _ _ _ _ Z0.out]; rfl
  have e2 : W2.cell? ⟨w.heap.size + 1, 0, none⟩ = some (.int .i64 M) := by rw [cell_of_row _ _ _ _ _ _ Z1.out]; rfl
  have e3 : W2.cell? ⟨w.heap.size + 1, 1, none⟩ = some (.slice a2 cs.length cap2) := by rw [cell_of_row _ _ _ _ _ _ Z1.out]; rfl
  go_wp2_with fail
  refine (HR.out W2 (H.out.below B2.out (Nat.le_refl _)) (H2.out.below B2.out (Nat.le_refl _))).mono ?_
  rintro e w3 ⟨hp, hb3⟩
  rw [HRR.out] at hp
  obtain ⟨o2, c2, rfl, hB3⟩ := sysPost_get hp
  simp only at hB3
  have y5 := blk_below hb3 (lt_of_block Z5.out) Z5.out
  have B3 := hidE (B2.out.trans (hb3.mono B2.out.size))
  have Y5 := hidE y5
  have HB3 := hidE (HB2.out.below hb3 (Nat.le_refl _))
  have HB3' := hidE hB3
  clear hp hb3 e0 e1 e2 e3 hB3 y5
  simp only
  go_upto_region 5 with fail
  obtain ⟨W4, hW4⟩ : ∃ W4, W4 = w3.alloc (.cells #[.int .i64 rn, .slice o2 rl.length c2] 24) := ⟨_, rfl⟩
  rw [← hW4]
  have hb4 : Below w3.heap.size w3 W4 := by rw [hW4]; exact (Below.refl _ _).alloc (Nat.le_refl _) _
  have z6 : W4.heap[w3.heap.size]? = some (.cells #[.int .i64 rn, .slice o2 rl.length c2] 24 (0,0)) := by rw [hW4]; exact heap_alloc_new _ _
  have z5 := blk_below hb4 (lt_of_block Y5.out) Y5.out
  have B4 := hidE (B3.out.trans (hb4.mono B3.out.size))
  have HB4 := hidE (HB3.out.below hb4 (Nat.le_refl _))
  have HB4' := hidE (HB3'.out.below hb4 (Nat.le_refl _))
  have Z6 := hidE z6
  have Z5' := hidE z5
  clear hW4 hb4 z5 z6
  go_wp2_with fail
  refine (alive_any _).mono ?_
  rintro e w5 ⟨rfl, hb5⟩
  have v5 := blk_below hb5 (lt_of_block Z5'.out) Z5'.out
  have v6 := blk_below hb5 (lt_of_block Z6.out) Z6.out
  have e0 : w5.cell? ⟨w1.heap.size, 0, none⟩ = some (.int .i64 rn) := by rw [cell_of_row _ _ _ _ _ _ v5]; rfl
  have e1 : w5.cell? ⟨w1.heap.size, 1, none⟩ = some (.slice o1 rl.length c1) := by rw [cell_of_row _ _ _ _ _ _ v5]; rfl
  have e2 : w5.cell? ⟨w3.heap.size, 0, none⟩ = some (.int .i64 rn) := by rw [cell_of_row _ _ _ _ _ _ v6]; rfl
  have e3 : w5.cell? ⟨w3.heap.size, 1, none⟩ = some (.slice o2 rl.length c2) := by rw [cell_of_row _ _ _ _ _ _ v6]; rfl
  have B5 := hidE (B4.out.trans (hb5.mono B4.out.size))
  have hsm := same_any w5 rn o1 c1 o2 c2 rl (by omega) (HB4.out.below hb5 (Nat.le_refl _)) (HB4'.out.below hb5 (Nat.le_refl _))
  have HSM := hidE hsm
  clear hb5 v5 v6 hsm
  go_wp2_with fail
  refine HSM.out.mono ?_
  rintro e w6 ⟨rfl, hb6⟩
  go_wp2_with fail
  go_ret
  exact ⟨rfl, B5.out.trans (hb6.mono B5.out.size)⟩

end Go.Proofs.Ytejbpoclfjkllaa
