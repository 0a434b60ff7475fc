/- Walks: Same at equal systems; the reference's Join. -/
import Derived.Test.YtejbpoclfjkllaaCY1
namespace Go.Proofs.Ytejbpoclfjkllaa
open Go Go.RowKit Go.Shelf

set_option maxRecDepth 100000 in
set_option maxHeartbeats 1000000 in
theorem same_any (w : World) (N : Int) (a : Option Addr) (cap : Nat) (a2 : Option Addr) (cap2 : Nat) (bs : List Bd) (hl : bs.length ≤ 9223372036854775807) (h : BoundsAt w a bs) (h2 : BoundsAt w a2 bs) :
    Calls Try.prog 53 #[.agg #[.int .i64 N, .slice a bs.length cap], .agg #[.int .i64 N, .slice a2 bs.length cap2]] w fun e w' => e = .returned (.bool true) ∧ Below w.heap.size w w' := by
  have H := hidE h
  have H2 := hidE h2
  clear h h2
  go_enter Try.func53, Try.ntmps53
  go_wp2_with fail
  go_loopw [5] (fun i wr => ∃ k : Nat, k ≤ bs.length ∧ i = .int .i64 k ∧ Hid (wr.heap[w.heap.size]? = some (.cells #[.int .i64 N, .slice a bs.length cap] 24 (0,0))) ∧ Hid (wr.heap[w.heap.size + 1]? = some (.cells #[.int .i64 N, .slice a2 bs.length cap2] 24 (0,0))) ∧ Below w.heap.size w wr) (fun i _ => bs.length - (intOf i).toNat)
  case atStart => exact ⟨0, by omega, rfl, hidE (by rw [Below.heap_alloc _ _ _ (by simp), heap_alloc_new]), hidE (heap_alloc_at _ _ _ (by simp)), by go_grown⟩
  case round =>
    obtain ⟨k, hk, rfl, X1, X2, hb⟩ := hrel
    have c1 : wr.cell? ⟨w.heap.size, 1, none⟩ = some (.slice a bs.length cap) := by rw [cell_of_row _ _ _ _ _ _ X1.out]; rfl
    have c2 : wr.cell? ⟨w.heap.size + 1, 1, none⟩ = some (.slice a2 bs.length cap2) := by rw [cell_of_row _ _ _ _ _ _ X2.out]; rfl
    by_cases hlt : k < bs.length
    · obtain ⟨b, off, rfl, hbl, hcs⟩ := H.out.at hlt
      obtain ⟨b2, off2, rfl, hbl2, hcs2⟩ := H2.out.at hlt
      obtain ⟨d0, d1, d2, d3⟩ := hcs.below hb hbl
      obtain ⟨f0, f1, f2, f3⟩ := hcs2.below hb hbl2
      obtain ⟨x, hx⟩ : ∃ x, bs[k] = x := ⟨_, rfl⟩
      rw [hx] at d0 d1 d2 d3 f0 f1 f2 f3
      obtain ⟨xs, xd, xm, xr⟩ := x
      simp only at d0 d1 d2 d3 f0 f1 f2 f3
      clear hcs hcs2 hx
      go_wp2_with fail
      go_quiet (fail)
      go_wp2_with fail
      go_roundw
      case rel => exact ⟨k + 1, by omega, by go_num, X1, X2, hb.trans (below_drewN' _ _)⟩
      case measure => simp [intOf]; omega
    · go_wp2_with fail
      go_ret
      exact ⟨rfl, hb⟩

/-- Join: the number of points, the bounds, the error. -/
def joinE (N M : Int) (bs cs : List Bd) : Int × List Bd × Int :=
  if checkP N bs ≠ 0 then (0, [], checkP N bs) else if checkP M cs ≠ 0 then (0, [], checkP M cs) else if N ≠ M then (0, [], 1) else if 2000 < bs.length + cs.length then (0, [], 2) else (N, bs ++ cs, 0)

/-- What a function owes that hands back a system and an error. -/
def SysPost (r : Int × List Bd × Int) (base : Nat) (e : Ending) (w' : World) : Prop := ∃ v, e = .returned (.tuple #[.agg #[.int .i64 r.1, v], .int .i64 r.2.2]) ∧ BoundsOut r.2.1 base v w'

theorem boundsOut_nil (base : Nat) (w : World) : BoundsOut [] base (.slice none 0 0) w := World.ownsRow_nil _ _ _ _

/-- A block that holds a system. -/
theorem sys_set {W : World} {q : Nat} {N : Int} {v : Value} {u0 u1 : Value} (h : W.heap[q]? = some (.cells #[u0, u1] 24 (0,0))) : ((W.setCell ⟨q, 0, none⟩ (.int .i64 N)).setCell ⟨q, 1, none⟩ v).heap[q]? = some (.cells #[.int .i64 N, v] 24 (0,0)) :=
  (heap_setCell_same _ _ _ _ _ _ (heap_setCell_same _ _ _ _ _ _ h)).trans rfl

/-- What stands at the head of the two functions Join: the two systems, and the result. -/
structure JSt (w W : World) (N M : Int) (a a2 : Option Addr) (cap cap2 : Nat) (bs cs : List Bd) : Prop where
  x0 : W.heap[w.heap.size]? = some (.cells #[.int .i64 N, .slice a bs.length cap] 24 (0,0))
  x1 : W.heap[w.heap.size + 1]? = some (.cells #[.int .i64 M, .slice a2 cs.length cap2] 24 (0,0))
  x2 : W.heap[w.heap.size + 1 + 1]? = some (.cells #[.int .i64 0, .slice none 0 0] 24 (0,0))
  bl : Below w.heap.size w W

theorem jst_start (w : World) (N M : Int) (a a2 : Option Addr) (cap cap2 : Nat) (bs cs : List Bd) :
    JSt w (((w.alloc (.cells #[.int .i64 N, .slice a bs.length cap] 24)).alloc (.cells #[.int .i64 M, .slice a2 cs.length cap2] 24)).alloc (.cells #[.int .i64 0, .slice none 0 0] 24)) N M a a2 cap cap2 bs cs :=
  ⟨by rw [Below.heap_alloc _ _ _ (by simp; omega), Below.heap_alloc _ _ _ (by simp), heap_alloc_new], by rw [Below.heap_alloc _ _ _ (by simp), heap_alloc_at _ _ _ (by simp)], heap_alloc_at _ _ _ (by simp), (((Below.refl _ _).alloc (Nat.le_refl _) _).alloc (by simp) _).alloc (by simp; omega) _⟩

theorem JSt.next {w W W' : World} {N M : Int} {a a2 : Option Addr} {cap cap2 : Nat} {bs cs : List Bd} (h : JSt w W N M a a2 cap cap2 bs cs) (hb : Below W.heap.size W W') : JSt w W' N M a a2 cap cap2 bs cs :=
  ⟨blk_below hb (lt_of_block h.x0) h.x0, blk_below hb (lt_of_block h.x1) h.x1, blk_below hb (lt_of_block h.x2) h.x2, h.bl.trans (hb.mono h.bl.size)⟩

theorem JSt.cells {w W : World} {N M : Int} {a a2 : Option Addr} {cap cap2 : Nat} {bs cs : List Bd} (h : JSt w W N M a a2 cap cap2 bs cs) :
    W.cell? ⟨w.heap.size, 0, none⟩ = some (.int .i64 N) ∧ W.cell? ⟨w.heap.size, 1, none⟩ = some (.slice a bs.length cap) ∧ W.cell? ⟨w.heap.size + 1, 0, none⟩ = some (.int .i64 M) ∧ W.cell? ⟨w.heap.size + 1, 1, none⟩ = some (.slice a2 cs.length cap2) ∧
    W.cell? ⟨w.heap.size + 1 + 1, 0, none⟩ = some (.int .i64 0) ∧ W.cell? ⟨w.heap.size + 1 + 1, 1, none⟩ = some (.slice none 0 0) ∧ (∀ i, W.frozen? ⟨w.heap.size + 1 + 1, i, none⟩ = false) ∧ w.heap.size + 1 + 1 < W.heap.size :=
  ⟨by rw [cell_of_row _ _ _ _ _ _ h.x0]; rfl, by rw [cell_of_row _ _ _ _ _ _ h.x0]; rfl, by rw [cell_of_row _ _ _ _ _ _ h.x1]; rfl, by rw [cell_of_row _ _ _ _ _ _ h.x1]; rfl, by rw [cell_of_row _ _ _ _ _ _ h.x2]; rfl, by rw [cell_of_row _ _ _ _ _ _ h.x2]; rfl, fun i => frozen_of_row _ _ _ _ _ h.x2, lt_of_block h.x2⟩

/-- The end where nothing is handed back but an error. -/
theorem JSt.zero {w W : World} {N M : Int} {a a2 : Option Addr} {cap cap2 : Nat} {bs cs : List Bd} (h : JSt w W N M a a2 cap cap2 bs cs) : Below w.heap.size w ((W.setCell ⟨w.heap.size + 1 + 1, 0, none⟩ (.int .i64 0)).setCell ⟨w.heap.size + 1 + 1, 1, none⟩ (.slice none 0 0)) :=
  (h.bl.setCell (by simp; omega) _).setCell (by simp; omega) _

/-- The end where a system is handed back. -/
theorem JSt.done {w W W2 : World} {N M : Int} {a a2 : Option Addr} {cap cap2 : Nat} {bs cs : List Bd} (h : JSt w W N M a a2 cap cap2 bs cs) {n : Nat} {l : List Bd} {u v : Value} (ho : W2.ownsRow W.heap.size 44 4 v n (flat l)) (hn : n = l.length) :
    BoundsOut l w.heap.size v ((W2.setCell ⟨w.heap.size + 1 + 1, 0, none⟩ u).setCell ⟨w.heap.size + 1 + 1, 1, none⟩ v) := by
  subst hn
  have hl := lt_of_block h.x2
  exact ownsRow_base (ownsRow_setCell_below (ownsRow_setCell_below ho hl _) hl _) h.bl.size
theorem JSt.after {w W : World} {N M : Int} {a a2 : Option Addr} {cap cap2 : Nat} {bs cs : List Bd} (h : JSt w W N M a a2 cap cap2 bs cs) (u v : Value) : Below w.heap.size w ((W.setCell ⟨w.heap.size + 1 + 1, 0, none⟩ u).setCell ⟨w.heap.size + 1 + 1, 1, none⟩ v) :=
  (h.bl.setCell (by simp; omega) _).setCell (by simp; omega) _

set_option maxRecDepth 100000 in
set_option maxHeartbeats 4000000 in
theorem refjoin_any (w : World) (N M : Int) (a a2 : Option Addr) (cap cap2 : Nat) (bs cs : List Bd) (hN : i64ok N) (hM : i64ok M) (hl : bs.length ≤ 9223372036854775807) (hl2 : cs.length ≤ 9223372036854775807) (h : BoundsAt w a bs) (h2 : BoundsAt w a2 cs) :
    Calls Try.prog 52 #[.agg #[.int .i64 N, .slice a bs.length cap], .agg #[.int .i64 M, .slice a2 cs.length cap2]] w fun e w' => SysPost (joinE N M bs cs) w.heap.size e w' ∧ Below w.heap.size w w' := by
  obtain ⟨W0, hW0⟩ : ∃ W0, W0 = ((w.alloc (.cells #[.int .i64 N, .slice a bs.length cap] 24)).alloc (.cells #[.int .i64 M, .slice a2 cs.length cap2] 24)).alloc (.cells #[.int .i64 0, .slice none 0 0] 24) := ⟨_, rfl⟩
  have hj0 : JSt w W0 N M a a2 cap cap2 bs cs := by rw [hW0]; exact jst_start _ _ _ _ _ _ _ _ _
  have J0 := hidE hj0
  have HW := hidE hW0
  have H := hidE h
  have H2 := hidE h2
  have hck := refcheck_any W0 N a cap bs hN hl (h.below hj0.bl (Nat.le_refl _))
  have hrc2 := fun W hb => refcheck_any W M a2 cap2 cs hM hl2 hb
  clear hj0 hW0 h h2 hN hM
  by_cases hc1 : checkP N bs = 0
  · rw [hc1] at hck
    obtain ⟨n0, n1, n2, _⟩ := checkP_zero hc1
    by_cases hc2 : checkP M cs = 0
    · rw [hc2] at hrc2
      obtain ⟨m0, m1, m2, _⟩ := checkP_zero hc2
      by_cases hnm : N = M
      · have hnb : (N != M) = false := by simpa using hnm
        have hw1 : IntKind.i64.wrap ((bs.length : Int) + (cs.length : Int)) = (bs.length : Int) + (cs.length : Int) := IntWalk.i64_in _ (by omega)
        by_cases hsz : 2000 < bs.length + cs.length
        · have hd : joinE N M bs cs = (0, [], 2) := by unfold joinE; rw [if_neg (by simp [hc1]), if_neg (by simp [hc2]), if_neg (by simp [hnm]), if_pos hsz]
          have hdd : decide ((bs.length : Int) + (cs.length : Int) > 2000) = true := by simp; omega
          have HD := hidE hd
          have HCK := hidE hck
          have HRC := hidE hrc2
          clear hd hck hrc2 hc1 hc2 hnm
          go_enter Try.func52, Try.ntmps52
          go_upto_region 1 with fail
          rw [← HW.out]
          obtain ⟨e0, e1, e2, e3, e4, e5, e6, e7⟩ := J0.out.cells
          go_wp2_with fail
          refine HCK.out.mono ?_
          rintro e w1 ⟨rfl, hb1⟩
          have J1 := hidE (J0.out.next hb1)
          clear e0 e1 e2 e3 e4 e5 e6 e7 hb1
          obtain ⟨e0, e1, e2, e3, e4, e5, e6, e7⟩ := J1.out.cells
          go_wp2_with fail
          refine (HRC.out w1 (H2.out.below J1.out.bl (Nat.le_refl _))).mono ?_
          rintro e w2 ⟨rfl, hb2⟩
          have J2 := hidE (J1.out.next hb2)
          clear e0 e1 e2 e3 e4 e5 e6 e7 hb2
          obtain ⟨e0, e1, e2, e3, e4, e5, e6, e7⟩ := J2.out.cells
          go_wp2_with fail
          exact bodyPost_ret (v := .tuple #[.agg #[.int .i64 0, .slice none 0 0], .int .i64 2]) (by simp [results, Try.results52, go_sem, e4, e5]) rfl ⟨by rw [HD.out]; exact ⟨_, rfl, boundsOut_nil _ _⟩, J2.out.zero⟩
        · have hd : joinE N M bs cs = (N, bs ++ cs, 0) := by unfold joinE; rw [if_neg (by simp [hc1]), if_neg (by simp [hc2]), if_neg (by simp [hnm]), if_neg hsz]
          have hdd : decide ((bs.length : Int) + (cs.length : Int) > 2000) = false := by simp; omega
          have HD := hidE hd
          have HCK := hidE hck
          have HRC := hidE hrc2
          clear hd hck hrc2 hc1 hc2 hnm
          go_enter Try.func52, Try.ntmps52
          go_upto_region 1 with fail
          rw [← HW.out]
          obtain ⟨e0, e1, e2, e3, e4, e5, e6, e7⟩ := J0.out.cells
          go_wp2_with fail
          refine HCK.out.mono ?_
          rintro e w1 ⟨rfl, hb1⟩
          have J1 := hidE (J0.out.next hb1)
          clear e0 e1 e2 e3 e4 e5 e6 e7 hb1
          obtain ⟨e0, e1, e2, e3, e4, e5, e6, e7⟩ := J1.out.cells
          go_wp2_with fail
          refine (HRC.out w1 (H2.out.below J1.out.bl (Nat.le_refl _))).mono ?_
          rintro e w2 ⟨rfl, hb2⟩
          have J2 := hidE (J1.out.next hb2)
          clear e0 e1 e2 e3 e4 e5 e6 e7 hb2
          obtain ⟨e0, e1, e2, e3, e4, e5, e6, e7⟩ := J2.out.cells
          have HA2 := hidE (H.out.below J2.out.bl (Nat.le_refl _))
          have HC2 := hidE (H2.out.below J2.out.bl (Nat.le_refl _))
          have l0 : w.heap.size < w2.heap.size := by omega
          have l1 : w.heap.size + 1 < w2.heap.size := by omega
          go_wp2_with fail
          go_region_held3 (fun w' => w'.cell? ⟨w.heap.size, 0, none⟩ = some (.int .i64 N) ∧ w'.cell? ⟨w.heap.size, 1, none⟩ = some (.slice a bs.length cap) ∧ w'.cell? ⟨w.heap.size + 1, 1, none⟩ = some (.slice a2 cs.length cap2)) (first | (exact ⟨q0, q1, q2⟩) | (exact ⟨s0, s1, s2⟩) | (exact ⟨(keep_two (w.heap.size + 1 + 1) _ (by omega) q0), (keep_two (w.heap.size + 1 + 1) _ (by omega) q1), (keep_two (w.heap.size + 1 + 1) _ (by omega) q2)⟩) | go_keep)
            (first
              | (refine step_append_bounds rfl (.tmp 36) (.tmp 38) rfl w2.heap.size (.slice (some ⟨_, 0, none⟩) 0 0) [] rfl ?_ _ _ bs rfl ?_ (by simp) (by omega) ?_ ?_; (exact owns_empty (heap_alloc_new _ _) (Nat.le_refl _)); (exact HA2.out.below ((Below.refl _ _).alloc (Nat.le_refl _) _).drew (Nat.le_refl _)); (focus (simp; done)); intro A1 n1 k1 wa ho1 hb1 hk1; (have bw : Below w2.heap.size w2 wa := (((Below.refl _ _).alloc (Nat.le_refl _) _).drew).trans hb1); (have s0 : wa.cell? ⟨w.heap.size, 0, none⟩ = some (.int .i64 N) := (bw.cell (p := ⟨w.heap.size, 0, none⟩) l0).trans e0); (have s1 : wa.cell? ⟨w.heap.size, 1, none⟩ = some (.slice a bs.length cap) := (bw.cell (p := ⟨w.heap.size, 1, none⟩) l0).trans e1); (have s2 : wa.cell? ⟨w.heap.size + 1, 1, none⟩ = some (.slice a2 cs.length cap2) := (bw.cell (p := ⟨w.heap.size + 1, 1, none⟩) l1).trans e3))
              | (refine step_append_bounds rfl (.tmp 39) (.tmp 41) rfl w2.heap.size (.slice A1 n1 k1) bs rfl ?_ _ _ cs rfl ?_ (by omega) (by omega) ?_ ?_; (exact ho1); (exact HC2.out.below bw (Nat.le_refl _)); (exact bw.size); intro A2 n2 k2 wb ho2 hb2 hk2; (have bw2 : Below w2.heap.size w2 wb := bw.trans hb2); (have q0 : wb.cell? ⟨w.heap.size, 0, none⟩ = some (.int .i64 N) := (bw2.cell (p := ⟨w.heap.size, 0, none⟩) l0).trans e0); (have q1 : wb.cell? ⟨w.heap.size, 1, none⟩ = some (.slice a bs.length cap) := (bw2.cell (p := ⟨w.heap.size, 1, none⟩) l0).trans e1); (have q2 : wb.cell? ⟨w.heap.size + 1, 1, none⟩ = some (.slice a2 cs.length cap2) := (bw2.cell (p := ⟨w.heap.size + 1, 1, none⟩) l1).trans e3); (have t0 : wb.cell? ⟨w.heap.size + 1 + 1, 0, none⟩ = some (.int .i64 0) := (bw2.cell (p := ⟨w.heap.size + 1 + 1, 0, none⟩) e7).trans e4); (have t1 : wb.cell? ⟨w.heap.size + 1 + 1, 1, none⟩ = some (.slice none 0 0) := (bw2.cell (p := ⟨w.heap.size + 1 + 1, 1, none⟩) e7).trans e5); (have tf : ∀ i, wb.frozen? ⟨w.heap.size + 1 + 1, i, none⟩ = false := fun i => (bw2.frozen (p := ⟨w.heap.size + 1 + 1, i, none⟩) e7).trans (e6 i))))
          all_goals (go_wp2_with fail; exact bodyPost_ret (v := .tuple #[.agg #[.int .i64 N, .slice A2 n2 k2], .int .i64 0]) (by simp [results, Try.results52, go_sem, t0, t1]) rfl ⟨by rw [HD.out]; exact ⟨_, rfl, J2.out.done ho2 rfl⟩, (J2.out.next bw2).after _ _⟩)
      · have hnb : (N != M) = true := by simpa using hnm
        have hd : joinE N M bs cs = (0, [], 1) := by unfold joinE; rw [if_neg (by simp [hc1]), if_neg (by simp [hc2]), if_pos hnm]
        have HD := hidE hd
        have HCK := hidE hck
        have HRC := hidE hrc2
        clear hd hck hrc2 hc1 hc2 hnm
        go_enter Try.func52, Try.ntmps52
        go_upto_region 1 with fail
        rw [← HW.out]
        obtain ⟨e0, e1, e2, e3, e4, e5, e6, e7⟩ := J0.out.cells
        go_wp2_with fail
        refine HCK.out.mono ?_
        rintro e w1 ⟨rfl, hb1⟩
        have J1 := hidE (J0.out.next hb1)
        clear e0 e1 e2 e3 e4 e5 e6 e7 hb1
        obtain ⟨e0, e1, e2, e3, e4, e5, e6, e7⟩ := J1.out.cells
        go_wp2_with fail
        refine (HRC.out w1 (H2.out.below J1.out.bl (Nat.le_refl _))).mono ?_
        rintro e w2 ⟨rfl, hb2⟩
        have J2 := hidE (J1.out.next hb2)
        clear e0 e1 e2 e3 e4 e5 e6 e7 hb2
        obtain ⟨e0, e1, e2, e3, e4, e5, e6, e7⟩ := J2.out.cells
        go_wp2_with fail
        exact bodyPost_ret (v := .tuple #[.agg #[.int .i64 0, .slice none 0 0], .int .i64 1]) (by simp [results, Try.results52, go_sem, e4, e5]) rfl ⟨by rw [HD.out]; exact ⟨_, rfl, boundsOut_nil _ _⟩, J2.out.zero⟩
    · have hd : joinE N M bs cs = (0, [], checkP M cs) := by unfold joinE; rw [if_neg (by simp [hc1]), if_pos hc2]
      obtain ⟨c, hcc⟩ : ∃ c, checkP M cs = c := ⟨_, rfl⟩
      rw [hcc] at hd hc2 hrc2
      have hcb : (c != 0) = true := by simpa using hc2
      have HD := hidE hd
      have HCK := hidE hck
      have HRC := hidE hrc2
      clear hd hck hrc2 hc1 hc2 hcc
      go_enter Try.func52, Try.ntmps52
      go_upto_region 1 with fail
      rw [← HW.out]
      obtain ⟨e0, e1, e2, e3, e4, e5, e6, e7⟩ := J0.out.cells
      go_wp2_with fail
      refine HCK.out.mono ?_
      rintro e w1 ⟨rfl, hb1⟩
      have J1 := hidE (J0.out.next hb1)
      clear e0 e1 e2 e3 e4 e5 e6 e7 hb1
      obtain ⟨e0, e1, e2, e3, e4, e5, e6, e7⟩ := J1.out.cells
      go_wp2_with fail
      refine (HRC.out w1 (H2.out.below J1.out.bl (Nat.le_refl _))).mono ?_
      rintro e w2 ⟨rfl, hb2⟩
      have J2 := hidE (J1.out.next hb2)
      clear e0 e1 e2 e3 e4 e5 e6 e7 hb2
      obtain ⟨e0, e1, e2, e3, e4, e5, e6, e7⟩ := J2.out.cells
      go_wp2_with fail
      exact bodyPost_ret (v := .tuple #[.agg #[.int .i64 0, .slice none 0 0], .int .i64 c]) (by simp [results, Try.results52, go_sem, e4, e5]) rfl ⟨by rw [HD.out]; exact ⟨_, rfl, boundsOut_nil _ _⟩, J2.out.zero⟩
  · have hd : joinE N M bs cs = (0, [], checkP N bs) := by unfold joinE; rw [if_pos hc1]
    obtain ⟨c, hcc⟩ : ∃ c, checkP N bs = c := ⟨_, rfl⟩
    rw [hcc] at hd hc1 hck
    have hcb : (c != 0) = true := by simpa using hc1
    have HD := hidE hd
    have HCK := hidE hck
    clear hd hck hrc2 hc1 hcc
    go_enter Try.func52, Try.ntmps52
    go_upto_region 1 with fail
    rw [← HW.out]
    obtain ⟨e0, e1, e2, e3, e4, e5, e6, e7⟩ := J0.out.cells
    go_wp2_with fail
    refine HCK.out.mono ?_
    rintro e w1 ⟨rfl, hb1⟩
    have J1 := hidE (J0.out.next hb1)
    clear e0 e1 e2 e3 e4 e5 e6 e7 hb1
    obtain ⟨e0, e1, e2, e3, e4, e5, e6, e7⟩ := J1.out.cells
    go_wp2_with fail
    exact bodyPost_ret (v := .tuple #[.agg #[.int .i64 0, .slice none 0 0], .int .i64 c]) (by simp [results, Try.results52, go_sem, e4, e5]) rfl ⟨by rw [HD.out]; exact ⟨_, rfl, boundsOut_nil _ _⟩, J1.out.zero⟩

end Go.Proofs.Ytejbpoclfjkllaa
