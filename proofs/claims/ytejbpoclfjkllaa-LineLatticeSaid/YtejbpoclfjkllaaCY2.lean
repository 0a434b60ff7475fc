/- Walks: Kept, of the program and of the reference. -/
import Derived.Test.YtejbpoclfjkllaaCY1
import Derived.Test.YtejbpoclfjkllaaP2
namespace Go.Proofs.Ytejbpoclfjkllaa
open Go Go.RowKit Go.Shelf

theorem within_at {n a b : Int} {r : Bool} (h : inR n a b = r) (w : World) : Calls Try.prog 106 #[.int .i64 n, .int .i64 a, .int .i64 b] w fun e w' => e = .returned (.bool r) ∧ w = w' := by
  rw [← h]; exact within_any n a b w

theorem values1_any (w : World) (v : Int) : Calls Try.prog 141 #[.int .i64 v] w fun e w' => e = .returned (.bool (!inR v (-400000000) 400000000)) ∧ w = w' := by
  obtain ⟨r, hr⟩ : ∃ r, inR v (-400000000) 400000000 = r := ⟨_, rfl⟩
  rw [hr]
  have HR := hidE hr
  clear hr
  go_enter Try.func141, Try.ntmps141
  go_wp2_with (go_at_call 106; refine (within_at HR.out _).mono ?_; rintro e w' ⟨rfl, rfl⟩)
  go_ret
  exact ⟨rfl, rfl⟩

set_option maxHeartbeats 400000 in
theorem values_any (w : World) (N : Int) (sv : Value) (a : Option Addr) (cap : Nat) (y : List Int) (hN0 : 1 ≤ N) (hN1 : N ≤ 128) (hl : y.length ≤ 9223372036854775807) (h : IntsAt w a y) :
    Calls Try.prog 98 #[.agg #[.int .i64 N, sv], .slice a y.length cap] w fun e w' => e = .returned (.bool (valuesB N y)) ∧ Below w.heap.size w w' := by
  by_cases h1 : (y.length : Int) = N
  · have h1b : ((y.length : Int) == N) = true := by simpa using h1
    have hlt : 0 < y.length := by omega
    obtain ⟨b, off, rfl, hbl, hc⟩ := h.at hlt
    have hg : y.getD 0 0 = y[0] := getD_get y 0 hlt
    obtain ⟨v, hv⟩ : ∃ v, y[0] = v := ⟨_, rfl⟩
    rw [hv] at hc hg
    rw [Nat.add_zero] at hc
    by_cases h2 : v = 0
    · have h2b : (v == 0) = true := by simpa using h2
      have hq := containsFuncInts_any (w.alloc (.cells #[.int .i64 N, sv] 24)) (some ⟨b, off, none⟩) cap y 141 #[] (fun v => !inR v (-400000000) 400000000) hl (h.alloc _) (fun k hk W hb => (values1_any W y[k]).mono fun _ _ ⟨he, hw⟩ => ⟨he, hw ▸ Below.refl _ _⟩) (enters_of Try.func141 (by kernel_rfl) rfl)
      have hval : valuesB N y = !(y.any fun v => !inR v (-400000000) 400000000) := by unfold valuesB; rw [hg, h1]; simp [h2]
      obtain ⟨r, hr⟩ : ∃ r, (y.any fun v => !inR v (-400000000) 400000000) = r := ⟨_, rfl⟩
      rw [hr] at hq hval
      have HQ := hidE hq
      have HV := hidE hval
      clear hq hval hr hg hv h1 h2 h
      go_enter Try.func98, Try.ntmps98
      go_wp2_with fail
      refine HQ.out.mono ?_
      rintro e w1 ⟨rfl, hb1⟩
      go_wp2_with fail
      go_ret
      exact ⟨by rw [HV.out]; rfl, ((Below.refl _ _).alloc (Nat.le_refl _) _).trans (hb1.mono (by simp))⟩
    · have h2b : (v == 0) = false := by simpa using h2
      have hval : valuesB N y = false := by unfold valuesB; rw [hg]; simp [h2]
      have HV := hidE hval
      clear hval hg hv h1 h2 h
      go_enter Try.func98, Try.ntmps98
      go_wp2_with fail
      go_ret
      exact ⟨by rw [HV.out]; rfl, by go_grown⟩
  · have h1b : ((y.length : Int) == N) = false := by simpa using h1
    have hval : valuesB N y = false := by unfold valuesB; simp [h1]
    have HV := hidE hval
    clear hval h1 h
    go_enter Try.func98, Try.ntmps98
    go_wp2_with fail
    go_ret
    exact ⟨by rw [HV.out]; rfl, by go_grown⟩

set_option maxHeartbeats 400000 in
theorem kept1_any (w : World) (b : Bd) (N bl : Nat) (a : Option Addr) (cap : Nat) (y : List Int) (hb : b.valid N) (hN : y.length = N) (_hN1 : N ≤ 128) (hv : ∀ v ∈ y, -400000000 ≤ v ∧ v ≤ 400000000) (h : IntsAt w a y) (hc : w.cell? ⟨bl, 0, none⟩ = some (.slice a y.length cap)) (hbl : bl < w.heap.size) :
    Calls Try.prog 100 #[b.val, .pointer (some ⟨bl, 0, none⟩)] w fun e w' => e = .returned (.bool (keptB y b)) ∧ Below w.heap.size w w' := by
  obtain ⟨v1, v2, v3, v4, v5, v6⟩ := hb
  obtain ⟨ys, yd, ym, yr⟩ := b
  simp only at v1 v2 v3 v4 v5 v6
  obtain ⟨si, rfl⟩ := Int.eq_ofNat_of_zero_le v1
  obtain ⟨di, rfl⟩ := Int.eq_ofNat_of_zero_le v3
  have hs : si < y.length := by omega
  have hd : di < y.length := by omega
  obtain ⟨b, off, rfl, hbw, hcs⟩ := h.at hs
  obtain ⟨b', off', e', _, hcd⟩ := h.at hd
  cases e'
  have q1 := hv y[si] (List.getElem_mem _)
  have q2 := hv y[di] (List.getElem_mem _)
  have hkb : keptB y ⟨si, di, ym, yr⟩ = decide (ym < y[di] - y[si]) := by
    unfold keptB getI
    rw [decide_eq_decide]
    simp only [Int.toNat_natCast]
    rw [getD_get y 0 hs, getD_get y 0 hd]
  obtain ⟨x, hx⟩ : ∃ x, y[si] = x := ⟨_, rfl⟩
  obtain ⟨z, hz⟩ : ∃ z, y[di] = z := ⟨_, rfl⟩
  rw [hx, hz] at hkb
  rw [hx] at hcs q1
  rw [hz] at hcd q2
  have s0 : (si : Int) < y.length := by omega
  have d0 : (di : Int) < y.length := by omega
  have hw1 : IntKind.i64.wrap (z - x) = z - x := IntWalk.i64_in _ (by omega)
  have HK := hidE hkb
  have hbl1 : bl < w.heap.size + 1 := by omega
  clear hkb hx hz hN h hv hbw
  unfold Bd.val
  go_enter Try.func100, Try.ntmps100
  go_wp2_with fail
  go_quiet (fail)
  go_wp2_with fail
  go_ret
  exact ⟨by rw [HK.out]; rfl, ((Below.refl _ _).alloc (Nat.le_refl _) _).trans (below_drewN' _ _)⟩

set_option maxHeartbeats 1000000 in
theorem kept_any (w : World) (N : Int) (a : Option Addr) (cap : Nat) (bs : List Bd) (a2 : Option Addr) (cap2 : Nat) (y : List Int) (hN : i64ok N) (hl : bs.length ≤ 9223372036854775807) (hl2 : y.length ≤ 9223372036854775807) (h : BoundsAt w a bs) (h2 : IntsAt w a2 y) :
    Calls Try.prog 46 #[.agg #[.int .i64 N, .slice a bs.length cap], .slice a2 y.length cap2] w fun e w' => e = .returned (.tuple #[.int .i64 (keptE N bs y).1, .bool (keptE N bs y).2.1, .int .i64 (keptE N bs y).2.2]) ∧ Below w.heap.size w w' := by
  obtain ⟨W0, hW0⟩ : ∃ W0, W0 = (w.alloc (.cells #[.int .i64 N, .slice a bs.length cap] 24)).alloc (.cells #[.slice a2 y.length cap2] 27) := ⟨_, rfl⟩
  have b0 : Below w.heap.size w W0 := by rw [hW0]; exact ((Below.refl _ _).alloc (Nat.le_refl _) _).alloc (by simp) _
  have x0 : W0.heap[w.heap.size]? = some (.cells #[.int .i64 N, .slice a bs.length cap] 24 (0,0)) := by rw [hW0, Below.heap_alloc _ _ _ (by simp), heap_alloc_new]
  have x1 : W0.heap[w.heap.size + 1]? = some (.cells #[.slice a2 y.length cap2] 27 (0,0)) := by rw [hW0, heap_alloc_at _ _ _ (by simp)]
  have hck := check_any W0 N a cap bs hN hl (h.below b0 (Nat.le_refl _))
  by_cases hc : checkP N bs = 0
  · obtain ⟨n0, n1, n2, nv⟩ := checkP_zero hc
    rw [hc] at hck
    have HCK := hidE hck
    have H := hidE h
    have H2 := hidE h2
    have X0 := hidE x0
    have X1 := hidE x1
    have B0 := hidE b0
    have HW := hidE hW0
    have HC := hidE hc
    have NV := hidE nv
    clear hck h h2 x0 x1 b0 hW0 hc nv hN
    go_enter Try.func46, Try.ntmps46
    go_upto_region 1 with fail
    rw [← HW.out]
    have e0 : W0.cell? ⟨w.heap.size, 0, none⟩ = some (.int .i64 N) := by rw [cell_of_row _ _ _ _ _ _ X0.out]; rfl
    have e1 : W0.cell? ⟨w.heap.size, 1, none⟩ = some (.slice a bs.length cap) := by rw [cell_of_row _ _ _ _ _ _ X0.out]; rfl
    go_wp2_with fail
    refine HCK.out.mono ?_
    rintro e w1 ⟨rfl, hb1⟩
    have y0 := blk_below hb1 (lt_of_block X0.out) X0.out
    have y1 := blk_below hb1 (lt_of_block X1.out) X1.out
    have B1 := B0.out.trans (hb1.mono B0.out.size)
    have hva := values_any w1 N (.slice a bs.length cap) a2 cap2 y n0 n1 hl2 (H2.out.below B1 (Nat.le_refl _))
    have Y0 := hidE y0
    have Y1 := hidE y1
    have HB1 := hidE B1
    have HVA := hidE hva
    have f0 : w1.cell? ⟨w.heap.size, 0, none⟩ = some (.int .i64 N) := by rw [cell_of_row _ _ _ _ _ _ Y0.out]; rfl
    have f1 : w1.cell? ⟨w.heap.size, 1, none⟩ = some (.slice a bs.length cap) := by rw [cell_of_row _ _ _ _ _ _ Y0.out]; rfl
    have f2 : w1.cell? ⟨w.heap.size + 1, 0, none⟩ = some (.slice a2 y.length cap2) := cell_of_one Y1.out
    clear y0 y1 B1 hb1 hva e0 e1
    go_wp2_with fail
    refine HVA.out.mono ?_
    rintro e w2 ⟨rfl, hb2⟩
    have z0 := blk_below hb2 (lt_of_block Y0.out) Y0.out
    have z1 := blk_below hb2 (lt_of_block Y1.out) Y1.out
    have B2 := HB1.out.trans (hb2.mono HB1.out.size)
    have Z0 := hidE z0
    have Z1 := hidE z1
    have HB2 := hidE B2
    clear z0 z1 B2 hb2 f0 f1 f2
    cases hvb : valuesB N y with
    | false =>
      have hk : keptE N bs y = (0, false, 1) := by unfold keptE; rw [if_neg (by simp [HC.out]), if_pos hvb]
      have HK := hidE hk
      clear hvb hk
      go_wp2_with fail
      go_ret3
      exact ⟨by rw [HK.out]; rfl, HB2.out⟩
    | true =>
      have hk : keptE N bs y = (max (idxOf (keptB y) bs) 0, decide (idxOf (keptB y) bs < 0), 0) := by unfold keptE; rw [if_neg (by simp [HC.out]), if_neg (by rw [hvb]; simp)]
      obtain ⟨R, rfl⟩ := Int.eq_ofNat_of_zero_le (show 0 ≤ N by omega)
      obtain ⟨q1, q2, q3⟩ := valuesB_iff.1 hvb
      have e0 : w2.cell? ⟨w.heap.size, 0, none⟩ = some (.int .i64 (R : Int)) := by rw [cell_of_row _ _ _ _ _ _ Z0.out]; rfl
      have e1 : w2.cell? ⟨w.heap.size, 1, none⟩ = some (.slice a bs.length cap) := by rw [cell_of_row _ _ _ _ _ _ Z0.out]; rfl
      have l1 := lt_of_block Z1.out
      have hidx := indexFuncBounds_any w2 a cap bs 100 #[.pointer (some ⟨w.heap.size + 1, 0, none⟩)] (· < w2.heap.size) (keptB y) hl (H.out.below HB2.out (Nat.le_refl _)) (fun b hb => hb)
        (fun k hk W hkp => kept1_any W bs[k] R (w.heap.size + 1) a2 cap2 y (NV.out _ (List.getElem_mem _)).1 q1 (by omega) q3 ((H2.out.below HB2.out (Nat.le_refl _)).kept (fun b hb => hkp.same b hb) hkp.size) ((hkp.cell (by show w.heap.size + 1 < _; exact l1)).trans (cell_of_one Z1.out)) (Nat.lt_of_lt_of_le l1 hkp.size))
        (enters_of Try.func100 (by kernel_rfl) rfl)
      obtain ⟨ix, hix⟩ : ∃ x, idxOf (keptB y) bs = x := ⟨_, rfl⟩
      rw [hix] at hidx hk
      have HI := hidE hidx
      have HK := hidE hk
      clear hvb hk hidx hix q1 q2 q3
      go_wp2_with fail
      refine HI.out.mono ?_
      rintro e w3 ⟨rfl, hb3⟩
      have HB3 := hidE (HB2.out.trans (hb3.mono HB2.out.size))
      clear hb3 e0 e1
      go_wp2_with fail
      go_ret3
      exact ⟨by rw [HK.out]; rfl, HB3.out⟩
  · have hk : keptE N bs y = (0, false, checkP N bs) := by unfold keptE; rw [if_pos hc]
    obtain ⟨c, hcc⟩ : ∃ c, checkP N bs = c := ⟨_, rfl⟩
    rw [hcc] at hk hc hck
    have hc2 : (c != 0) = true := by simpa using hc
    have HCK := hidE hck
    have HK := hidE hk
    have X0 := hidE x0
    have B0 := hidE b0
    have HW := hidE hW0
    clear hck hk hc hcc h h2 hN x0 x1 b0 hW0
    go_enter Try.func46, Try.ntmps46
    go_upto_region 1 with fail
    rw [← HW.out]
    have e0 : W0.cell? ⟨w.heap.size, 0, none⟩ = some (.int .i64 N) := by rw [cell_of_row _ _ _ _ _ _ X0.out]; rfl
    have e1 : W0.cell? ⟨w.heap.size, 1, none⟩ = some (.slice a bs.length cap) := by rw [cell_of_row _ _ _ _ _ _ X0.out]; rfl
    go_wp2_with fail
    refine HCK.out.mono ?_
    rintro e w1 ⟨rfl, hb1⟩
    clear e0 e1
    go_wp2_with fail
    go_ret3
    exact ⟨by rw [HK.out]; rfl, B0.out.trans (hb1.mono B0.out.size)⟩

end Go.Proofs.Ytejbpoclfjkllaa
