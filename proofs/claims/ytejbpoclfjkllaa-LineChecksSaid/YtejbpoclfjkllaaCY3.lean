/- Walks: the reference's Values, broken, Kept. -/
import Derived.Test.YtejbpoclfjkllaaCY2
namespace Go.Proofs.Ytejbpoclfjkllaa
open Go Go.RowKit Go.Shelf

set_option maxHeartbeats 1000000 in
theorem refvalues_any (w : World) (N : Int) (sv : Value) (a : Option Addr) (cap : Nat) (y : List Int) (hN0 : 1 ≤ N) (hl : y.length ≤ 9223372036854775807) (h : IntsAt w a y) :
    Calls Try.prog 101 #[.agg #[.int .i64 N, sv], .slice a y.length cap] w fun e w' => e = .returned (.bool (valuesB N y)) ∧ Below w.heap.size w w' := by
  by_cases h1 : (y.length : Int) = N
  · have h1b : ((y.length : Int) != N) = false := by simpa using h1
    have h1c : ((y.length : Int) == 0) = false := beq_eq_false_iff_ne.2 (by omega)
    have hlt : 0 < y.length := by omega
    obtain ⟨b, off, rfl, hbl, hc⟩ := h.at hlt
    have hg : y.getD 0 0 = y[0] := getD_get y 0 hlt
    obtain ⟨v, hv⟩ : ∃ v, y[0] = v := ⟨_, rfl⟩
    rw [hv] at hc hg
    rw [Nat.add_zero] at hc
    by_cases h2 : v = 0
    · have h2b : (v != 0) = false := by simpa using h2
      have hval : valuesB N y = !(y.any fun v => !inR v (-400000000) 400000000) := by unfold valuesB; rw [hg, h1]; simp [h2]
      have HV := hidE hval
      have H := hidE h
      have HH1 := hidE h1
      clear hval hg hv h2 h h1
      go_enter Try.func101, Try.ntmps101
      go_wp2_with fail
      go_loopw [5] (fun i wr => ∃ k : Nat, k ≤ y.length ∧ i = .int .i64 k ∧ Hid ((y.take k).any (fun v => !inR v (-400000000) 400000000) = false) ∧ Below w.heap.size w wr) (fun i _ => y.length - (intOf i).toNat)
      case atStart => exact ⟨0, by omega, rfl, hidE rfl, by go_grown⟩
      case round =>
        obtain ⟨k, hk, rfl, HA, hb⟩ := hrel
        clear hc
        by_cases hlt2 : k < y.length
        · obtain ⟨b', off', e', _, hck⟩ := (H.out.below hb (Nat.le_refl _)).at hlt2
          cases e'
          obtain ⟨x, hx⟩ : ∃ x, y[k] = x := ⟨_, rfl⟩
          rw [hx] at hck
          obtain ⟨r, hr⟩ : ∃ r, inR x (-400000000) 400000000 = r := ⟨_, rfl⟩
          have HX := hidE hx
          have HR := hidE hr
          clear hx hr
          cases r with
          | false =>
            have hq := any_of_at (p := fun v => !inR v (-400000000) 400000000) hlt2 (by rw [HX.out, HR.out]; rfl)
            have HQ := hidE hq
            clear hq
            go_wp2_with (go_at_call 104; refine (refwithin_at HR.out _).mono ?_; rintro e w' ⟨rfl, rfl⟩)
            go_ret
            exact ⟨by rw [HV.out, HQ.out]; rfl, hb⟩
          | true =>
            go_wp2_with (go_at_call 104; refine (refwithin_at HR.out _).mono ?_; rintro e w' ⟨rfl, rfl⟩)
            go_roundw
            case rel => exact ⟨k + 1, by omega, by go_num, hidE (take_any_succ hlt2 HA.out (by rw [HX.out, HR.out]; rfl)), hb⟩
            case measure => simp [intOf]; omega
        · have hq := any_of_take (p := fun v => !inR v (-400000000) 400000000) (by omega) HA.out
          have HQ := hidE hq
          clear hq
          go_wp2_with fail
          go_ret
          exact ⟨by rw [HV.out, HQ.out]; rfl, hb⟩
    · have h2b : (v != 0) = true := by simpa using h2
      have hval : valuesB N y = false := by unfold valuesB; rw [hg]; simp [h2]
      have HV := hidE hval
      clear hval hg hv h2 h h1
      go_enter Try.func101, Try.ntmps101
      go_wp2_with fail
      go_ret
      exact ⟨by rw [HV.out]; rfl, by go_grown⟩
  · have h1b : ((y.length : Int) != N) = true := by simpa using h1
    have hval : valuesB N y = false := by unfold valuesB; simp [h1]
    have HV := hidE hval
    clear hval h1 h
    go_enter Try.func101, Try.ntmps101
    go_wp2_with fail
    go_ret
    exact ⟨by rw [HV.out]; rfl, by go_grown⟩

set_option maxHeartbeats 1000000 in
theorem broken_any (w : World) (N : Nat) (a : Option Addr) (cap : Nat) (bs : List Bd) (a2 : Option Addr) (cap2 : Nat) (y : List Int) (hl : bs.length ≤ 4000) (h : BoundsAt w a bs) (h2 : IntsAt w a2 y) (hv : AllValid N bs) (hN : y.length = N) (hN1 : N ≤ 128) (hy : ∀ v ∈ y, -400000000 ≤ v ∧ v ≤ 400000000) :
    Calls Try.prog 102 #[.agg #[.int .i64 N, .slice a bs.length cap], .slice a2 y.length cap2] w fun e w' => e = .returned (.int .i64 (idxOf (keptB y) bs)) ∧ Below w.heap.size w w' := by
  have H := hidE h
  have H2 := hidE h2
  have HV := hidE hv
  have HY := hidE hy
  have HN := hidE hN
  clear h h2 hv hy hN
  go_enter Try.func102, Try.ntmps102
  go_wp2_with fail
  go_loopw [5] (fun i wr => ∃ k : Nat, k ≤ bs.length ∧ i = .int .i64 k ∧ Hid ((bs.take k).any (keptB y) = false) ∧ Hid (wr.heap[w.heap.size]? = some (.cells #[.int .i64 N, .slice a bs.length cap] 24 (0,0))) ∧ Below w.heap.size w wr) (fun i _ => bs.length - (intOf i).toNat)
  case atStart => exact ⟨0, by omega, rfl, hidE rfl, hidE (heap_alloc_new _ _), by go_grown⟩
  case round =>
    obtain ⟨k, hk, rfl, HA, HS, hb⟩ := hrel
    have hc1 : wr.cell? ⟨w.heap.size, 1, none⟩ = some (.slice a bs.length cap) := by rw [cell_of_row _ _ _ _ _ _ HS.out]; rfl
    have hsz : w.heap.size < wr.heap.size := lt_of_block HS.out
    by_cases hlt : k < bs.length
    · obtain ⟨b, off, rfl, hbl, hcs⟩ := H.out.at hlt
      obtain ⟨c0, c1, c2, c3⟩ := hcs.below hb hbl
      have hval := HV.out bs[k] (List.getElem_mem _)
      obtain ⟨x, hx⟩ : ∃ x, bs[k] = x := ⟨_, rfl⟩
      rw [hx] at c0 c1 c2 c3 hval
      obtain ⟨ys, yd, ym, yr⟩ := x
      obtain ⟨v1, v2, v3, v4, v5, v6⟩ := hval
      simp only at c0 c1 c2 c3 v1 v2 v3 v4 v5 v6
      obtain ⟨si, rfl⟩ := Int.eq_ofNat_of_zero_le v1
      obtain ⟨di, rfl⟩ := Int.eq_ofNat_of_zero_le v3
      have hs : si < y.length := by have := HN.out; omega
      have hd : di < y.length := by have := HN.out; omega
      have H2w := H2.out.below hb (Nat.le_refl _)
      obtain ⟨b2, off2, rfl, hbw, hcs2⟩ := H2w.at hs
      obtain ⟨b', off', e', _, hcd2⟩ := H2w.at hd
      cases e'
      have q1 := HY.out y[si] (List.getElem_mem _)
      have q2 := HY.out y[di] (List.getElem_mem _)
      have hkb : keptB y ⟨si, di, ym, yr⟩ = decide (ym < y[di] - y[si]) := by
        unfold keptB getI
        rw [decide_eq_decide]
        simp only [Int.toNat_natCast]
        rw [getD_get y 0 hs, getD_get y 0 hd]
      obtain ⟨x, hx1⟩ : ∃ x, y[si] = x := ⟨_, rfl⟩
      obtain ⟨z, hz⟩ : ∃ z, y[di] = z := ⟨_, rfl⟩
      rw [hx1, hz] at hkb
      rw [hx1] at hcs2 q1
      rw [hz] at hcd2 q2
      rw [← hx] at hkb
      have s0 : (si : Int) < y.length := by omega
      have d0 : (di : Int) < y.length := by omega
      have hw1 : IntKind.i64.wrap (z - x) = z - x := IntWalk.i64_in _ (by omega)
      have l1 : b2 < wr.heap.size := hbw
      have HKB := hidE hkb
      clear hcs hx hx1 hz hkb H2w
      by_cases hgt : ym < z - x
      · have hq : keptB y bs[k] = true := by rw [HKB.out]; simpa using hgt
        have hix := idxOf_found hlt HA.out hq
        have HIX := hidE hix
        have hdd : decide (z - x > ym) = true := by simpa using hgt
        clear hq hix
        go_wp2_with fail
        go_quiet (fail)
        go_wp2_with fail
        go_ret
        exact ⟨by rw [HIX.out]; rfl, (hb.alloc hb.size _).trans (below_drewN' _ _)⟩
      · have hq : keptB y bs[k] = false := by rw [HKB.out]; simpa using hgt
        have HQ := hidE hq
        have hdd : decide (z - x > ym) = false := by simpa using hgt
        clear hq
        go_wp2_with fail
        go_quiet (fail)
        go_wp2_with fail
        go_roundw
        case rel => exact ⟨k + 1, by omega, by go_num, hidE (take_any_succ hlt HA.out HQ.out), hidE ((Below.heap_alloc _ _ _ hsz).trans HS.out), (hb.alloc hb.size _).trans (below_drewN' _ _)⟩
        case measure => simp [intOf]; omega
    · have hix := idxOf_none (any_of_take (by omega) HA.out)
      have HIX := hidE hix
      clear hix
      go_wp2_with fail
      go_ret
      exact ⟨by rw [HIX.out]; rfl, hb⟩

set_option maxHeartbeats 1000000 in
theorem refkept_any (w : World) (N : Int) (a : Option Addr) (cap : Nat) (bs : List Bd) (a2 : Option Addr) (cap2 : Nat) (y : List Int) (hN : i64ok N) (hl : bs.length ≤ 9223372036854775807) (hl2 : y.length ≤ 9223372036854775807) (h : BoundsAt w a bs) (h2 : IntsAt w a2 y) :
    Calls Try.prog 47 #[.agg #[.int .i64 N, .slice a bs.length cap], .slice a2 y.length cap2] w fun e w' => e = .returned (.tuple #[.int .i64 (keptE N bs y).1, .bool (keptE N bs y).2.1, .int .i64 (keptE N bs y).2.2]) ∧ Below w.heap.size w w' := by
  have b0 : Below w.heap.size w (w.alloc (.cells #[.int .i64 N, .slice a bs.length cap] 24)) := (Below.refl _ _).alloc (Nat.le_refl _) _
  have hck := refcheck_any (w.alloc (.cells #[.int .i64 N, .slice a bs.length cap] 24)) N a cap bs hN hl (h.below b0 (Nat.le_refl _))
  have B0 := hidE b0
  by_cases hc : checkP N bs = 0
  · obtain ⟨n0, n1, n2, nv⟩ := checkP_zero hc
    rw [hc] at hck
    have HCK := hidE hck
    have H := hidE h
    have H2 := hidE h2
    have HC := hidE hc
    have NV := hidE nv
    clear hck h h2 hc nv hN b0
    go_enter Try.func47, Try.ntmps47
    go_wp2_with fail
    refine HCK.out.mono ?_
    rintro e w1 ⟨rfl, hb1⟩
    have y0 := blk_below hb1 (by simp) (heap_alloc_new w (.cells #[.int .i64 N, .slice a bs.length cap] 24))
    have B1 := B0.out.trans (hb1.mono B0.out.size)
    have hva := refvalues_any w1 N (.slice a bs.length cap) a2 cap2 y n0 hl2 (H2.out.below B1 (Nat.le_refl _))
    have Y0 := hidE y0
    have HB1 := hidE B1
    have HVA := hidE hva
    have f0 : w1.cell? ⟨w.heap.size, 0, none⟩ = some (.int .i64 N) := by rw [cell_of_row _ _ _ _ _ _ Y0.out]; rfl
    have f1 : w1.cell? ⟨w.heap.size, 1, none⟩ = some (.slice a bs.length cap) := by rw [cell_of_row _ _ _ _ _ _ Y0.out]; rfl
    clear y0 B1 hb1 hva
    go_wp2_with fail
    refine HVA.out.mono ?_
    rintro e w2 ⟨rfl, hb2⟩
    have z0 := blk_below hb2 (lt_of_block Y0.out) Y0.out
    have B2 := HB1.out.trans (hb2.mono HB1.out.size)
    have Z0 := hidE z0
    have HB2 := hidE B2
    clear z0 B2 hb2 f0 f1
    cases hvb : valuesB N y with
    | false =>
      have hk : keptE N bs y = (0, false, 1) := by unfold keptE; rw [if_neg (by simp [HC.out]), if_pos hvb]
      have HK := hidE hk
      clear hvb hk
      go_wp2_with fail
      go_ret3
      exact ⟨by rw [HK.out]; rfl, HB2.out⟩
    | true =>
      have hk : keptE N bs y = (max (idxOf (keptB y) bs) 0, decide (idxOf (keptB y) bs < 0), 0) := by unfold keptE; rw [if_neg (by simp [HC.out]), if_neg (by rw [hvb]; simp)]
      obtain ⟨R, rfl⟩ := Int.eq_ofNat_of_zero_le (show 0 ≤ N by omega)
      obtain ⟨q1, q2, q3⟩ := valuesB_iff.1 hvb
      have e0 : w2.cell? ⟨w.heap.size, 0, none⟩ = some (.int .i64 (R : Int)) := by rw [cell_of_row _ _ _ _ _ _ Z0.out]; rfl
      have e1 : w2.cell? ⟨w.heap.size, 1, none⟩ = some (.slice a bs.length cap) := by rw [cell_of_row _ _ _ _ _ _ Z0.out]; rfl
      have hidx := broken_any w2 R a cap bs a2 cap2 y (by omega) (H.out.below HB2.out (Nat.le_refl _)) (H2.out.below HB2.out (Nat.le_refl _)) (fun b hb => (NV.out b hb).1) q1 (by omega) q3
      obtain ⟨ix, hix⟩ : ∃ x, idxOf (keptB y) bs = x := ⟨_, rfl⟩
      rw [hix] at hidx hk
      have HI := hidE hidx
      have HK := hidE hk
      clear hvb hk hidx hix q1 q2 q3
      by_cases hneg : ix < 0
      · have hdd : decide (ix ≥ 0) = false := by simp; omega
        have hmx : max ix 0 = 0 := by omega
        have HMX := hidE hmx
        clear hmx
        go_wp2_with fail
        refine HI.out.mono ?_
        rintro e w3 ⟨rfl, hb3⟩
        have HB3 := hidE (HB2.out.trans (hb3.mono HB2.out.size))
        clear hb3 e0 e1
        go_wp2_with fail
        go_ret3
        exact ⟨by rw [HK.out]; simp only; rw [HMX.out, decide_eq_true hneg]; rfl, HB3.out⟩
      · have hdd : decide (ix ≥ 0) = true := by simp; omega
        have hmx : max ix 0 = ix := by omega
        have HMX := hidE hmx
        clear hmx
        go_wp2_with fail
        refine HI.out.mono ?_
        rintro e w3 ⟨rfl, hb3⟩
        have HB3 := hidE (HB2.out.trans (hb3.mono HB2.out.size))
        clear hb3 e0 e1
        go_wp2_with fail
        go_ret3
        exact ⟨by rw [HK.out]; simp only; rw [HMX.out, decide_eq_false (by omega)]; rfl, HB3.out⟩
  · have hk : keptE N bs y = (0, false, checkP N bs) := by unfold keptE; rw [if_pos hc]
    obtain ⟨c, hcc⟩ : ∃ c, checkP N bs = c := ⟨_, rfl⟩
    rw [hcc] at hk hc hck
    have hc2 : (c != 0) = true := by simpa using hc
    have HCK := hidE hck
    have HK := hidE hk
    clear hck hk hc hcc h h2 hN b0
    go_enter Try.func47, Try.ntmps47
    go_wp2_with fail
    refine HCK.out.mono ?_
    rintro e w1 ⟨rfl, hb1⟩
    go_wp2_with fail
    go_ret3
    exact ⟨by rw [HK.out]; rfl, B0.out.trans (hb1.mono B0.out.size)⟩

end Go.Proofs.Ytejbpoclfjkllaa
