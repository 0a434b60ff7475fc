/- Walk: alike (of the laws). Conditions: both systems can be asked at each point. -/
import Derived.Test.YtejbpoclfjkllaaCYf
import Derived.Test.YtejbpoclfjkllaaCYc
import Derived.Test.YtejbpoclfjkllaaA5
namespace Go.Proofs.Ytejbpoclfjkllaa
open Go Go.RowKit Go.Shelf

def rowSame (R : Nat) (bs cs : List Bd) (a : Nat) : Bool := decide ((distancesP R bs a).1 = (distancesP R cs a).1) && decide ((distancesP R bs a).2.1 = (distancesP R cs a).2.1)
def alikeP (R : Nat) (bs cs : List Bd) : Bool := (List.range R).all (rowSame R bs cs)
theorem alike_bad {R : Nat} {bs cs : List Bd} {k : Nat} (hk : k < R) (h : rowSame R bs cs k = false) : alikeP R bs cs = false := by
  unfold alikeP
  rw [List.all_eq_false]
  exact ⟨k, List.mem_range.2 hk, by rw [h]; simp⟩

set_option maxRecDepth 100000 in
set_option maxHeartbeats 4000000 in
theorem alike_any (w : World) (R : Nat) (a : Option Addr) (cap : Nat) (bs : List Bd) (M : Int) (a2 : Option Addr) (cap2 : Nat) (cs : List Bd) (hM : M = R) (hN : i64ok R) (hl : bs.length ≤ 9223372036854775807) (hl2 : cs.length ≤ 9223372036854775807) (h : BoundsAt w a bs) (h2 : BoundsAt w a2 cs)
    (hA : ∀ x : Nat, x < R → askedE R bs [(x : Int)] = 0 ∧ askedE R cs [(x : Int)] = 0) (h128 : R ≤ 128) :
    Calls Try.prog 45 #[.agg #[.int .i64 (R : Int), .slice a bs.length cap], .agg #[.int .i64 M, .slice a2 cs.length cap2]] w fun e w' => e = .returned (.bool (alikeP R bs cs)) ∧ Below w.heap.size w w' := by
  subst hM
  obtain ⟨W0, hW0⟩ : ∃ W0, W0 = (w.alloc (.cells #[.int .i64 (R : Int), .slice a bs.length cap] 24)).alloc (.cells #[.int .i64 (R : Int), .slice a2 cs.length cap2] 24) := ⟨_, rfl⟩
  have b0 : Below w.heap.size w W0 := by rw [hW0]; exact ((Below.refl _ _).alloc (Nat.le_refl _) _).alloc (by simp) _
  have x0 : W0.heap[w.heap.size]? = some (.cells #[.int .i64 (R : Int), .slice a bs.length cap] 24 (0,0)) := by rw [hW0, Below.heap_alloc _ _ _ (by simp), heap_alloc_new]
  have x1 : W0.heap[w.heap.size + 1]? = some (.cells #[.int .i64 (R : Int), .slice a2 cs.length cap2] 24 (0,0)) := by rw [hW0, heap_alloc_at _ _ _ (by simp)]
  have HW0 := hidE hW0
  have B0 := hidE b0
  have X0 := hidE x0
  have X1 := hidE x1
  have H := hidE h
  have H2 := hidE h2
  have HN := hidE hN
  have HA := hidE hA
  have e0 : W0.cell? ⟨w.heap.size, 0, none⟩ = some (.int .i64 (R : Int)) := by rw [cell_of_row _ _ _ _ _ _ x0]; rfl
  clear hW0 b0 x0 x1 h h2 hN hA
  go_enter Try.func45, Try.ntmps45
  go_upto_region 1 with fail
  rw [← HW0.out]
  go_wp2_with fail
  clear e0
  go_loopw [14] (fun i wr => ∃ k : Nat, k ≤ R ∧ i = .int .i64 k ∧ Hid ((List.range k).all (rowSame R bs cs) = true) ∧ Hid (wr.heap[w.heap.size]? = some (.cells #[.int .i64 (R : Int), .slice a bs.length cap] 24 (0,0))) ∧ Hid (wr.heap[w.heap.size + 1]? = some (.cells #[.int .i64 (R : Int), .slice a2 cs.length cap2] 24 (0,0))) ∧ Hid (Below w.heap.size w wr)) (fun i _ => R - (intOf i).toNat)
  case atStart => exact ⟨0, by omega, rfl, hidE rfl, X0, X1, B0⟩
  case round =>
    obtain ⟨k, hk, rfl, hall, hx0, hx1, hb⟩ := hrel
    by_cases hlt : k < R
    · obtain ⟨ha1, ha2⟩ := HA.out k hlt
      have q1 := fun W hb => distances0_any W R a cap bs k HN.out hl hb
      have q2 := fun W hb => distances0_any W R a2 cap2 cs k HN.out hl2 hb
      have hrs : rowSame R bs cs k = (decide ((distancesP R bs k).1 = (distancesP R cs k).1) && decide ((distancesP R bs k).2.1 = (distancesP R cs k).2.1)) := rfl
      have z1 : (distancesP R bs k).2.2 = 0 ∧ (distancesP R bs k).1.length = R ∧ (distancesP R bs k).2.1.length = R := by unfold distancesP; rw [if_pos ha1]; simp
      have z2 : (distancesP R cs k).2.2 = 0 ∧ (distancesP R cs k).1.length = R ∧ (distancesP R cs k).2.1.length = R := by unfold distancesP; rw [if_pos ha2]; simp
      obtain ⟨⟨L1, F1, d1⟩, hd1⟩ : ∃ t, distancesP R bs k = t := ⟨_, rfl⟩
      obtain ⟨⟨L2, F2, d2⟩, hd2⟩ : ∃ t, distancesP R cs k = t := ⟨_, rfl⟩
      rw [hd1] at q1 z1 hrs
      rw [hd2] at q2 z2 hrs
      simp only at z1 z2 hrs
      obtain ⟨rfl, zL1, zF1⟩ := z1
      obtain ⟨rfl, zL2, zF2⟩ := z2
      unfold DistPost at q1 q2
      simp only at q1 q2
      have Q1 := hidE q1
      have Q2 := hidE q2
      have HRS := hidE hrs
      have ZL1 := hidE zL1
      have ZL2 := hidE zL2
      have ZF1 := hidE zF1
      have ZF2 := hidE zF2
      have hnext : rowSame R bs cs k = true → (List.range (k + 1)).all (rowSame R bs cs) = true := fun hq => by
        rw [List.range_succ, List.all_append, hall.out]; simp [hq]
      have HNX := hidE hnext
      clear q1 q2 hrs ha1 ha2 hd1 hd2 zL1 zL2 zF1 zF2 hnext
      have e0 : wr.cell? ⟨w.heap.size, 0, none⟩ = some (.int .i64 (R : Int)) := by rw [cell_of_row _ _ _ _ _ _ hx0.out]; rfl
      have e1 : wr.cell? ⟨w.heap.size, 1, none⟩ = some (.slice a bs.length cap) := by rw [cell_of_row _ _ _ _ _ _ hx0.out]; rfl
      go_wp2_with fail
      refine (Q1.out _ (H.out.below hb.out (Nat.le_refl _))).mono ?_
      rintro _ w1 ⟨⟨a5, c5, a6, c6, rfl, hi5, hj5⟩, hb1⟩
      have Y0 := hidE (blk_below hb1 (lt_of_block hx0.out) hx0.out)
      have Y1 := hidE (blk_below hb1 (lt_of_block hx1.out) hx1.out)
      have B1 := hidE (hb.out.trans (hb1.mono hb.out.size))
      have I5 := hidE hi5
      have J5 := hidE hj5
      clear e0 e1 hb1 hi5 hj5
      have e0 : w1.cell? ⟨w.heap.size + 1, 0, none⟩ = some (.int .i64 (R : Int)) := by rw [cell_of_row _ _ _ _ _ _ Y1.out]; rfl
      have e1 : w1.cell? ⟨w.heap.size + 1, 1, none⟩ = some (.slice a2 cs.length cap2) := by rw [cell_of_row _ _ _ _ _ _ Y1.out]; rfl
      go_wp2_with fail
      refine (Q2.out _ (H2.out.below B1.out (Nat.le_refl _))).mono ?_
      rintro _ w2 ⟨⟨a7, c7, a8, c8, rfl, hi7, hj7⟩, hb2⟩
      have Z0 := hidE (blk_below hb2 (lt_of_block Y0.out) Y0.out)
      have Z1 := hidE (blk_below hb2 (lt_of_block Y1.out) Y1.out)
      have B2 := hidE (B1.out.trans (hb2.mono B1.out.size))
      have hsi := sameInts_any w2 a5 c5 L1 a7 c7 L2 (I5.out.below hb2 (Nat.le_refl _)) hi7 (by have := ZL1.out; omega) (by have := ZL2.out; omega)
      have K5 := hidE (J5.out.below hb2 (Nat.le_refl _))
      have K7 := hidE hj7
      clear e0 e1 hb2 hi7 hj7
      by_cases hL : L1 = L2
      · rw [show decide (L1 = L2) = true by simpa using hL] at hsi
        have HSI := hidE hsi
        have HLE := hidE hL
        clear hsi hL
        go_wp2_with fail
        refine HSI.out.mono ?_
        rintro _ w3 ⟨rfl, hb3⟩
        have T0 := hidE (blk_below hb3 (lt_of_block Z0.out) Z0.out)
        have T1 := hidE (blk_below hb3 (lt_of_block Z1.out) Z1.out)
        have B3 := hidE (B2.out.trans (hb3.mono B2.out.size))
        have hsf := sameFlags_any w3 a6 c6 F1 a8 c8 F2 (K5.out.below hb3 (Nat.le_refl _)) (K7.out.below hb3 (Nat.le_refl _)) (by have := ZF1.out; omega) (by have := ZF2.out; omega)
        clear hb3
        by_cases hF : F1 = F2
        · rw [show decide (F1 = F2) = true by simpa using hF] at hsf
          have HSF := hidE hsf
          have HR := hidE (show rowSame R bs cs k = true by rw [HRS.out]; simp [HLE.out, hF])
          clear hsf hF
          go_wp2_with fail
          refine HSF.out.mono ?_
          rintro _ w4 ⟨rfl, hb4⟩
          go_wp2_with fail
          go_roundw
          case rel => exact ⟨k + 1, by omega, by go_num, hidE (HNX.out HR.out), hidE (blk_below hb4 (lt_of_block T0.out) T0.out), hidE (blk_below hb4 (lt_of_block T1.out) T1.out), hidE (B3.out.trans (hb4.mono B3.out.size))⟩
          case measure => simp [intOf]; omega
        · rw [show decide (F1 = F2) = false by simpa using hF] at hsf
          have HSF := hidE hsf
          have HR := hidE (alike_bad hlt (show rowSame R bs cs k = false by rw [HRS.out]; simp [hF]))
          clear hsf hF
          go_wp2_with fail
          refine HSF.out.mono ?_
          rintro _ w4 ⟨rfl, hb4⟩
          go_wp2_with fail
          go_ret
          exact ⟨by rw [HR.out]; rfl, B3.out.trans (hb4.mono B3.out.size)⟩
      · rw [show decide (L1 = L2) = false by simpa using hL] at hsi
        have HSI := hidE hsi
        have HR := hidE (alike_bad hlt (show rowSame R bs cs k = false by rw [HRS.out]; simp [hL]))
        clear hsi hL
        go_wp2_with fail
        refine HSI.out.mono ?_
        rintro _ w3 ⟨rfl, hb3⟩
        go_wp2_with fail
        go_ret
        exact ⟨by rw [HR.out]; rfl, B2.out.trans (hb3.mono B2.out.size)⟩
    · have hke : k = R := by omega
      have HR := hidE (show alikeP R bs cs = true by unfold alikeP; rw [← hke]; simpa [hke] using hall.out)
      clear hke hall
      go_wp2_with fail
      go_ret
      exact ⟨by rw [HR.out]; rfl, hb.out⟩

end Go.Proofs.Ytejbpoclfjkllaa
