/- Walks: the stable sort, and sorted, at bounds that stand in order. Conditions: the list is in order. -/
import Derived.Test.YthcmjhellpjllaaGreatCS3
namespace Go.Proofs.YthcmjhellpjllaaGreat
open Go Go.RowKit Go.Shelf

set_option maxRecDepth 100000 in
set_option maxHeartbeats 2000000 in
theorem stable_still (w : World) (a0 : Option Addr) (cap : Nat) (bs : List Bd) (hl : bs.length ≤ 100000) (ho : OrderedB bs) (h : BoundsAt w a0 bs) :
    Calls Tryz.prog 75 #[.slice a0 bs.length cap, .int .i64 (bs.length : Int), .func (.func 25) #[] #[]] w fun e w' => e = .returned (.tuple #[]) ∧ Below w.heap.size w w' := by
  have H := hidE h
  have HI := hidE (fun W hb (x y : Nat) (hx : x ≤ bs.length) (hy : y ≤ bs.length) => insertion_still W a0 cap bs x y hy hl hb ho hx)
  have HM := hidE (fun W (x y z : Nat) (h1 : x < y) (h2 : y < z) (h3 : z ≤ bs.length) hb => symMerge_still a0 cap bs hl ho z W x y z (by omega) h1 h2 h3 hb)
  obtain ⟨n, hn⟩ : ∃ n, bs.length = n := ⟨_, rfl⟩
  rw [hn] at HI HM hl ⊢
  clear h ho hn
  go_enter Tryz.func75, Tryz.ntmps75
  go_wp2_with fail
  go_loopw [7, 8] (fun i j wr => ∃ k : Nat, k ≤ n ∧ i = .int .i64 (k : Int) ∧ j = .int .i64 ((k : Int) + 20) ∧ Hid (Below w.heap.size w wr)) (fun i _ _ => n - (intOf i).toNat)
  case atStart => exact ⟨0, by omega, rfl, by go_num, hidE (Below.refl _ _)⟩
  case round =>
    obtain ⟨k, hk, rfl, rfl, hb⟩ := hrel
    obtain ⟨wA, rfl⟩ : ∃ x : World, x = wr := ⟨wr, rfl⟩
    by_cases hlt : k + 20 ≤ n
    · have d1 : decide ((k : Int) + 20 ≤ (n : Int)) = true := by simp; omega
      have q := HI.out wA (H.out.below hb.out (Nat.le_refl _)) k (k + 20) (by omega) hlt
      rw [show ((k + 20 : Nat) : Int) = (k : Int) + 20 by omega] at q
      have Q := hidE q
      clear q
      go_wp2_with fail
      refine Q.out.mono ?_
      rintro e w2 ⟨rfl, hb2⟩
      go_wp2_with fail
      go_roundw
      case rel => exact ⟨k + 20, by omega, by go_num, by go_num, hidE (hb.out.trans (hb2.mono hb.out.size))⟩
      case measure => simp [intOf]; omega
    · have d1 : decide ((k : Int) + 20 ≤ (n : Int)) = false := by simp; omega
      have q := HI.out wA (H.out.below hb.out (Nat.le_refl _)) k n (by omega) (by omega)
      have Q := hidE q
      clear q hlt
      go_wp2_with fail
      refine Q.out.mono ?_
      rintro e w2 ⟨rfl, hb2⟩
      have HB2 := hidE (hb.out.trans (hb2.mono hb.out.size))
      clear hb hb2 Q d1
      go_wp2_with fail
      go_loopw [6, 7, 8, 9] (fun s _ _ _ wr => ∃ z : Nat, 1 ≤ z ∧ z ≤ 2 * n + 20 ∧ s = .int .i64 (z : Int) ∧ Hid (Below w.heap.size w wr)) (fun s _ _ _ _ => 2 * n + 21 - (intOf s).toNat)
      case atStart => exact ⟨20, by omega, by omega, rfl, HB2⟩
      case round =>
        obtain ⟨z, hz1, hz2, rfl, hb⟩ := hrel
        obtain ⟨wB, rfl⟩ : ∃ x : World, x = wr := ⟨wr, rfl⟩
        by_cases hzn : z < n
        · have d1 : (z : Int) < (n : Int) := by omega
          go_wp2_with fail
          go_loopw [7, 8] (fun i j wr => ∃ p : Nat, p ≤ n ∧ i = .int .i64 (p : Int) ∧ j = .int .i64 ((p : Int) + 2 * (z : Int)) ∧ Hid (Below w.heap.size w wr)) (fun i _ _ => n - (intOf i).toNat)
          case atStart => exact ⟨0, by omega, rfl, by go_num, hb⟩
          case round =>
            obtain ⟨p, hp, rfl, rfl, hb⟩ := hrel
            obtain ⟨wC, rfl⟩ : ∃ x : World, x = wr := ⟨wr, rfl⟩
            by_cases hpl : p + 2 * z ≤ n
            · have d2 : decide ((p : Int) + 2 * (z : Int) ≤ (n : Int)) = true := by simp; omega
              have q := HM.out wC p (p + z) (p + 2 * z) (by omega) (by omega) hpl (H.out.below hb.out (Nat.le_refl _))
              rw [show ((p + z : Nat) : Int) = (p : Int) + (z : Int) by omega, show ((p + 2 * z : Nat) : Int) = (p : Int) + 2 * (z : Int) by omega] at q
              have Q := hidE q
              clear q
              go_wp2_with fail
              refine Q.out.mono ?_
              rintro e w3 ⟨rfl, hb3⟩
              go_wp2_with fail
              go_roundw
              case rel => exact ⟨p + 2 * z, by omega, by go_num, by go_num, hidE (hb.out.trans (hb3.mono hb.out.size))⟩
              case measure => simp [intOf]; omega
            · have d2 : decide ((p : Int) + 2 * (z : Int) ≤ (n : Int)) = false := by simp; omega
              by_cases hpm : p + z < n
              · have d3 : (p : Int) + (z : Int) < (n : Int) := by omega
                have q := HM.out wC p (p + z) n (by omega) hpm (by omega) (H.out.below hb.out (Nat.le_refl _))
                rw [show ((p + z : Nat) : Int) = (p : Int) + (z : Int) by omega] at q
                have Q := hidE q
                clear q hpl
                go_wp2_with fail
                refine Q.out.mono ?_
                rintro e w3 ⟨rfl, hb3⟩
                go_wp2_with fail
                go_roundw
                case rel => exact ⟨z * 2, by omega, by omega, by go_num, hidE (hb.out.trans (hb3.mono hb.out.size))⟩
                case measure => simp [intOf]; omega
              · have d3 : decide ((p : Int) + (z : Int) < (n : Int)) = false := by simp; omega
                clear hpl
                go_wp2_with fail
                go_roundw
                case rel => exact ⟨z * 2, by omega, by omega, by go_num, hb⟩
                case measure => simp [intOf]; omega
        · go_wp2_with fail
          go_end0
          exact ⟨rfl, hb.out⟩

theorem sortStable_still (w : World) (a0 : Option Addr) (cap : Nat) (bs : List Bd) (hl : bs.length ≤ 100000) (ho : OrderedB bs) (h : BoundsAt w a0 bs) :
    Calls Tryz.prog 54 #[.slice a0 bs.length cap, .func (.func 25) #[] #[]] w fun e w' => e = .returned (.tuple #[]) ∧ Below w.heap.size w w' := by
  have HS := hidE (fun W hb => stable_still W a0 cap bs hl ho hb)
  have H := hidE h
  clear h ho
  go_enter Tryz.func54, Tryz.ntmps54
  go_wp2_with fail
  refine (HS.out _ H.out).mono ?_
  rintro e w2 ⟨rfl, hb2⟩
  go_wp2_with fail
  go_end0
  exact ⟨rfl, hb2⟩

end Go.Proofs.YthcmjhellpjllaaGreat
