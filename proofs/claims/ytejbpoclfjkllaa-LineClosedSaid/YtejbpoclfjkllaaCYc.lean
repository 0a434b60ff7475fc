/- Walk: SameFlags. No conditions beyond those stated. -/
import Derived.Test.YtejbpoclfjkllaaA5
namespace Go.Proofs.Ytejbpoclfjkllaa
open Go Go.RowKit Go.Shelf

theorem takeB_succ {a b : List Bool} {k : Nat} (ha : k < a.length) (hb : k < b.length) (h : a.take k = b.take k) (e : a[k] = b[k]) : a.take (k + 1) = b.take (k + 1) := by
  rw [List.take_succ_eq_append_getElem ha, List.take_succ_eq_append_getElem hb, h, e]
theorem BoolsAt.get {w : World} {a : Option Addr} {xs : List Bool} (h : BoolsAt w a xs) {k : Nat} (hk : k < xs.length) : ∃ b off, a = some ⟨b, off, none⟩ ∧ b < w.heap.size ∧ w.cell? ⟨b, off + k, none⟩ = some (.bool xs[k]) := by
  rcases h with h | ⟨b, off, e, hl, hc⟩
  · subst h; simp at hk
  · exact ⟨b, off, e, hl, hc k hk⟩

set_option maxHeartbeats 400000 in
theorem sameFlags_any (w : World) (a0 : Option Addr) (c0 : Nat) (l0 : List Bool) (a1 : Option Addr) (c1 : Nat) (l1 : List Bool) (h0 : BoolsAt w a0 l0) (h1 : BoolsAt w a1 l1) (_hl0 : l0.length ≤ 9223372036854775807) (hl1 : l1.length ≤ 9223372036854775807) :
    Calls Try.prog 43 #[.slice a0 l0.length c0, .slice a1 l1.length c1] w fun e w' => e = .returned (.bool (decide (l0 = l1))) ∧ Below w.heap.size w w' := by
  have H0 := hidE h0
  have H1 := hidE h1
  clear h0 h1
  by_cases hlen : l0.length = l1.length
  · have hne : ((l0.length : Int) != (l1.length : Int)) = false := by simp; omega
    have hle : l0.length ≤ l1.length := by omega
    have HLEN := hidE hlen
    clear hlen
    go_enter Try.func43, Try.ntmps43
    go_wp2_with fail
    go_loopw [5] (fun i wr => ∃ k : Nat, k ≤ l0.length ∧ i = .int .i64 k ∧ Hid (l0.take k = l1.take k) ∧ Hid (Below w.heap.size w wr)) (fun i _ => l0.length - (intOf i).toNat)
    case atStart => exact ⟨0, Nat.zero_le _, rfl, hidE rfl, hidE (Below.refl _ _)⟩
    case round =>
      obtain ⟨k, hk, rfl, heq, hb⟩ := hrel
      by_cases hlt : k < l0.length
      · have hlt1 : k < l1.length := by omega
        obtain ⟨b0, o0, rfl, hb0, d0⟩ := H0.out.get hlt
        obtain ⟨b1, o1, rfl, hb1, d1⟩ := H1.out.get hlt1
        have d0' := (hb.out.cell (by exact hb0)).trans d0
        have d1' := (hb.out.cell (by exact hb1)).trans d1
        obtain ⟨x, hx⟩ : ∃ x, l0[k] = x := ⟨_, rfl⟩
        obtain ⟨y, hy⟩ : ∃ y, l1[k] = y := ⟨_, rfl⟩
        rw [hx] at d0'
        rw [hy] at d1'
        have HX := hidE hx
        have HY := hidE hy
        have k0 : (0 : Int) ≤ (k : Int) := by omega
        have k1 : (k : Int) < (l0.length : Int) := by omega
        have k2 : (k : Int) < (l1.length : Int) := by omega
        clear d0 d1 hx hy
        cases x
        · cases y
          · go_wp2_with fail
            go_quiet (fail)
            go_wp2_with fail
            go_roundw
            case rel => exact ⟨k + 1, by omega, by go_num, hidE (takeB_succ hlt hlt1 heq.out (by rw [HX.out, HY.out])), hidE (hb.out.trans (below_drewN' _ _))⟩
            case measure => simp [intOf]; omega
          · go_wp2_with fail
            go_quiet (fail)
            go_wp2_with fail
            go_ret
            refine ⟨?_, hb.out.trans (below_drewN' _ _)⟩
            have : ¬ l0 = l1 := fun e => by
              have h1 := HX.out
              have h2 := HY.out
              subst e
              rw [h1] at h2
              cases h2
            simp [this]
        · cases y
          · go_wp2_with fail
            go_quiet (fail)
            go_wp2_with fail
            go_ret
            refine ⟨?_, hb.out.trans (below_drewN' _ _)⟩
            have : ¬ l0 = l1 := fun e => by
              have h1 := HX.out
              have h2 := HY.out
              subst e
              rw [h1] at h2
              cases h2
            simp [this]
          · go_wp2_with fail
            go_quiet (fail)
            go_wp2_with fail
            go_roundw
            case rel => exact ⟨k + 1, by omega, by go_num, hidE (takeB_succ hlt hlt1 heq.out (by rw [HX.out, HY.out])), hidE (hb.out.trans (below_drewN' _ _))⟩
            case measure => simp [intOf]; omega
      · go_wp2_with fail
        go_ret
        refine ⟨?_, hb.out⟩
        have h2 := heq.out
        rw [List.take_of_length_le (by omega), List.take_of_length_le (by have := HLEN.out; omega)] at h2
        simp [h2]
  · have hne : ((l0.length : Int) != (l1.length : Int)) = true := by simp; omega
    have hd : decide (l0 = l1) = false := by
      simp only [decide_eq_false_iff_not]
      intro e; exact hlen (by rw [e])
    have HD := hidE hd
    clear hlen hd
    go_enter Try.func43, Try.ntmps43
    go_wp2_with fail
    go_ret
    exact ⟨by rw [HD.out]; rfl, Below.refl _ _⟩


end Go.Proofs.Ytejbpoclfjkllaa
