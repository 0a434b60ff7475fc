/- Walks: the reference's lesser, plus, pointed. -/
import Derived.Test.YthcmjhellpjllaaGreatCY4
namespace Go.Proofs.YthcmjhellpjllaaGreat
open Go Go.RowKit Go.Shelf

set_option maxHeartbeats 1000000 in
theorem lesser_at (w : World) (xs ys : Int) (xo yo : Bool) : Calls Tryz.prog 59 #[.agg #[.int .i64 xs, .bool xo], .agg #[.int .i64 ys, .bool yo]] w fun e w' => e = .returned (.agg #[.int .i64 (lesserP ⟨xs, xo⟩ ⟨ys, yo⟩).s, .bool (lesserP ⟨xs, xo⟩ ⟨ys, yo⟩).ok]) ∧ Below w.heap.size w w' := by
  cases xo with
  | false =>
    have hr : lesserP ⟨xs, false⟩ ⟨ys, yo⟩ = ⟨ys, yo⟩ := by unfold lesserP; rw [if_pos (.inl rfl)]
    have HR := hidE hr
    clear hr
    go_enter Tryz.func59, Tryz.ntmps59
    go_wp2_with fail
    exact bodyPost_ret (v := .agg #[.int .i64 ys, .bool yo]) (by simp [results, Tryz.results59, go_sem]) rfl ⟨by rw [HR.out], by go_grown⟩
  | true =>
    cases yo with
    | false =>
      have hr : lesserP ⟨xs, true⟩ ⟨ys, false⟩ = ⟨xs, true⟩ := by unfold lesserP; rw [if_neg (by simp)]
      have HR := hidE hr
      clear hr
      go_enter Tryz.func59, Tryz.ntmps59
      go_wp2_with fail
      exact bodyPost_ret (v := .agg #[.int .i64 xs, .bool true]) (by simp [results, Tryz.results59, go_sem]) rfl ⟨by rw [HR.out], by go_grown⟩
    | true =>
      by_cases hlt : ys < xs
      · have hr : lesserP ⟨xs, true⟩ ⟨ys, true⟩ = ⟨ys, true⟩ := by unfold lesserP; rw [if_pos (.inr ⟨rfl, hlt⟩)]
        have hd : decide (ys < xs) = true := by simpa using hlt
        have HR := hidE hr
        clear hr
        go_enter Tryz.func59, Tryz.ntmps59
        go_wp2_with fail
        exact bodyPost_ret (v := .agg #[.int .i64 ys, .bool true]) (by simp [results, Tryz.results59, go_sem]) rfl ⟨by rw [HR.out], by go_grown⟩
      · have hr : lesserP ⟨xs, true⟩ ⟨ys, true⟩ = ⟨xs, true⟩ := by unfold lesserP; rw [if_neg (by simp; omega)]
        have hd : decide (ys < xs) = false := by simpa using hlt
        have HR := hidE hr
        clear hr
        go_enter Tryz.func59, Tryz.ntmps59
        go_wp2_with fail
        exact bodyPost_ret (v := .agg #[.int .i64 xs, .bool true]) (by simp [results, Tryz.results59, go_sem]) rfl ⟨by rw [HR.out], by go_grown⟩

set_option maxHeartbeats 1000000 in
theorem plus_at (w : World) (xs : Int) (xo : Bool) (n : Int) (h1 : -4000000000000000000 ≤ xs) (h2 : xs ≤ 4000000000000000000) (h3 : -4000000000000000000 ≤ n) (h4 : n ≤ 4000000000000000000) :
    Calls Tryz.prog 60 #[.agg #[.int .i64 xs, .bool xo], .int .i64 n] w fun e w' => e = .returned (.agg #[.int .i64 (xs + n), .bool xo]) ∧ Below w.heap.size w w' := by
  have hw : IntKind.i64.wrap (xs + n) = xs + n := IntWalk.i64_in _ (by omega)
  go_enter Tryz.func60, Tryz.ntmps60
  go_wp2_with fail
  exact bodyPost_ret (v := .agg #[.int .i64 (xs + n), .bool xo]) (by simp [results, Tryz.results60, go_sem]) rfl ⟨rfl, by go_grown⟩

/-- The error of pointed: that of asked. -/
theorem askedE_points {N : Int} {bs : List Bd} {l : List Int} (hc : checkP N bs = 0) {p : Int} (hp : p ∈ l) (h : p < 0 ∨ N ≤ p) : askedE N bs l = 1 := by
  have hz : pointP N l = 1 := by
    unfold pointP
    rw [if_pos]
    refine List.any_eq_true.2 ⟨p, hp, ?_⟩
    cases hq : inR p 0 (N - 1) with
    | false => rfl
    | true => have := inR_true.1 hq; omega
  unfold askedE
  rw [if_neg (by simp [hc]), if_pos (by rw [hz]; decide), hz]
theorem askedE_fine {N : Int} {bs : List Bd} {l : List Int} (hc : checkP N bs = 0) (h : ∀ p ∈ l, 0 ≤ p ∧ p < N) : askedE N bs l = if keptP N bs = true then 0 else 10 := by
  have hz : pointP N l = 0 := by
    unfold pointP
    rw [if_neg]
    intro hq
    obtain ⟨p, hp, h1⟩ := List.any_eq_true.1 hq
    have := h p hp
    rw [inR_true.2 (by omega)] at h1
    simp at h1
  rw [askedE_of l hc, if_neg (by simp [hz])]

set_option maxRecDepth 100000 in
set_option maxHeartbeats 1000000 in
theorem pointed_any (w : World) (N : Int) (a : Option Addr) (cap : Nat) (bs : List Bd) (a2 : Option Addr) (cap2 : Nat) (l : List Int) (hN : i64ok N) (hl : bs.length ≤ 9223372036854775807) (hl2 : l.length ≤ 1000) (h : BoundsAt w a bs) (h2 : IntsAt w a2 l) :
    Calls Tryz.prog 26 #[.agg #[.int .i64 N, .slice a bs.length cap], .slice a2 l.length cap2] w fun e w' => e = .returned (.int .i64 (askedE N bs l)) ∧ Below w.heap.size w w' := by
  have b0 : Below w.heap.size w (w.alloc (.cells #[.int .i64 N, .slice a bs.length cap] 24)) := (Below.refl _ _).alloc (Nat.le_refl _) _
  have hck := refcheck_any (w.alloc (.cells #[.int .i64 N, .slice a bs.length cap] 24)) N a cap bs hN hl (h.below b0 (Nat.le_refl _))
  have B0 := hidE b0
  have H := hidE h
  have H2 := hidE h2
  clear b0 h h2
  by_cases hc : checkP N bs = 0
  · obtain ⟨R, rfl, r0, r1, hlen, hv⟩ := allValid_of hc
    rw [hc] at hck
    have HCK := hidE hck
    have HC := hidE hc
    have HV := hidE hv
    clear hck hc hv hN
    go_enter Tryz.func26, Tryz.ntmps26
    go_wp2_with fail
    refine HCK.out.mono ?_
    rintro e w1 ⟨rfl, hb1⟩
    have y0 := blk_below hb1 (by simp) (heap_alloc_new w (.cells #[.int .i64 (R : Int), .slice a bs.length cap] 24))
    have B1 := B0.out.trans (hb1.mono B0.out.size)
    have Y0 := hidE y0
    have HB1 := hidE B1
    clear y0 B1 hb1
    have hsz : w.heap.size < w1.heap.size := lt_of_block Y0.out
    go_wp2_with fail
    go_loopw [6] (fun i wr => ∃ k : Nat, k ≤ l.length ∧ i = .int .i64 k ∧ Hid (∀ q (hq : q < k) (hl : q < l.length), 0 ≤ l[q] ∧ l[q] < (R : Int)) ∧ Hid (Below w1.heap.size w1 wr)) (fun i _ => l.length - (intOf i).toNat)
    case atStart => exact ⟨0, by omega, rfl, hidE (fun q hq _ => by omega), hidE (Below.refl _ _)⟩
    case round =>
      obtain ⟨k, hk, rfl, HA, HB⟩ := hrel
      have xr := blk_below HB.out hsz Y0.out
      have e0 : wr.cell? ⟨w.heap.size, 0, none⟩ = some (.int .i64 (R : Int)) := by rw [cell_of_row _ _ _ _ _ _ xr]; rfl
      have e1 : wr.cell? ⟨w.heap.size, 1, none⟩ = some (.slice a bs.length cap) := by rw [cell_of_row _ _ _ _ _ _ xr]; rfl
      have bw : Below w.heap.size w wr := HB1.out.trans (HB.out.mono HB1.out.size)
      by_cases hlt : k < l.length
      · obtain ⟨b, off, rfl, hbl, hck2⟩ := (H2.out.below bw (Nat.le_refl _)).at hlt
        obtain ⟨x, hx⟩ : ∃ x, l[k] = x := ⟨_, rfl⟩
        rw [hx] at hck2
        by_cases hneg : x < 0
        · have hd : decide (x < 0) = true := by simpa using hneg
          have ha := askedE_points (l := l) HC.out (p := x) (by rw [← hx]; exact List.getElem_mem hlt) (.inl hneg)
          have HAE := hidE ha
          have BW := hidE bw
          clear ha hx xr bw
          go_wp2_with fail
          go_quiet (fail)
          go_wp2_with fail
          go_ret
          exact ⟨by rw [HAE.out]; rfl, BW.out.trans (below_drewN' _ _)⟩
        · have hd : decide (x < 0) = false := by simpa using hneg
          by_cases hge : (R : Int) ≤ x
          · have hd2 : decide (x ≥ (R : Int)) = true := by simpa using hge
            have ha := askedE_points (l := l) HC.out (p := x) (by rw [← hx]; exact List.getElem_mem hlt) (.inr hge)
            have HAE := hidE ha
            have BW := hidE bw
            clear ha hx xr bw
            go_wp2_with fail
            go_quiet (fail)
            go_wp2_with fail
            go_ret
            exact ⟨by rw [HAE.out]; rfl, BW.out.trans (below_drewN' _ _)⟩
          · have hd2 : decide (x ≥ (R : Int)) = false := by simp; omega
            have hstay : ∀ q (hq : q < k + 1) (hl : q < l.length), 0 ≤ l[q] ∧ l[q] < (R : Int) := by
              intro q hq hl'
              by_cases e : q = k
              · subst e; rw [hx]; omega
              · exact HA.out q (by omega) hl'
            have HST := hidE hstay
            clear hstay hx xr bw
            go_wp2_with fail
            go_quiet (fail)
            go_wp2_with fail
            go_roundw
            case rel => exact ⟨k + 1, by omega, by go_num, HST, hidE (HB.out.trans (below_drewN' _ _))⟩
            case measure => simp [intOf]; omega
      · have hall : ∀ p ∈ l, 0 ≤ p ∧ p < (R : Int) := fun p hp => by
          obtain ⟨q, hq, rfl⟩ := List.getElem_of_mem hp
          exact HA.out q (by omega) hq
        have ha := askedE_fine HC.out hall
        have hkr : keptR R bs = keptP R bs := keptR_eq r1 HV.out
        have hcon := refconsistent_any wr R a cap bs r0 r1 (by omega) (H.out.below bw (Nat.le_refl _)) HV.out
        rw [hkr] at hcon
        obtain ⟨c, hcc⟩ : ∃ c, keptP R bs = c := ⟨_, rfl⟩
        rw [hcc] at hcon ha
        have HCON := hidE hcon
        have HAE := hidE ha
        have BW := hidE bw
        clear hcon ha hcc hkr hall xr bw
        cases c with
        | false =>
          go_wp2_with fail
          refine HCON.out.mono ?_
          rintro e w3 ⟨rfl, hb3⟩
          go_wp2_with fail
          go_ret
          exact ⟨by rw [HAE.out]; rfl, BW.out.trans (hb3.mono BW.out.size)⟩
        | true =>
          go_wp2_with fail
          refine HCON.out.mono ?_
          rintro e w3 ⟨rfl, hb3⟩
          go_wp2_with fail
          go_ret
          exact ⟨by rw [HAE.out]; rfl, BW.out.trans (hb3.mono BW.out.size)⟩
  · have ha : askedE N bs l = checkP N bs := by unfold askedE; rw [if_pos hc]
    obtain ⟨c, hcc⟩ : ∃ c, checkP N bs = c := ⟨_, rfl⟩
    rw [hcc] at ha hc hck
    have hcb : (c != 0) = true := by simpa using hc
    have HCK := hidE hck
    have HAE := hidE ha
    clear hck ha hc hcc hN
    go_enter Tryz.func26, Tryz.ntmps26
    go_wp2_with fail
    refine HCK.out.mono ?_
    rintro e w1 ⟨rfl, hb1⟩
    go_wp2_with fail
    go_ret
    exact ⟨by rw [HAE.out]; rfl, B0.out.trans (hb1.mono B0.out.size)⟩

end Go.Proofs.YthcmjhellpjllaaGreat
