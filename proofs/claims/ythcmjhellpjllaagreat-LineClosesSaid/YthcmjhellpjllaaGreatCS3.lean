/- Walk: the merge of two runs that stand in order leaves them as they are. Conditions: the list is in order. -/
import Derived.Test.YthcmjhellpjllaaGreatCS2
namespace Go.Proofs.YthcmjhellpjllaaGreat
open Go Go.RowKit Go.Shelf

/-- Two bounds of a list in order, as they lie, and how they compare. -/
theorem pair_at {w : World} {blk off : Nat} {bs : List Bd} (ho : OrderedB bs) (hc : ∀ i (h : i < bs.length), bs[i].cellsAt w blk (off + i * 4)) (hbl : blk < w.heap.size) {i j : Nat} (hi : i < bs.length) (hj : j < bs.length) (hij : i < j) {W : World} (hb : Below w.heap.size w W) :
    ∃ xs xd xm xr ys yd ym yr : Int, (W.cell? ⟨blk, off + j * 4, none⟩ = some (.int .i64 xs) ∧ W.cell? ⟨blk, off + j * 4 + 1, none⟩ = some (.int .i64 xd) ∧ W.cell? ⟨blk, off + j * 4 + 2, none⟩ = some (.int .i64 xm) ∧ W.cell? ⟨blk, off + j * 4 + 3, none⟩ = some (.int .i64 xr)) ∧
      (W.cell? ⟨blk, off + i * 4, none⟩ = some (.int .i64 ys) ∧ W.cell? ⟨blk, off + i * 4 + 1, none⟩ = some (.int .i64 yd) ∧ W.cell? ⟨blk, off + i * 4 + 2, none⟩ = some (.int .i64 ym) ∧ W.cell? ⟨blk, off + i * 4 + 3, none⟩ = some (.int .i64 yr)) ∧
      Hid (∀ V, Calls Tryz.prog 25 #[.agg #[.int .i64 xs, .int .i64 xd, .int .i64 xm, .int .i64 xr], .agg #[.int .i64 ys, .int .i64 yd, .int .i64 ym, .int .i64 yr]] V fun e w' => (∃ c, e = .returned (.int .i64 c) ∧ decide (c < 0) = false) ∧ Below V.heap.size V w') :=
  ⟨_, _, _, _, _, _, _, _, (hc j hj).below hb hbl, (hc i hi).below hb hbl, hidE (fun V => cmp_later ho hi hj hij V)⟩

set_option maxRecDepth 100000 in
set_option maxHeartbeats 4000000 in
theorem symMerge_still (a0 : Option Addr) (cap : Nat) (bs : List Bd) (hl : bs.length ≤ 100000) (ho : OrderedB bs) : ∀ (n : Nat) (w : World) (a m b : Nat), b ≤ a + n → a < m → m < b → b ≤ bs.length → BoundsAt w a0 bs →
    Calls Tryz.prog 84 #[.slice a0 bs.length cap, .int .i64 (a : Int), .int .i64 (m : Int), .int .i64 (b : Int), .func (.func 25) #[] #[]] w fun e w' => e = .returned (.tuple #[]) ∧ Below w.heap.size w w' := by
  have HO := hidE ho
  clear ho
  intro n
  induction n with
  | zero => intro w a m b h1 h2 h3; omega
  | succ n ih =>
  intro w a m b hn ham hmb hb h
  have H0 := hidE h
  obtain ⟨blk, off, hab, hbl, hcs⟩ := h.resolve_left (by intro e; subst e; simp at hb; omega)
  subst hab
  have HC := hidE hcs
  have IH := hidE ih
  clear h ih hcs
  have dab : (a : Int) < (m : Int) := by omega
  have dmb : (m : Int) < (b : Int) := by omega
  have dbl : (b : Int) ≤ (bs.length : Int) := by omega
  by_cases h1 : m = a + 1
  · have d1 : ((m : Int) - (a : Int) == 1) = true := by simp; omega
    have m1 : (m : Int) - 1 = (a : Int) := by omega
    have HM := hidE h1
    clear h1
    go_enter Tryz.func84, Tryz.ntmps84
    go_wp2_with fail
    go_loopw [10, 11] (fun i j wr => i = .int .i64 (m : Int) ∧ ∃ q : Nat, m ≤ q ∧ q ≤ b ∧ j = .int .i64 (q : Int) ∧ Hid (Below w.heap.size w wr)) (fun _ j _ => (intOf j).toNat - m)
    case atStart => exact ⟨rfl, b, by omega, by omega, rfl, hidE (Below.refl _ _)⟩
    case round =>
      obtain ⟨rfl, q, hq0, hq1, rfl, hbw⟩ := hrel
      by_cases hlt : m < q
      · have d2 : (m : Int) < (q : Int) := by omega
        obtain ⟨h, hh0, hh1, hhe⟩ : ∃ h : Nat, m ≤ h ∧ h < q ∧ ((m : Int) + (q : Int)) / 2 = (h : Int) := ⟨(m + q) / 2, by omega, by omega, by omega⟩
        have dh : (h : Int) < (bs.length : Int) := by omega
        have da : (a : Int) < (bs.length : Int) := by omega
        obtain ⟨xs, xd, xm, xr, ys, yd, ym, yr, ⟨c0, c1, c2, c3⟩, ⟨e0, e1, e2, e3⟩, HCA⟩ := pair_at HO.out HC.out hbl (i := a) (j := h) (by omega) (by omega) (by omega) hbw.out
        obtain ⟨wx, rfl⟩ : ∃ x : World, x = wr := ⟨wr, rfl⟩
        go_upto_region 5 with fail
        go_still_tail 9, (by kernel_rfl)
        change wpList _ _ _ _ _ wx.drew
        go_wp2_with fail
        refine (HCA.out _).mono ?_
        rintro e w2 ⟨⟨c, rfl, hc⟩, hb2⟩
        have HB2 := hidE (hbw.out.trans (((Below.refl _ _).drew.trans hb2).mono hbw.out.size))
        clear hb2 c0 c1 c2 c3 e0 e1 e2 e3
        go_wp2_with fail
        go_roundw
        case rel => exact ⟨rfl, h, by omega, by omega, rfl, HB2⟩
        case measure => simp [intOf]; omega
      · obtain rfl : q = m := by omega
        obtain ⟨wx, rfl⟩ : ∃ x : World, x = wr := ⟨wr, rfl⟩
        go_wp2_with fail
        go_loopw [13] (fun i wz => i = .int .i64 (a : Int) ∧ wz = wx) (fun _ _ => 0)
        case atStart => exact ⟨rfl, rfl⟩
        case round =>
          obtain ⟨rfl, rfl⟩ := hrel
          go_wp2_with fail
          refine bodyPost_ret (results_none rfl _ _ _) rfl ?_
          exact ⟨rfl, hbw.out⟩
  have d1 : ((m : Int) - (a : Int) == 1) = false := by simp; omega
  by_cases h2 : b = m + 1
  · have d2 : ((b : Int) - (m : Int) == 1) = true := by simp; omega
    have HM := hidE h2
    have HN := hidE h1
    clear h1 h2
    go_enter Tryz.func84, Tryz.ntmps84
    go_wp2_with fail
    go_loopw [14, 15] (fun i j wr => j = .int .i64 (m : Int) ∧ ∃ q : Nat, a ≤ q ∧ q ≤ m ∧ i = .int .i64 (q : Int) ∧ Hid (Below w.heap.size w wr)) (fun i _ _ => m - (intOf i).toNat)
    case atStart => exact ⟨rfl, a, by omega, by omega, rfl, hidE (Below.refl _ _)⟩
    case round =>
      obtain ⟨rfl, q, hq0, hq1, rfl, hbw⟩ := hrel
      by_cases hlt : q < m
      · have d3 : (q : Int) < (m : Int) := by omega
        obtain ⟨h, hh0, hh1, hhe⟩ : ∃ h : Nat, q ≤ h ∧ h < m ∧ ((q : Int) + (m : Int)) / 2 = (h : Int) := ⟨(q + m) / 2, by omega, by omega, by omega⟩
        have dh : (h : Int) < (bs.length : Int) := by omega
        have da : (m : Int) < (bs.length : Int) := by omega
        obtain ⟨xs, xd, xm, xr, ys, yd, ym, yr, ⟨c0, c1, c2, c3⟩, ⟨e0, e1, e2, e3⟩, HCA⟩ := pair_at HO.out HC.out hbl (i := h) (j := m) (by omega) (by omega) (by omega) hbw.out
        obtain ⟨wx, rfl⟩ : ∃ x : World, x = wr := ⟨wr, rfl⟩
        go_upto_region 17 with fail
        go_still_tail 9, (by kernel_rfl)
        change wpList _ _ _ _ _ wx.drew
        go_wp2_with fail
        refine (HCA.out _).mono ?_
        rintro e w2 ⟨⟨c, rfl, hc⟩, hb2⟩
        have HB2 := hidE (hbw.out.trans (((Below.refl _ _).drew.trans hb2).mono hbw.out.size))
        clear hb2 c0 c1 c2 c3 e0 e1 e2 e3
        go_wp2_with fail
        go_roundw
        case rel => exact ⟨rfl, h + 1, by omega, by omega, by go_num, HB2⟩
        case measure => simp [intOf]; omega
      · obtain rfl : q = m := by omega
        obtain ⟨wx, rfl⟩ : ∃ x : World, x = wr := ⟨wr, rfl⟩
        go_wp2_with fail
        go_loopw [17] (fun i wz => i = .int .i64 (q : Int) ∧ wz = wx) (fun _ _ => 0)
        case atStart => exact ⟨rfl, rfl⟩
        case round =>
          obtain ⟨rfl, rfl⟩ := hrel
          go_wp2_with fail
          refine bodyPost_ret (results_none rfl _ _ _) rfl ?_
          exact ⟨rfl, hbw.out⟩
  have d2 : ((b : Int) - (m : Int) == 1) = false := by simp; omega
  obtain ⟨md, hmd⟩ : ∃ md : Nat, md = (a + b) / 2 := ⟨_, rfl⟩
  have e1 : ((a : Int) + (b : Int)) / 2 = (md : Int) := by omega
  have hm1 : a < md := by omega
  have hm2 : md < b := by omega
  have hm3 : a + b ≤ 2 * md + 1 := by omega
  have hm4 : 2 * md ≤ a + b := by omega
  have HN := hidE (And.intro h1 h2)
  clear hmd h1 h2
  obtain ⟨nn, hnn⟩ : ∃ nn : Nat, nn = md + m := ⟨_, rfl⟩
  have e2 : (md : Int) + (m : Int) = (nn : Int) := by omega
  obtain ⟨pp, hpp⟩ : ∃ pp : Nat, pp + 1 = nn := ⟨nn - 1, by omega⟩
  have e3 : (nn : Int) - 1 = (pp : Int) := by omega
  have HNN := hidE hnn
  have HPP := hidE hpp
  clear hnn hpp
  by_cases hup : md < m
  · skip
    have dmm : decide ((m : Int) > (md : Int)) = true := by simp; omega
    have dmm' : decide ((md : Int) < (m : Int)) = true := by simp; omega
    obtain ⟨s0, hs0⟩ : ∃ s0 : Nat, s0 + b = nn := ⟨nn - b, by have := HNN.out; omega⟩
    have e4 : (nn : Int) - (b : Int) = (s0 : Int) := by omega
    have hs1 : s0 ≤ md := by have := HNN.out; omega
    have HS0 := hidE hs0
    clear hs0
    have e5 : (nn : Int) - (md : Int) = (m : Int) := by have := HNN.out; omega
    go_enter Tryz.func84, Tryz.ntmps84
    go_wp2_with fail
    go_loopw [20, 21] (fun i j wr => j = .int .i64 (md : Int) ∧ ∃ q : Nat, s0 ≤ q ∧ q ≤ md ∧ i = .int .i64 (q : Int) ∧ Hid (Below w.heap.size w wr)) (fun i _ _ => md - (intOf i).toNat)
    case atStart => exact ⟨rfl, s0, by omega, by omega, rfl, hidE (Below.refl _ _)⟩
    case round =>
      obtain ⟨rfl, q, hq0, hq1, rfl, hbw⟩ := hrel
      by_cases hlt : q < md
      · have d3 : (q : Int) < (md : Int) := by omega
        obtain ⟨h, hh0, hh1, hhe⟩ : ∃ h : Nat, q ≤ h ∧ h < md ∧ ((q : Int) + (md : Int)) / 2 = (h : Int) := ⟨(q + md) / 2, by omega, by omega, by omega⟩
        obtain ⟨g, hg, hge, hgb⟩ : ∃ g : Nat, h < g ∧ (pp : Int) - (h : Int) = (g : Int) ∧ g < b := ⟨pp - h, by have := HNN.out; have := HPP.out; omega, by have := HNN.out; have := HPP.out; omega, by have := HNN.out; have := HPP.out; have := HS0.out; omega⟩
        have dh : (h : Int) < (bs.length : Int) := by omega
        have wg : IntKind.i64.wrap (g : Int) = (g : Int) := IntWalk.i64_in _ (by omega)
        have dg : (g : Int) < (bs.length : Int) := by omega
        obtain ⟨xs, xd, xm, xr, ys, yd, ym, yr, ⟨c0, c1, c2, c3⟩, ⟨e0, e1, e2, e3⟩, HCA⟩ := pair_at HO.out HC.out hbl (i := h) (j := g) (by omega) (by omega) (by omega) hbw.out
        obtain ⟨wx, rfl⟩ : ∃ x : World, x = wr := ⟨wr, rfl⟩
        go_upto_region 35 with fail
        go_still_tail 11, (by kernel_rfl)
        change wpList _ _ _ _ _ wx.drew
        go_wp2_with fail
        refine (HCA.out _).mono ?_
        rintro e w2 ⟨⟨c, rfl, hc⟩, hb2⟩
        have HB2 := hidE (hbw.out.trans (((Below.refl _ _).drew.trans hb2).mono hbw.out.size))
        clear hb2 c0 c1 c2 c3 e0 e1 e2 e3
        go_wp2_with fail
        go_roundw
        case rel => exact ⟨rfl, h + 1, by omega, by omega, by go_num, HB2⟩
        case measure => simp [intOf]; omega
      · obtain rfl : q = md := by omega
        obtain ⟨wx, rfl⟩ : ∃ x : World, x = wr := ⟨wr, rfl⟩
        have g1 : decide ((m : Int) < (m : Int)) = false := by simp
        have IHm := IH.out wx q m b (by omega) (by omega) hmb hb (H0.out.below hbw.out (Nat.le_refl _))
        go_wp2_with fail
        refine IHm.mono ?_
        rintro e w2 ⟨rfl, hb2⟩
        go_wp2_with fail
        go_end0
        exact ⟨rfl, hbw.out.trans (hb2.mono hbw.out.size)⟩
  · skip
    have dmm : decide ((m : Int) > (md : Int)) = false := by simp; omega
    have dmm' : decide ((md : Int) < (m : Int)) = false := by simp; omega
    have e5 : (nn : Int) - (m : Int) = (md : Int) := by have := HNN.out; omega
    go_enter Tryz.func84, Tryz.ntmps84
    go_wp2_with fail
    go_loopw [20, 21] (fun i j wr => j = .int .i64 (m : Int) ∧ ∃ q : Nat, a ≤ q ∧ q ≤ m ∧ i = .int .i64 (q : Int) ∧ Hid (Below w.heap.size w wr)) (fun i _ _ => m - (intOf i).toNat)
    case atStart => exact ⟨rfl, a, by omega, by omega, rfl, hidE (Below.refl _ _)⟩
    case round =>
      obtain ⟨rfl, q, hq0, hq1, rfl, hbw⟩ := hrel
      by_cases hlt : q < m
      · have d3 : (q : Int) < (m : Int) := by omega
        obtain ⟨h, hh0, hh1, hhe⟩ : ∃ h : Nat, q ≤ h ∧ h < m ∧ ((q : Int) + (m : Int)) / 2 = (h : Int) := ⟨(q + m) / 2, by omega, by omega, by omega⟩
        obtain ⟨g, hg, hge, hgb⟩ : ∃ g : Nat, h < g ∧ (pp : Int) - (h : Int) = (g : Int) ∧ g < b := ⟨pp - h, by have := HNN.out; have := HPP.out; omega, by have := HNN.out; have := HPP.out; omega, by have := HNN.out; have := HPP.out; omega⟩
        have dh : (h : Int) < (bs.length : Int) := by omega
        have wg : IntKind.i64.wrap (g : Int) = (g : Int) := IntWalk.i64_in _ (by omega)
        have dg : (g : Int) < (bs.length : Int) := by omega
        obtain ⟨xs, xd, xm, xr, ys, yd, ym, yr, ⟨c0, c1, c2, c3⟩, ⟨e0, e1, e2, e3⟩, HCA⟩ := pair_at HO.out HC.out hbl (i := h) (j := g) (by omega) (by omega) (by omega) hbw.out
        obtain ⟨wx, rfl⟩ : ∃ x : World, x = wr := ⟨wr, rfl⟩
        go_upto_region 35 with fail
        go_still_tail 11, (by kernel_rfl)
        change wpList _ _ _ _ _ wx.drew
        go_wp2_with fail
        refine (HCA.out _).mono ?_
        rintro e w2 ⟨⟨c, rfl, hc⟩, hb2⟩
        have HB2 := hidE (hbw.out.trans (((Below.refl _ _).drew.trans hb2).mono hbw.out.size))
        clear hb2 c0 c1 c2 c3 e0 e1 e2 e3
        go_wp2_with fail
        go_roundw
        case rel => exact ⟨rfl, h + 1, by omega, by omega, by go_num, HB2⟩
        case measure => simp [intOf]; omega
      · obtain rfl : q = m := by omega
        obtain ⟨wx, rfl⟩ : ∃ x : World, x = wr := ⟨wr, rfl⟩
        by_cases hlm : q < md
        · have g2 : decide ((q : Int) < (md : Int)) = true := by simp; omega
          have IHm := IH.out wx a q md (by omega) ham hlm (by omega) (H0.out.below hbw.out (Nat.le_refl _))
          go_wp2_with fail
          refine IHm.mono ?_
          rintro e w2 ⟨rfl, hb2⟩
          go_wp2_with fail
          go_end0
          exact ⟨rfl, hbw.out.trans (hb2.mono hbw.out.size)⟩
        · have g2 : decide ((q : Int) < (md : Int)) = false := by simp; omega
          go_wp2_with fail
          go_end0
          exact ⟨rfl, hbw.out⟩

end Go.Proofs.YthcmjhellpjllaaGreat
