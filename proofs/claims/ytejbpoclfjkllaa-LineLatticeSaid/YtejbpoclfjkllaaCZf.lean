/- Walk: the law LineLattice. -/
import Derived.Test.YtejbpoclfjkllaaCPlY
import Derived.Test.YtejbpoclfjkllaaCYk
import Derived.Test.YtejbpoclfjkllaaCY2
import Derived.Test.YtejbpoclfjkllaaA5
import Derived.Test.YtejbpoclfjkllaaCY8
import Derived.Test.YtejbpoclfjkllaaCYf
import Derived.Test.YtejbpoclfjkllaaCY4
import Derived.Deep.DeepCutAuto
namespace Go.Proofs.Ytejbpoclfjkllaa
open Go Go.RowKit Go.Shelf

theorem wp_named {P : Program} {c : Code} {Q : Exit → Act → World → Prop} {a : Act} {w : World} (h : ∀ W, W = w → c.wp P Q a W) : c.wp P Q a w := h w rfl
theorem wpAnyF_takeD {P : Program} {ops : Array Oper} {Q : Exit → Act → World → Prop} {md : Region.Mode} {S : World → Prop} {last : Nat} {i d : Nat} {oi : Oper} {v : Value} {fuel : Nat} {listed : Array Bool} {a : Act} {w : World} (hl : waitsAll md ops last = true) (hil : i ≠ last) (hi : ops[i]? = some oi) (hd : oi.dst = some d)
    (hs : Region.noSelect ops = true) (hf : Region.free md ops listed i = true) (hr : (Region.ready md ops listed).contains i = true)
    (hQ : ∀ c a w, Q (.panic c) (a.put oi.dst v) w → Q (.panic c) a w) (hy : YieldsIf P ops S oi v a) (hS : S w)
    (h : wpAnyF P md ops Q S last fuel (listed.setIfInBounds i true) { a with tmps := a.tmps.setIfInBounds d v } w) : wpAnyF P md ops Q S last (fuel + 1) listed a w :=
  wpAnyF_take hl hil hi hs hf hr hQ hy hS (by rw [hd]; exact h)
theorem row_drewN {W Y : World} {n b : Nat} (h : Y = W.drewN n) {l : List Int} (hr : W.heap[b]? = some (.cells (rowA l) 3 (0,0))) : Hid (Y.heap[b]? = some (.cells (rowA l) 3 (0,0))) := by
  subst h; exact hidE hr
theorem below_drewN_of {B : Nat} {V W Y : World} {n : Nat} (h : Y = W.drewN n) (hb : Below B V W) : Hid (Below B V Y) := by
  subst h; exact hidE (hb.trans (below_drewN' _ _))
/-- Kept, at a row that is kept. -/
theorem kept_row (W : World) (k : Nat) (a : Option Addr) (cap : Nat) (bs : List Bd) (b : Nat) (l : List Int) (hlen : l.length = k) (hN : i64ok (k : Int)) (hl : bs.length ≤ 9223372036854775807) (h : BoundsAt W a bs) (hrow : W.heap[b]? = some (.cells (rowA l) 3 (0,0))) (h1 : (keptE k bs l).2.1 = true) (h2 : (keptE k bs l).2.2 = 0) :
    Calls Try.prog 46 #[.agg #[.int .i64 (k : Int), .slice a bs.length cap], .slice (some ⟨b, 0, none⟩) k k] W fun e w' => (∃ m, e = .returned (.tuple #[.int .i64 m, .bool true, .int .i64 0])) ∧ Below W.heap.size W w' := by
  subst hlen
  have hb : l.length ≤ 9223372036854775807 := by unfold i64ok at hN; omega
  have := kept_any W l.length a cap bs (some ⟨b, 0, none⟩) l.length l hN hl hb h (ints_of_row hrow)
  rw [h1, h2] at this
  exact this.mono fun e w' q => ⟨⟨_, q.1⟩, q.2⟩
theorem fill_get (f : Nat → Int) (v : Int) (N k : Nat) : ((List.range (k + 1)).map f ++ List.replicate N v).getD k 0 = f k := by
  rw [List.getD_eq_getElem?_getD, List.getElem?_append_left (by simp)]
  simp

set_option maxRecDepth 100000 in
set_option maxHeartbeats 8000000 in
theorem lineLattice_any (w : World) (N : Int) (a : Option Addr) (cap : Nat) (bs : List Bd) (a2 : Option Addr) (cap2 : Nat) (y : List Int) (a3 : Option Addr) (cap3 : Nat) (z : List Int) (hN : i64ok N) (hl : bs.length ≤ 9223372036854775807) (hl2 : y.length ≤ 9223372036854775807) (hl3 : z.length ≤ 9223372036854775807) (h : BoundsAt w a bs) (h2 : IntsAt w a2 y) (h3 : IntsAt w a3 z) :
    Calls Try.prog 17 #[.agg #[.int .i64 N, .slice a bs.length cap], .slice a2 y.length cap2, .slice a3 z.length cap3] w fun e w' => e = .returned (.bool true) ∧ Below w.heap.size w w' := by
  have b0 : Below w.heap.size w (w.alloc (.cells #[.int .i64 N, .slice a bs.length cap] 24)) := (Below.refl _ _).alloc (Nat.le_refl _) _
  obtain ⟨f, hf⟩ : ∃ f, fewP N bs.length 14 40 = f := ⟨_, rfl⟩
  have hs := fun W => someL_any W N a cap bs.length
  rw [hf] at hs
  have B0 := hidE b0
  have HN := hidE hN
  have H := hidE h
  have H2 := hidE h2
  have H3 := hidE h3
  have HS := hidE hs
  clear b0 hN h h2 h3 hs hf
  by_cases hg : f = false ∨ 20 < y.length ∨ 20 < z.length
  · rcases f with _ | _
    · clear hg
      go_enter Try.func17, Try.ntmps17
      go_wp2_with fail
      refine (HS.out _).mono ?_
      rintro e w1 ⟨rfl, hb1⟩
      have B1 := hidE (B0.out.trans (hb1.mono B0.out.size))
      go_wp2_with fail
      refine (alive_any _).mono ?_
      rintro e w2 ⟨rfl, hb2⟩
      go_wp2_with fail
      go_ret
      exact ⟨rfl, B1.out.trans (hb2.mono B1.out.size)⟩
    · by_cases hy : 20 < y.length
      · have hd : decide ((y.length : Int) > 20) = true := by simp; omega
        clear hg hy
        go_enter Try.func17, Try.ntmps17
        go_wp2_with fail
        refine (HS.out _).mono ?_
        rintro e w1 ⟨rfl, hb1⟩
        have B1 := hidE (B0.out.trans (hb1.mono B0.out.size))
        go_wp2_with fail
        refine (alive_any _).mono ?_
        rintro e w2 ⟨rfl, hb2⟩
        go_wp2_with fail
        go_ret
        exact ⟨rfl, B1.out.trans (hb2.mono B1.out.size)⟩
      · have hz : 20 < z.length := by simpa [hy] using hg
        have hd : decide ((y.length : Int) > 20) = false := by simp; omega
        have hd2 : decide ((z.length : Int) > 20) = true := by simp; omega
        clear hg hy hz
        go_enter Try.func17, Try.ntmps17
        go_wp2_with fail
        refine (HS.out _).mono ?_
        rintro e w1 ⟨rfl, hb1⟩
        have B1 := hidE (B0.out.trans (hb1.mono B0.out.size))
        go_wp2_with fail
        refine (alive_any _).mono ?_
        rintro e w2 ⟨rfl, hb2⟩
        go_wp2_with fail
        go_ret
        exact ⟨rfl, B1.out.trans (hb2.mono B1.out.size)⟩
  obtain rfl : f = true := by rcases f with _ | _ <;> simp_all
  have hy20 : y.length ≤ 20 := by omega
  have hz20 : z.length ≤ 20 := by omega
  have hd1 : decide ((y.length : Int) > 20) = false := by simp; omega
  have hd2 : decide ((z.length : Int) > 20) = false := by simp; omega
  have hle := fun W hb => least_any W N a cap bs HN.out hl hb
  have hgr := fun W hb => greatest_any W N a cap bs HN.out hl hb
  have hky := fun W hb hb2 => kept_any W N a cap bs a2 cap2 y HN.out hl hl2 hb hb2
  have hkz := fun W hb hb2 => kept_any W N a cap bs a3 cap3 z HN.out hl hl3 hb hb2
  obtain ⟨⟨lo, e⟩, hlo⟩ : ∃ t, leastE N bs = t := ⟨_, rfl⟩
  obtain ⟨⟨hi, f⟩, hhi⟩ : ∃ t, greatestE N bs = t := ⟨_, rfl⟩
  have hone1 := lattice_one (N := N) (bs := bs) (.inl hlo)
  have hone2 := lattice_one (N := N) (bs := bs) (.inr hhi)
  have htwo := lattice_two (y := y) (z := z) hlo hhi
  obtain ⟨⟨y0, ky, ey⟩, hKy⟩ : ∃ t, keptE N bs y = t := ⟨_, rfl⟩
  obtain ⟨⟨z0, kz, ez⟩, hKz⟩ : ∃ t, keptE N bs z = t := ⟨_, rfl⟩
  have hey : ky = true → ey = 0 := fun h => by have := (keptE_bad (N := N) (bs := bs) (y := y) (by rw [hKy]; exact h)).1; rw [hKy] at this; exact this
  have hez : kz = true → ez = 0 := fun h => by have := (keptE_bad (N := N) (bs := bs) (y := z) (by rw [hKz]; exact h)).1; rw [hKz] at this; exact this
  rw [hlo] at hle
  rw [hhi] at hgr
  rw [hKy] at hky htwo
  rw [hKz] at hkz htwo
  simp only at hle hgr hky hkz htwo
  have HLE := hidE hle
  have HGR := hidE hgr
  have HKY := hidE hky
  have HKZ := hidE hkz
  have ONE1 := hidE hone1
  have ONE2 := hidE hone2
  have TWO := hidE htwo
  have HEY := hidE hey
  have HEZ := hidE hez
  clear hle hgr hky hkz hone1 hone2 htwo hlo hhi hKy hKz hg hey hez
  go_enter Try.func17, Try.ntmps17
  go_wp2_with fail
  refine (HS.out _).mono ?_
  rintro _ w1 ⟨rfl, hb1⟩
  have x1 := blk_below hb1 (by simp) (heap_alloc_new w (.cells #[.int .i64 N, .slice a bs.length cap] 24))
  have e0 : w1.cell? ⟨w.heap.size, 0, none⟩ = some (.int .i64 N) := by rw [cell_of_row _ _ _ _ _ _ x1]; rfl
  have e1 : w1.cell? ⟨w.heap.size, 1, none⟩ = some (.slice a bs.length cap) := by rw [cell_of_row _ _ _ _ _ _ x1]; rfl
  have X1 := hidE x1
  have B1 := hidE (B0.out.trans (hb1.mono B0.out.size))
  clear x1 hb1
  go_wp2_with fail
  refine (HLE.out _ (H.out.below B1.out (Nat.le_refl _))).mono ?_
  rintro _ w2 ⟨⟨v2, rfl, ho2⟩, hb2⟩
  obtain ⟨o2, c2, rfl, hi2⟩ := owns_intsAt ho2
  have X2 := hidE (blk_below hb2 (lt_of_block X1.out) X1.out)
  have B2 := hidE (B1.out.trans (hb2.mono B1.out.size))
  have I2 := hidE hi2
  clear e0 e1 hb2 ho2 hi2
  have e0 : w2.cell? ⟨w.heap.size, 0, none⟩ = some (.int .i64 N) := by rw [cell_of_row _ _ _ _ _ _ X2.out]; rfl
  have e1 : w2.cell? ⟨w.heap.size, 1, none⟩ = some (.slice a bs.length cap) := by rw [cell_of_row _ _ _ _ _ _ X2.out]; rfl
  go_wp2_with fail
  refine (HGR.out _ (H.out.below B2.out (Nat.le_refl _))).mono ?_
  rintro _ w3 ⟨⟨v3, rfl, ho3⟩, hb3⟩
  obtain ⟨o3, c3, rfl, hi3⟩ := owns_intsAt ho3
  have X3 := hidE (blk_below hb3 (lt_of_block X2.out) X2.out)
  have B3 := hidE (B2.out.trans (hb3.mono B2.out.size))
  have J2 := hidE (I2.out.below hb3 (Nat.le_refl _))
  have J3 := hidE hi3
  clear e0 e1 hb3 ho3 hi3
  have e0 : w3.cell? ⟨w.heap.size, 0, none⟩ = some (.int .i64 N) := by rw [cell_of_row _ _ _ _ _ _ X3.out]; rfl
  have e1 : w3.cell? ⟨w.heap.size, 1, none⟩ = some (.slice a bs.length cap) := by rw [cell_of_row _ _ _ _ _ _ X3.out]; rfl
  go_wp2_with fail
  refine (HKY.out _ (H.out.below B3.out (Nat.le_refl _)) (H2.out.below B3.out (Nat.le_refl _))).mono ?_
  rintro _ w4 ⟨rfl, hb4⟩
  have X4 := hidE (blk_below hb4 (lt_of_block X3.out) X3.out)
  have B4 := hidE (B3.out.trans (hb4.mono B3.out.size))
  have L2 := hidE (J2.out.below hb4 (Nat.le_refl _))
  have L3 := hidE (J3.out.below hb4 (Nat.le_refl _))
  clear e0 e1 hb4
  have e0 : w4.cell? ⟨w.heap.size, 0, none⟩ = some (.int .i64 N) := by rw [cell_of_row _ _ _ _ _ _ X4.out]; rfl
  have e1 : w4.cell? ⟨w.heap.size, 1, none⟩ = some (.slice a bs.length cap) := by rw [cell_of_row _ _ _ _ _ _ X4.out]; rfl
  go_wp2_with fail
  refine (HKZ.out _ (H.out.below B4.out (Nat.le_refl _)) (H3.out.below B4.out (Nat.le_refl _))).mono ?_
  rintro _ w5 ⟨rfl, hb5⟩
  have X5 := hidE (blk_below hb5 (lt_of_block X4.out) X4.out)
  have B5 := hidE (B4.out.trans (hb5.mono B4.out.size))
  have M2 := hidE (L2.out.below hb5 (Nat.le_refl _))
  have M3 := hidE (L3.out.below hb5 (Nat.le_refl _))
  clear e0 e1 hb5
  go_upto_region 7 with fail
  go_upto_region 8 with fail
  obtain ⟨w6, hW6⟩ : ∃ X, X = w5.alloc (.cells #[.slice o2 lo.length c2, .slice o3 hi.length c3] 27) := ⟨_, rfl⟩
  rw [← hW6]
  have hb6 : Below w5.heap.size w5 w6 := by rw [hW6]; exact (Below.refl _ _).alloc (Nat.le_refl _) _
  have X6 := hidE (blk_below hb6 (lt_of_block X5.out) X5.out)
  have Y6 : Hid (w6.heap[w5.heap.size]? = some (.cells #[.slice o2 lo.length c2, .slice o3 hi.length c3] 27 (0,0))) := hidE (by rw [hW6]; exact heap_alloc_new _ _)
  have B6 := hidE (B5.out.trans (hb6.mono B5.out.size))
  have N2 := hidE (M2.out.below hb6 (Nat.le_refl _))
  have N3 := hidE (M3.out.below hb6 (Nat.le_refl _))
  clear hW6 hb6
  go_loopw [73] (fun i wr => ∃ k : Nat, k ≤ 2 ∧ i = .int .i64 k ∧ Hid (Below w6.heap.size w6 wr)) (fun i _ => 2 - (intOf i).toNat)
  case atStart => exact ⟨0, by omega, rfl, hidE (Below.refl _ _)⟩
  case round =>
    obtain ⟨k, hk, rfl, hb⟩ := hrel
    have Y7 := hidE (blk_below hb.out (lt_of_block Y6.out) Y6.out)
    have X7 := hidE (blk_below hb.out (lt_of_block X6.out) X6.out)
    have B7 := hidE (B6.out.trans (hb.out.mono B6.out.size))
    by_cases hlt : k < 2
    · obtain ⟨oL, cL, L, hcell, hIL, hL⟩ : ∃ (oL : Option Addr) (cL : Nat) (L : List Int), wr.cell? ⟨w5.heap.size, k, none⟩ = some (.slice oL L.length cL) ∧ Hid (IntsAt wr oL L) ∧ Hid (L = [] ∨ ((keptE N bs L).2.1 = true ∧ (keptE N bs L).2.2 = 0 ∧ (L.length : Int) = N)) := by
        rcases (show k = 0 ∨ k = 1 by omega) with rfl | rfl
        · exact ⟨o2, c2, lo, by rw [cell_of_row _ _ _ _ _ _ Y7.out]; rfl, hidE (N2.out.below hb.out (Nat.le_refl _)), ONE1⟩
        · exact ⟨o3, c3, hi, by rw [cell_of_row _ _ _ _ _ _ Y7.out]; rfl, hidE (N3.out.below hb.out (Nat.le_refl _)), ONE2⟩
      have k2 : (k : Int) < 2 := by omega
      by_cases h0 : L = []
      · subst h0
        simp only [List.length_nil] at hcell
        go_wp2_with fail
        go_roundw
        case rel => exact ⟨k + 1, by omega, by go_num, hb⟩
        case measure => simp [intOf]; omega
      · have hpos := List.length_pos_iff.2 h0
        obtain ⟨q1, q2, q3⟩ := hL.out.resolve_left h0
        have hd : decide ((L.length : Int) > 0) = true := by simp; omega
        have hLl : L.length ≤ 9223372036854775807 := by have := HN.out; unfold i64ok at this; omega
        have hkk := fun W hb hb2 => kept_any W N a cap bs oL cL L HN.out hl hLl hb hb2
        obtain ⟨⟨l0, lk, le⟩, hK⟩ : ∃ t, keptE N bs L = t := ⟨_, rfl⟩
        rw [hK] at hkk q1 q2
        simp only at hkk q1 q2
        subst q1
        subst q2
        have HKK := hidE hkk
        have e0 : wr.cell? ⟨w.heap.size, 0, none⟩ = some (.int .i64 N) := by rw [cell_of_row _ _ _ _ _ _ X7.out]; rfl
        have e1 : wr.cell? ⟨w.heap.size, 1, none⟩ = some (.slice a bs.length cap) := by rw [cell_of_row _ _ _ _ _ _ X7.out]; rfl
        clear hkk hK h0 hL q3
        go_wp2_with fail
        refine (HKK.out _ (H.out.below B7.out (Nat.le_refl _)) hIL.out).mono ?_
        rintro _ w8 ⟨rfl, hb8⟩
        go_wp2_with fail
        go_roundw
        case rel => exact ⟨k + 1, by omega, by go_num, hidE (hb.out.trans (hb8.mono hb.out.size))⟩
        case measure => simp [intOf]; omega
    · obtain rfl : k = 2 := by omega
      rw [show ((2 : Nat) : Int) = 2 from rfl]
      obtain ⟨w7, rfl⟩ : ∃ x : World, x = wr := ⟨wr, rfl⟩
      by_cases hall : ky = true ∧ kz = true
      · obtain ⟨rfl, rfl⟩ := hall
        have c1 := HEY.out rfl
        have c2' := HEZ.out rfl
        subst c1
        subst c2'
        obtain ⟨R, rfl, r1, r2, hy, hz, hlow, hhigh, k1, k1e, k2, k2e⟩ := TWO.out rfl rfl
        have hmk3 := fun W => run_make_row' (P := Try.prog) 27 3 (.int .i64 0) 8 Try.underlying27 Try.info3' rfl .i64 .i64 R (by omega) (by omega) W
        have e0 : w7.cell? ⟨w.heap.size, 0, none⟩ = some (.int .i64 (R : Int)) := by rw [cell_of_row _ _ _ _ _ _ X7.out]; rfl
        have l0 : w.heap.size < w7.heap.size := lt_of_block X7.out
        have HY := hidE hy
        have HZ := hidE hz
        have LOW := hidE hlow
        have HIGH := hidE hhigh
        have K1 := hidE k1
        have K1E := hidE k1e
        have K2 := hidE k2
        have K2E := hidE k2e
        have P2 := hidE (N2.out.below hb.out (Nat.le_refl _))
        have P3 := hidE (N3.out.below hb.out (Nat.le_refl _))
        clear hy hz hlow hhigh k1 k1e k2 k2e TWO hy20 hz20 hd1 hd2 ONE1 ONE2 HEY HEZ HLE HGR HKY HKZ HS
        go_wp2_with fail
        go_cut [22, 23] (fun s4 s5 wx => ∃ bo bg : Nat, s4 = .slice (some ⟨bo, 0, none⟩) R R ∧ s5 = .slice (some ⟨bg, 0, none⟩) R R ∧ bo ≠ bg ∧ w7.heap.size ≤ bo ∧ w7.heap.size ≤ bg ∧ Hid (wx.heap[bo]? = some (.cells (rowA (List.replicate R 0)) 3 (0,0))) ∧ Hid (wx.heap[bg]? = some (.cells (rowA (List.replicate R 0)) 3 (0,0))) ∧ Hid (Below w7.heap.size w7 wx))
        case first =>
          go_region_held3 (fun w' => w'.cell? ⟨w.heap.size, 0, none⟩ = some (.int .i64 (R : Int))) (go_keep) (fail)
          all_goals (go_wp2_with fail; go_meet)
          all_goals first
            | exact ⟨w7.heap.size, w7.heap.size + 1, rfl, rfl, by omega, by omega, by omega, hidE (by rw [← madeInts]; exact (Below.heap_alloc _ _ _ (by simp)).trans (heap_alloc_new _ _)), hidE (by rw [← madeInts]; exact heap_alloc_at _ _ _ (by simp)), hidE (((Below.refl _ _).alloc (Nat.le_refl _) _).alloc (by simp) _).drew⟩
            | exact ⟨w7.heap.size + 1, w7.heap.size, rfl, rfl, by omega, by omega, by omega, hidE (by rw [← madeInts]; exact heap_alloc_at _ _ _ (by simp)), hidE (by rw [← madeInts]; exact (Below.heap_alloc _ _ _ (by simp)).trans (heap_alloc_new _ _)), hidE (((Below.refl _ _).alloc (Nat.le_refl _) _).alloc (by simp) _).drew⟩
        case rest =>
          obtain ⟨bo, bg, rfl, rfl, hne, hbo, hbg, ho, hgg, hbl⟩ := hcut
          obtain ⟨wA, rfl⟩ : ∃ x : World, x = wc := ⟨wc, rfl⟩
          have eA : wA.cell? ⟨w.heap.size, 0, none⟩ = some (.int .i64 (R : Int)) := (hbl.out.cell (by exact l0)).trans e0
          clear hmk3 e0
          obtain ⟨yb, yo, rfl, yl, yc⟩ := H2.out.resolve_left (by intro q; subst q; have := HY.out; simp at this; omega)
          obtain ⟨zb, zo, rfl, zl, zc⟩ := H3.out.resolve_left (by intro q; subst q; have := HZ.out; simp at this; omega)
          have YC := hidE yc
          have ZC := hidE zc
          clear yc zc
          go_wp2_with fail
          rw [HY.out, HZ.out]
          obtain ⟨vlo, hvlo⟩ : ∃ v, v = Value.slice o2 lo.length c2 := ⟨_, rfl⟩
          obtain ⟨vhi, hvhi⟩ : ∃ v, v = Value.slice o3 hi.length c3 := ⟨_, rfl⟩
          rw [← hvlo, ← hvhi]
          have HVLO := hidE hvlo
          have HVHI := hidE hvhi
          clear hvlo hvhi
          go_loopw [117] (fun i wx => ∃ k : Nat, k ≤ R ∧ i = .int .i64 k ∧ Hid (wx.heap[bo]? = some (.cells (rowA ((List.range k).map (fun p => min (y.getD p 0) (z.getD p 0)) ++ List.replicate (R - k) 0)) 3 (0,0))) ∧ Hid (wx.heap[bg]? = some (.cells (rowA ((List.range k).map (fun p => max (y.getD p 0) (z.getD p 0)) ++ List.replicate (R - k) 0)) 3 (0,0))) ∧ Hid (Below w7.heap.size w7 wx)) (fun i _ => R - (intOf i).toNat)
          case atStart => exact ⟨0, Nat.zero_le _, rfl, by simpa using ho, by simpa using hgg, hbl⟩
          case round =>
            obtain ⟨k, hk, rfl, h1, h2, h4⟩ := hrel
            have X8 := hidE (blk_below h4.out l0 X7.out)
            have B8 := hidE (B7.out.trans (h4.out.mono B7.out.size))
            have e0 : wr.cell? ⟨w.heap.size, 0, none⟩ = some (.int .i64 (R : Int)) := by rw [cell_of_row _ _ _ _ _ _ X8.out]; rfl
            by_cases hlt : k < R
            · have kR : (k : Int) < (R : Int) := by omega
              have cy : wr.cell? ⟨yb, yo + k, none⟩ = some (.int .i64 (y.getD k 0)) := by
                rw [getD_get y 0 (by rw [HY.out]; exact hlt)]; exact (B8.out.cell (p := ⟨yb, yo + k, none⟩) yl).trans (YC.out k (by rw [HY.out]; exact hlt))
              have cz : wr.cell? ⟨zb, zo + k, none⟩ = some (.int .i64 (z.getD k 0)) := by
                rw [getD_get z 0 (by rw [HZ.out]; exact hlt)]; exact (B8.out.cell (p := ⟨zb, zo + k, none⟩) zl).trans (ZC.out k (by rw [HZ.out]; exact hlt))
              obtain ⟨xo, hxo⟩ : ∃ xo, ((List.range k).map (fun p => min (y.getD p 0) (z.getD p 0)) ++ List.replicate (R - k) 0).getD k 0 = xo := ⟨_, rfl⟩
              obtain ⟨xg, hxg⟩ : ∃ xg, ((List.range k).map (fun p => max (y.getD p 0) (z.getD p 0)) ++ List.replicate (R - k) 0).getD k 0 = xg := ⟨_, rfl⟩
              have co : wr.cell? ⟨bo, k, none⟩ = some (.int .i64 xo) := by rw [cell_of_row _ _ _ _ _ _ h1.out, rowA_get (by simp; omega), hxo]
              have fo : wr.frozen? ⟨bo, k, none⟩ = false := frozen_of_row _ _ _ _ _ h1.out
              have cg : wr.cell? ⟨bg, k, none⟩ = some (.int .i64 xg) := by rw [cell_of_row _ _ _ _ _ _ h2.out, rowA_get (by simp; omega), hxg]
              have fg : wr.frozen? ⟨bg, k, none⟩ = false := frozen_of_row _ _ _ _ _ h2.out
              have hne' : ¬ bg = bo := fun e => hne e.symm
              have nyo : yb ≠ bo := by have := Nat.lt_of_lt_of_le yl B7.out.size; omega
              have nzo : zb ≠ bo := by have := Nat.lt_of_lt_of_le zl B7.out.size; omega
              obtain ⟨yv, hyv⟩ : ∃ v, y.getD k 0 = v := ⟨_, rfl⟩
              obtain ⟨zv, hzv⟩ : ∃ v, z.getD k 0 = v := ⟨_, rfl⟩
              rw [hyv] at cy
              rw [hzv] at cz
              have HYV := hidE hyv
              have HZV := hidE hzv
              clear hyv hzv hxo hxg
              go_wp2_with fail
              refine wp_region_F (S := fun V => V.cell? ⟨yb, yo + k, none⟩ = some (.int .i64 yv) ∧ V.cell? ⟨zb, zo + k, none⟩ = some (.int .i64 zv)) (last := 25) (by kernel_rfl) ?_
              have hS0 : wr.drew.cell? ⟨yb, yo + k, none⟩ = some (.int .i64 yv) ∧ wr.drew.cell? ⟨zb, zo + k, none⟩ = some (.int .i64 zv) := ⟨cy, cz⟩
              refine wpAnyF_takeD (i := 0) (d := 120) (v := .slice (some ⟨bo, 0, none⟩) R R) (by kernel_rfl) (by decide) rfl rfl (by kernel_rfl) (by kernel_rfl) (by kernel_rfl) (fun _ _ _ h => h) (.inl ⟨rfl, fun V hV => ?_⟩) hS0 ?_
              · obtain ⟨q1, q2⟩ := hV
                simp [go_sem, execOp]
              simp only [List.setIfInBounds_toArray]
              refine wpAnyF_takeD (i := 1) (d := 121) (v := .int .i64 (k : Int)) (by kernel_rfl) (by decide) rfl rfl (by kernel_rfl) (by kernel_rfl) (by kernel_rfl) (fun _ _ _ h => h) (.inl ⟨rfl, fun V hV => ?_⟩) hS0 ?_
              · obtain ⟨q1, q2⟩ := hV
                simp [go_sem, execOp]
              simp only [List.setIfInBounds_toArray, List.set_cons_succ, List.set_cons_zero]
              refine wpAnyF_takeD (i := 2) (d := 122) (v := .slice (some ⟨bg, 0, none⟩) R R) (by kernel_rfl) (by decide) rfl rfl (by kernel_rfl) (by kernel_rfl) (by kernel_rfl) (fun _ _ _ h => h) (.inl ⟨rfl, fun V hV => ?_⟩) hS0 ?_
              · obtain ⟨q1, q2⟩ := hV
                simp [go_sem, execOp]
              simp only [List.setIfInBounds_toArray, List.set_cons_succ, List.set_cons_zero]
              refine wpAnyF_takeD (i := 3) (d := 123) (v := .int .i64 (k : Int)) (by kernel_rfl) (by decide) rfl rfl (by kernel_rfl) (by kernel_rfl) (by kernel_rfl) (fun _ _ _ h => h) (.inl ⟨rfl, fun V hV => ?_⟩) hS0 ?_
              · obtain ⟨q1, q2⟩ := hV
                simp [go_sem, execOp]
              simp only [List.setIfInBounds_toArray, List.set_cons_succ, List.set_cons_zero]
              refine wpAnyF_takeD (i := 4) (d := 124) (v := .slice (some ⟨yb, yo, none⟩) R cap2) (by kernel_rfl) (by decide) rfl rfl (by kernel_rfl) (by kernel_rfl) (by kernel_rfl) (fun _ _ _ h => h) (.inl ⟨rfl, fun V hV => ?_⟩) hS0 ?_
              · obtain ⟨q1, q2⟩ := hV
                simp [go_sem, execOp]
              simp only [List.setIfInBounds_toArray, List.set_cons_succ, List.set_cons_zero]
              refine wpAnyF_takeD (i := 5) (d := 125) (v := .int .i64 (k : Int)) (by kernel_rfl) (by decide) rfl rfl (by kernel_rfl) (by kernel_rfl) (by kernel_rfl) (fun _ _ _ h => h) (.inl ⟨rfl, fun V hV => ?_⟩) hS0 ?_
              · obtain ⟨q1, q2⟩ := hV
                simp [go_sem, execOp]
              simp only [List.setIfInBounds_toArray, List.set_cons_succ, List.set_cons_zero]
              refine wpAnyF_takeD (i := 6) (d := 126) (v := .pointer (some ⟨yb, yo + k, none⟩)) (by kernel_rfl) (by decide) rfl rfl (by kernel_rfl) (by kernel_rfl) (by kernel_rfl) (fun _ _ _ h => h) (.inl ⟨rfl, fun V hV => ?_⟩) hS0 ?_
              · obtain ⟨q1, q2⟩ := hV
                simp [go_sem, execOp, kR]
              simp only [List.setIfInBounds_toArray, List.set_cons_succ, List.set_cons_zero]
              refine wpAnyF_takeD (i := 7) (d := 127) (v := .int .i64 yv) (by kernel_rfl) (by decide) rfl rfl (by kernel_rfl) (by kernel_rfl) (by kernel_rfl) (fun _ _ _ h => h) (.inl ⟨rfl, fun V hV => ?_⟩) hS0 ?_
              · obtain ⟨q1, q2⟩ := hV
                simp [go_sem, execOp, q1]
              simp only [List.setIfInBounds_toArray, List.set_cons_succ, List.set_cons_zero]
              refine wpAnyF_takeD (i := 8) (d := 128) (v := .slice (some ⟨zb, zo, none⟩) R cap3) (by kernel_rfl) (by decide) rfl rfl (by kernel_rfl) (by kernel_rfl) (by kernel_rfl) (fun _ _ _ h => h) (.inl ⟨rfl, fun V hV => ?_⟩) hS0 ?_
              · obtain ⟨q1, q2⟩ := hV
                simp [go_sem, execOp]
              simp only [List.setIfInBounds_toArray, List.set_cons_succ, List.set_cons_zero]
              refine wpAnyF_takeD (i := 9) (d := 129) (v := .int .i64 (k : Int)) (by kernel_rfl) (by decide) rfl rfl (by kernel_rfl) (by kernel_rfl) (by kernel_rfl) (fun _ _ _ h => h) (.inl ⟨rfl, fun V hV => ?_⟩) hS0 ?_
              · obtain ⟨q1, q2⟩ := hV
                simp [go_sem, execOp]
              simp only [List.setIfInBounds_toArray, List.set_cons_succ, List.set_cons_zero]
              refine wpAnyF_takeD (i := 10) (d := 130) (v := .pointer (some ⟨zb, zo + k, none⟩)) (by kernel_rfl) (by decide) rfl rfl (by kernel_rfl) (by kernel_rfl) (by kernel_rfl) (fun _ _ _ h => h) (.inl ⟨rfl, fun V hV => ?_⟩) hS0 ?_
              · obtain ⟨q1, q2⟩ := hV
                simp [go_sem, execOp, kR]
              simp only [List.setIfInBounds_toArray, List.set_cons_succ, List.set_cons_zero]
              refine wpAnyF_takeD (i := 11) (d := 131) (v := .int .i64 zv) (by kernel_rfl) (by decide) rfl rfl (by kernel_rfl) (by kernel_rfl) (by kernel_rfl) (fun _ _ _ h => h) (.inl ⟨rfl, fun V hV => ?_⟩) hS0 ?_
              · obtain ⟨q1, q2⟩ := hV
                simp [go_sem, execOp, q2]
              simp only [List.setIfInBounds_toArray, List.set_cons_succ, List.set_cons_zero]
              refine wpAnyF_takeD (i := 12) (d := 132) (v := .int .i64 (min yv zv)) (by kernel_rfl) (by decide) rfl rfl (by kernel_rfl) (by kernel_rfl) (by kernel_rfl) (fun _ _ _ h => h) (.inl ⟨rfl, fun V hV => ?_⟩) hS0 ?_
              · obtain ⟨q1, q2⟩ := hV
                simp [go_sem, execOp]
              simp only [List.setIfInBounds_toArray, List.set_cons_succ, List.set_cons_zero]
              refine wpAnyF_takeD (i := 13) (d := 133) (v := .slice (some ⟨yb, yo, none⟩) R cap2) (by kernel_rfl) (by decide) rfl rfl (by kernel_rfl) (by kernel_rfl) (by kernel_rfl) (fun _ _ _ h => h) (.inl ⟨rfl, fun V hV => ?_⟩) hS0 ?_
              · obtain ⟨q1, q2⟩ := hV
                simp [go_sem, execOp]
              simp only [List.setIfInBounds_toArray, List.set_cons_succ, List.set_cons_zero]
              refine wpAnyF_takeD (i := 14) (d := 134) (v := .int .i64 (k : Int)) (by kernel_rfl) (by decide) rfl rfl (by kernel_rfl) (by kernel_rfl) (by kernel_rfl) (fun _ _ _ h => h) (.inl ⟨rfl, fun V hV => ?_⟩) hS0 ?_
              · obtain ⟨q1, q2⟩ := hV
                simp [go_sem, execOp]
              simp only [List.setIfInBounds_toArray, List.set_cons_succ, List.set_cons_zero]
              refine wpAnyF_takeD (i := 15) (d := 135) (v := .pointer (some ⟨yb, yo + k, none⟩)) (by kernel_rfl) (by decide) rfl rfl (by kernel_rfl) (by kernel_rfl) (by kernel_rfl) (fun _ _ _ h => h) (.inl ⟨rfl, fun V hV => ?_⟩) hS0 ?_
              · obtain ⟨q1, q2⟩ := hV
                simp [go_sem, execOp, kR]
              simp only [List.setIfInBounds_toArray, List.set_cons_succ, List.set_cons_zero]
              refine wpAnyF_takeD (i := 16) (d := 136) (v := .int .i64 yv) (by kernel_rfl) (by decide) rfl rfl (by kernel_rfl) (by kernel_rfl) (by kernel_rfl) (fun _ _ _ h => h) (.inl ⟨rfl, fun V hV => ?_⟩) hS0 ?_
              · obtain ⟨q1, q2⟩ := hV
                simp [go_sem, execOp, q1]
              simp only [List.setIfInBounds_toArray, List.set_cons_succ, List.set_cons_zero]
              refine wpAnyF_takeD (i := 17) (d := 137) (v := .slice (some ⟨zb, zo, none⟩) R cap3) (by kernel_rfl) (by decide) rfl rfl (by kernel_rfl) (by kernel_rfl) (by kernel_rfl) (fun _ _ _ h => h) (.inl ⟨rfl, fun V hV => ?_⟩) hS0 ?_
              · obtain ⟨q1, q2⟩ := hV
                simp [go_sem, execOp]
              simp only [List.setIfInBounds_toArray, List.set_cons_succ, List.set_cons_zero]
              refine wpAnyF_takeD (i := 18) (d := 138) (v := .int .i64 (k : Int)) (by kernel_rfl) (by decide) rfl rfl (by kernel_rfl) (by kernel_rfl) (by kernel_rfl) (fun _ _ _ h => h) (.inl ⟨rfl, fun V hV => ?_⟩) hS0 ?_
              · obtain ⟨q1, q2⟩ := hV
                simp [go_sem, execOp]
              simp only [List.setIfInBounds_toArray, List.set_cons_succ, List.set_cons_zero]
              refine wpAnyF_takeD (i := 19) (d := 139) (v := .pointer (some ⟨zb, zo + k, none⟩)) (by kernel_rfl) (by decide) rfl rfl (by kernel_rfl) (by kernel_rfl) (by kernel_rfl) (fun _ _ _ h => h) (.inl ⟨rfl, fun V hV => ?_⟩) hS0 ?_
              · obtain ⟨q1, q2⟩ := hV
                simp [go_sem, execOp, kR]
              simp only [List.setIfInBounds_toArray, List.set_cons_succ, List.set_cons_zero]
              refine wpAnyF_takeD (i := 20) (d := 140) (v := .int .i64 zv) (by kernel_rfl) (by decide) rfl rfl (by kernel_rfl) (by kernel_rfl) (by kernel_rfl) (fun _ _ _ h => h) (.inl ⟨rfl, fun V hV => ?_⟩) hS0 ?_
              · obtain ⟨q1, q2⟩ := hV
                simp [go_sem, execOp, q2]
              simp only [List.setIfInBounds_toArray, List.set_cons_succ, List.set_cons_zero]
              refine wpAnyF_takeD (i := 21) (d := 141) (v := .int .i64 (max yv zv)) (by kernel_rfl) (by decide) rfl rfl (by kernel_rfl) (by kernel_rfl) (by kernel_rfl) (fun _ _ _ h => h) (.inl ⟨rfl, fun V hV => ?_⟩) hS0 ?_
              · obtain ⟨q1, q2⟩ := hV
                simp [go_sem, execOp]
              simp only [List.setIfInBounds_toArray, List.set_cons_succ, List.set_cons_zero]
              refine wpAnyF_takeD (i := 22) (d := 142) (v := .pointer (some ⟨bo, k, none⟩)) (by kernel_rfl) (by decide) rfl rfl (by kernel_rfl) (by kernel_rfl) (by kernel_rfl) (fun _ _ _ h => h) (.inl ⟨rfl, fun V hV => ?_⟩) hS0 ?_
              · obtain ⟨q1, q2⟩ := hV
                simp [go_sem, execOp, kR]
              try simp only [List.setIfInBounds_toArray, List.set_cons_succ, List.set_cons_zero]
              have hS1 : (wr.drew.setCell ⟨bo, k, none⟩ (.int .i64 (min yv zv))).cell? ⟨yb, yo + k, none⟩ = some (.int .i64 yv) ∧ (wr.drew.setCell ⟨bo, k, none⟩ (.int .i64 (min yv zv))).cell? ⟨zb, zo + k, none⟩ = some (.int .i64 zv) :=
                ⟨(World.cell?_of_block (w := wr.drew) (heap_setCell_other _ _ _ _ nyo)).trans cy, (World.cell?_of_block (w := wr.drew) (heap_setCell_other _ _ _ _ nzo)).trans cz⟩
              have cg1 : (wr.drew.setCell ⟨bo, k, none⟩ (.int .i64 (min yv zv))).cell? ⟨bg, k, none⟩ = some (.int .i64 xg) := (World.cell?_of_block (w := wr.drew) (heap_setCell_other _ _ _ _ hne')).trans cg
              have fg1 : (wr.drew.setCell ⟨bo, k, none⟩ (.int .i64 (min yv zv))).frozen? ⟨bg, k, none⟩ = false := frozen_of_row _ _ _ _ _ ((heap_setCell_other _ _ _ _ hne').trans h2.out)
              have cg2 : (wr.setCell ⟨bo, k, none⟩ (.int .i64 (min yv zv))).cell? ⟨bg, k, none⟩ = some (.int .i64 xg) := cg1
              have fg2 : (wr.setCell ⟨bo, k, none⟩ (.int .i64 (min yv zv))).frozen? ⟨bg, k, none⟩ = false := fg1
              refine wpAnyF_one 23 (by kernel_rfl) (wpOp_skip (w' := (wr.drew.setCell ⟨bo, k, none⟩ (.int .i64 (min yv zv)))) rfl rfl (by simp [go_sem, execOp, co, fo]) ⟨.inr hS1, ?_⟩)
              try simp only [Act.put, List.setIfInBounds_toArray]
              refine wpAnyF_takeD (i := 24) (d := 143) (v := .pointer (some ⟨bg, k, none⟩)) (by kernel_rfl) (by decide) rfl rfl (by kernel_rfl) (by kernel_rfl) (by kernel_rfl) (fun _ _ _ h => h) (.inl ⟨rfl, fun V hV => ?_⟩) hS1 ?_
              · obtain ⟨q1, q2⟩ := hV
                simp [go_sem, execOp, kR]
              try simp only [Act.put, List.setIfInBounds_toArray, List.set_cons_succ, List.set_cons_zero]
              refine wpAnyF_one 25 (by kernel_rfl) (wpOp_skip (w' := ((wr.drew.setCell ⟨bo, k, none⟩ (.int .i64 (min yv zv))).setCell ⟨bg, k, none⟩ (.int .i64 (max yv zv)))) rfl rfl (by simp [go_sem, execOp, cg2, fg2]) ⟨.inl rfl, ?_⟩)
              try simp only [Act.put]
              refine wpAnyF_done (by kernel_rfl) ?_ _
              go_wp2_with fail
              refine wp_named ?_
              intro W9 hW9'
              have hW9 : W9 = ((wr.drew.setCell ⟨bo, k, none⟩ (.int .i64 (min yv zv))).setCell ⟨bg, k, none⟩ (.int .i64 (max yv zv))) := hW9'
              clear hW9'
              have n1 : Hid (W9.heap[bo]? = some (.cells (rowA ((List.range (k + 1)).map (fun p => min (y.getD p 0) (z.getD p 0)) ++ List.replicate (R - (k + 1)) 0)) 3 (0,0))) := hidE (by
                rw [hW9]
                refine (heap_setCell_other _ _ _ _ hne).trans ((heap_setCell_same _ _ _ _ _ _ h1.out).trans ?_)
                rw [show min yv zv = (fun p => min (y.getD p 0) (z.getD p 0)) k from by show min yv zv = min (y.getD k 0) (z.getD k 0); rw [HYV.out, HZV.out], rowA_set, fill_map _ _ hlt])
              have n2 : Hid (W9.heap[bg]? = some (.cells (rowA ((List.range (k + 1)).map (fun p => max (y.getD p 0) (z.getD p 0)) ++ List.replicate (R - (k + 1)) 0)) 3 (0,0))) := hidE (by
                rw [hW9]
                refine (heap_setCell_same _ _ _ _ _ _ ((heap_setCell_other _ _ _ _ hne').trans h2.out)).trans ?_
                rw [show max yv zv = (fun p => max (y.getD p 0) (z.getD p 0)) k from by show max yv zv = max (y.getD k 0) (z.getD k 0); rw [HYV.out, HZV.out], rowA_set, fill_map _ _ hlt])
              have n4 : Hid (Below w7.heap.size w7 W9) := hidE (by rw [hW9]; exact (h4.out.drew.setCell (by exact hbo) _).setCell (by exact hbg) _)
              have s0 : W9.cell? ⟨w.heap.size, 0, none⟩ = some (.int .i64 (R : Int)) := by rw [cell_of_row _ _ _ _ _ _ (blk_below n4.out l0 X7.out)]; rfl
              have s1 : W9.cell? ⟨bo, k, none⟩ = some (.int .i64 (min yv zv)) := by rw [cell_of_row _ _ _ _ _ _ n1.out, rowA_get (by simp; omega), fill_get, HYV.out, HZV.out]
              have s2 : W9.cell? ⟨bg, k, none⟩ = some (.int .i64 (max yv zv)) := by rw [cell_of_row _ _ _ _ _ _ n2.out, rowA_get (by simp; omega), fill_get, HYV.out, HZV.out]
              have J2' := hidE (P2.out.below n4.out (Nat.le_refl _))
              have J3' := hidE (P3.out.below n4.out (Nat.le_refl _))
              clear hW9 h1 h2 h4 X8 B8 e0 cy cz co fo cg fg hS0 hS1 cg1 fg1 cg2 fg2
              by_cases he0 : e = 0
              · subst he0
                have tq1 := LOW.out rfl
                obtain ⟨hll, hlb⟩ := tq1
                have tq2 := J2'.out.resolve_left (by intro q; rw [q] at hll; simp at hll; omega)
                obtain ⟨qb, qf, hO2, ql, qc⟩ := tq2
                have qck := qc k (by omega)
                have qle := hlb k hlt
                rw [HYV.out, HZV.out] at qle
                rw [← getD_get lo 0 (by omega)] at qck
                obtain ⟨lv, hlv⟩ : ∃ v, lo.getD k 0 = v := ⟨_, rfl⟩
                rw [hlv] at qck qle
                have dl : decide (lv > min yv zv) = false := decide_eq_false (by omega)
                have HL2 := hidE (show vlo = .slice (some ⟨qb, qf, none⟩) R c2 by rw [HVLO.out, hO2, hll])
                (have hq2 := HL2.out; subst hq2)
                clear hlv qle qc hll hlb hO2
                by_cases hf0 : f = 0
                · subst hf0
                  have tq3 := HIGH.out rfl
                  obtain ⟨hhl, hhb⟩ := tq3
                  have tq4 := J3'.out.resolve_left (by intro q; rw [q] at hhl; simp at hhl; omega)
                  obtain ⟨gb, gf, hO3, gl, gc⟩ := tq4
                  have gck := gc k (by omega)
                  have gle := hhb k hlt
                  rw [HYV.out, HZV.out] at gle
                  rw [← getD_get hi 0 (by omega)] at gck
                  obtain ⟨hv, hhv⟩ : ∃ v, hi.getD k 0 = v := ⟨_, rfl⟩
                  rw [hhv] at gck gle
                  have dg : decide (hv < max yv zv) = false := decide_eq_false (by omega)
                  have HL3 := hidE (show vhi = .slice (some ⟨gb, gf, none⟩) R c3 by rw [HVHI.out, hO3, hhl])
                  (have hq3 := HL3.out; subst hq3)
                  clear hhv gle gc hhl hhb hO3
                  go_wp2_with fail
                  go_quiet (fail)
                  obtain ⟨Y, hY⟩ : ∃ Y, Y = W9.drewN nq := ⟨_, rfl⟩
                  rw [← hY]
                  have m1 := row_drewN hY n1.out
                  have m2 := row_drewN hY n2.out
                  have m4 := below_drewN_of hY n4.out
                  clear hY
                  go_wp2_with fail
                  go_roundw
                  case rel => exact ⟨k + 1, by omega, by go_num, m1, m2, m4⟩
                  case measure => simp [intOf]; omega
                · have hfb : (f == 0) = false := beq_eq_false_iff_ne.2 hf0
                  clear hf0
                  go_wp2_with fail
                  go_quiet (fail)
                  obtain ⟨Y, hY⟩ : ∃ Y, Y = W9.drewN nq := ⟨_, rfl⟩
                  rw [← hY]
                  have m1 := row_drewN hY n1.out
                  have m2 := row_drewN hY n2.out
                  have m4 := below_drewN_of hY n4.out
                  clear hY
                  go_wp2_with fail
                  go_roundw
                  case rel => exact ⟨k + 1, by omega, by go_num, m1, m2, m4⟩
                  case measure => simp [intOf]; omega
              · have heb : (e == 0) = false := beq_eq_false_iff_ne.2 he0
                clear he0
                by_cases hf0 : f = 0
                · subst hf0
                  have tq5 := HIGH.out rfl
                  obtain ⟨hhl, hhb⟩ := tq5
                  have tq6 := J3'.out.resolve_left (by intro q; rw [q] at hhl; simp at hhl; omega)
                  obtain ⟨gb, gf, hO3, gl, gc⟩ := tq6
                  have gck := gc k (by omega)
                  have gle := hhb k hlt
                  rw [HYV.out, HZV.out] at gle
                  rw [← getD_get hi 0 (by omega)] at gck
                  obtain ⟨hv, hhv⟩ : ∃ v, hi.getD k 0 = v := ⟨_, rfl⟩
                  rw [hhv] at gck gle
                  have dg : decide (hv < max yv zv) = false := decide_eq_false (by omega)
                  have HL3 := hidE (show vhi = .slice (some ⟨gb, gf, none⟩) R c3 by rw [HVHI.out, hO3, hhl])
                  (have hq3 := HL3.out; subst hq3)
                  clear hhv gle gc hhl hhb hO3
                  go_wp2_with fail
                  go_quiet (fail)
                  obtain ⟨Y, hY⟩ : ∃ Y, Y = W9.drewN nq := ⟨_, rfl⟩
                  rw [← hY]
                  have m1 := row_drewN hY n1.out
                  have m2 := row_drewN hY n2.out
                  have m4 := below_drewN_of hY n4.out
                  clear hY
                  go_wp2_with fail
                  go_roundw
                  case rel => exact ⟨k + 1, by omega, by go_num, m1, m2, m4⟩
                  case measure => simp [intOf]; omega
                · have hfb : (f == 0) = false := beq_eq_false_iff_ne.2 hf0
                  clear hf0
                  go_wp2_with fail
                  go_quiet (fail)
                  obtain ⟨Y, hY⟩ : ∃ Y, Y = W9.drewN nq := ⟨_, rfl⟩
                  rw [← hY]
                  have m1 := row_drewN hY n1.out
                  have m2 := row_drewN hY n2.out
                  have m4 := below_drewN_of hY n4.out
                  clear hY
                  go_wp2_with fail
                  go_roundw
                  case rel => exact ⟨k + 1, by omega, by go_num, m1, m2, m4⟩
                  case measure => simp [intOf]; omega
            · obtain rfl : k = R := by omega
              have g1 : Hid (wr.heap[bo]? = some (.cells (rowA (minV k y z)) 3 (0,0))) := by simpa [minV] using h1
              have g2 : Hid (wr.heap[bg]? = some (.cells (rowA (maxV k y z)) 3 (0,0))) := by simpa [maxV] using h2
              clear h1 h2
              have HK1 := hidE (kept_row wr k a cap bs bo (minV k y z) (by simp [minV]) HN.out hl (H.out.below B8.out (Nat.le_refl _)) g1.out K1.out K1E.out)
              have HK2 := hidE (fun W hb hr => kept_row W k a cap bs bg (maxV k y z) (by simp [maxV]) HN.out hl hb hr K2.out K2E.out)
              have e1 : wr.cell? ⟨w.heap.size, 1, none⟩ = some (.slice a bs.length cap) := by rw [cell_of_row _ _ _ _ _ _ X8.out]; rfl
              clear K1 K1E K2 K2E
              go_wp2_with fail
              refine HK1.out.mono ?_
              rintro _ wB ⟨⟨m0, rfl⟩, hbB⟩
              have XB := hidE (blk_below hbB (lt_of_block X8.out) X8.out)
              have BB := hidE (B8.out.trans (hbB.mono B8.out.size))
              have IB := hidE (blk_below hbB (lt_of_block g2.out) g2.out)
              clear e0 e1 hbB
              have e0 : wB.cell? ⟨w.heap.size, 0, none⟩ = some (.int .i64 (k : Int)) := by rw [cell_of_row _ _ _ _ _ _ XB.out]; rfl
              have e1 : wB.cell? ⟨w.heap.size, 1, none⟩ = some (.slice a bs.length cap) := by rw [cell_of_row _ _ _ _ _ _ XB.out]; rfl
              go_wp2_with fail
              refine (HK2.out _ (H.out.below BB.out (Nat.le_refl _)) IB.out).mono ?_
              rintro _ wC ⟨⟨x0, rfl⟩, hbC⟩
              have BC := hidE (BB.out.trans (hbC.mono BB.out.size))
              go_wp2_with fail
              refine (alive_any _).mono ?_
              rintro _ wD ⟨rfl, hbD⟩
              go_wp2_with fail
              go_ret
              exact ⟨rfl, BC.out.trans (hbD.mono BC.out.size)⟩
      · have hw : Hid (w7.heap[w.heap.size]? = some (.cells #[.int .i64 N, .slice a bs.length cap] 24 (0,0))) := X7
        clear TWO HEY HEZ HLE HGR HKY HKZ HS ONE1 ONE2
        by_cases c1 : ey = 0
        · subst c1
          by_cases c2' : ez = 0
          · subst c2'
            cases ky with
            | false =>
              clear hall
              go_wp2_with fail
              refine (alive_any _).mono ?_
              rintro _ w9 ⟨rfl, hb9⟩
              go_wp2_with fail
              go_ret
              exact ⟨rfl, B7.out.trans (hb9.mono B7.out.size)⟩
            | true =>
              obtain rfl : kz = false := by cases kz <;> simp_all
              clear hall
              go_wp2_with fail
              refine (alive_any _).mono ?_
              rintro _ w9 ⟨rfl, hb9⟩
              go_wp2_with fail
              go_ret
              exact ⟨rfl, B7.out.trans (hb9.mono B7.out.size)⟩
          · have q2 : (ez != 0) = true := by simpa using c2'
            clear c2' hall
            go_wp2_with fail
            refine (alive_any _).mono ?_
            rintro _ w9 ⟨rfl, hb9⟩
            go_wp2_with fail
            go_ret
            exact ⟨rfl, B7.out.trans (hb9.mono B7.out.size)⟩
        · have q1 : (ey != 0) = true := by simpa using c1
          clear c1 hall
          go_wp2_with fail
          refine (alive_any _).mono ?_
          rintro _ w9 ⟨rfl, hb9⟩
          go_wp2_with fail
          go_ret
          exact ⟨rfl, B7.out.trans (hb9.mono B7.out.size)⟩

end Go.Proofs.Ytejbpoclfjkllaa
