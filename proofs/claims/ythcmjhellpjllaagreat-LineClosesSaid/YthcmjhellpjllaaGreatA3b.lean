/- Merged text A3b of the chapter line: Wn, Wn2, Wo, Wp, Wp2. No conditions beyond those stated. -/
import Derived.Test.YthcmjhellpjllaaGreatA3
import Derived.Deep.RegionWith
import Derived.Deep.DeepCutAuto
import Derived.Test.YthcmjhellpjllaaGreatA1
import Derived.Test.YthcmjhellpjllaaGreatA2
import Derived.Deep.RegionHeld3

/- Walks: span, Between, Range. -/
namespace Go.Proofs.YthcmjhellpjllaaGreat
open Go Go.RowKit Go.Shelf

/-- The range of a difference: low, high, whether there is a least one, a greatest one. -/
def spanA (d e : Int) : Array Value := #[.int .i64 (-nV e), .int .i64 (nV d), .bool (nB e), .bool (nB d)]

theorem bcellY {W w1 : World} (hb : Below W.heap.size W w1) : (∀ b o, b < W.heap.size → w1.cell? ⟨b, o, none⟩ = W.cell? ⟨b, o, none⟩) ∧ (∀ b o, b < W.heap.size → w1.frozen? ⟨b, o, none⟩ = W.frozen? ⟨b, o, none⟩) :=
  ⟨fun b o h => hb.cell (p := ⟨b, o, none⟩) h, fun b o h => hb.frozen (p := ⟨b, o, none⟩) h⟩

set_option maxRecDepth 100000 in
set_option maxHeartbeats 4000000 in
theorem span_any (w : World) (bn R : Nat) (a : Option Addr) (cap : Nat) (bs : List Bd) (t : List Int) (x y : Nat) (HO : NetOk R bs t) (hx : x < R) (hy : y < R) (hB : BoundsAt w a bs) (hn : w.heap[bn]? = some (.cells (netA R (.slice a bs.length cap) t) 89 (0,0))) :
    Calls Tryz.prog 63 #[.pointer (some ⟨bn, 0, none⟩), .int .i64 x, .int .i64 y] w fun e w' => e = .returned (.agg (spanA ((distP R t bs x).getD y 0) ((distP R t bs y).getD x 0))) ∧ Below w.heap.size w w' := by
  have dn : ∀ q, q < R → ∀ W, Below w.heap.size w W → Hid (W.heap[w.heap.size]? = some (.cells #[.int .i64 0, .int .i64 0, .bool false, .bool false] 39 (0,0))) → Calls Tryz.prog 30 #[.pointer (some ⟨bn, 0, none⟩), .int .i64 (q : Int), .func (.func 31) #[] #[]] W fun e W' => e = .returned (.agg (rowA (distP R t bs q))) ∧ Below w.heap.size w W' ∧ Below W.heap.size W W' ∧ Hid (W'.heap[w.heap.size]? = some (.cells #[.int .i64 0, .int .i64 0, .bool false, .bool false] 39 (0,0))) :=
    fun q hq W hb hz => (dist_net W bn R a cap bs t q HO hq (hB.below hb (Nat.le_refl _)) (blk_below hb (lt_of_block hn) hn)).mono fun e W' ⟨h1, h2⟩ => ⟨h1, hb.trans (h2.mono hb.size), h2, hidE (blk_below h2 (lt_of_block hz.out) hz.out)⟩
  have hn1 := HO.n1
  obtain ⟨r1, hr1⟩ : ∃ r, distP R t bs x = r := ⟨_, rfl⟩
  obtain ⟨r2, hr2⟩ : ∃ r, distP R t bs y = r := ⟨_, rfl⟩
  have dx := dn x hx
  have dy := dn y hy
  have l1 : r1.length = 128 := by rw [← hr1]; exact (HO.row hx).1
  have l2 : r2.length = 128 := by rw [← hr2]; exact (HO.row hy).1
  have b2 := HO.row_bd hy hx
  rw [hr2] at b2
  rw [hr1] at dx
  rw [hr2] at dy
  have i1 := fun W => run_index_rowA W r1 y l1 (by omega)
  have i2 := fun W => run_index_rowA W r2 x l2 (by omega)
  obtain ⟨v1, hv1⟩ : ∃ v, r1.getD y 0 = v := ⟨_, rfl⟩
  obtain ⟨v2, hv2⟩ : ∃ v, r2.getD x 0 = v := ⟨_, rfl⟩
  rw [hv1] at i1
  rw [hv2] at i2 b2
  have HR1 := hidE hr1
  have HR2 := hidE hr2
  have HV1 := hidE hv1
  have HV2 := hidE hv2
  have DX := hidE dx
  have DY := hidE dy
  clear hr1 hr2 hv1 hv2 dn l1 l2 hB hn HO dx dy
  go_enter Tryz.func63, Tryz.ntmps63
  go_upto_region 1 with fail
  go_cut [7] (fun s7 wx => ∃ b7 : Nat, s7 = .pointer (some ⟨b7, 0, none⟩) ∧ Hid (wx.heap[b7]? = some (.cells #[.int .i64 v1, .int .i64 v2] 114 (0,0))) ∧ w.heap.size < wx.heap.size ∧ Hid (wx.heap[w.heap.size]? = some (.cells #[.int .i64 0, .int .i64 0, .bool false, .bool false] 39 (0,0))) ∧ Below w.heap.size w wx)
  case first =>
    go_region_with (first
      | (go_at_call 30; (with_reducible refine (DX.out _ ?_ ?_).mono ?_); (· first | (exact ((Below.refl _ _).alloc (Nat.le_refl _) _).drew) | (exact (((Below.refl _ _).alloc (Nat.le_refl _) _).alloc (by simp) _).drew)); (· first | (exact hidE (heap_alloc_new _ _)) | (exact hidE ((Below.heap_alloc _ _ _ (by simp)).trans (heap_alloc_new _ _)))); rintro e W2 ⟨rfl, g1, g2, gz⟩; (obtain ⟨gc1, gc2⟩ := bcellY g2); have gs := g2.size; (try simp at gs); (try (have gz1 : w.heap.size + 1 < W2.heap.size := by omega)); (try clear gs))
      | (go_at_call 30; (with_reducible refine (DY.out _ ?_ ?_).mono ?_); (· first | (exact g1) | (exact g1.alloc g1.size _)); (· first | (exact gz) | (exact hidE ((Below.heap_alloc _ _ _ (lt_of_block gz.out)).trans gz.out))); rintro e W3 ⟨rfl, h1, h2, hz⟩; (obtain ⟨hc1, hc2⟩ := bcellY h2)))
    all_goals (go_wp2_with fail; go_meet)
    all_goals first
      | exact ⟨_, rfl, hidE (heap_alloc_new _ _), by simp; have := h1.size; omega, hidE ((Below.heap_alloc _ _ _ (lt_of_block hz.out)).trans hz.out), h1.alloc h1.size _⟩
      | exact ⟨_, rfl, hidE ((heap_setCell_same _ _ _ _ _ _ (heap_setCell_same _ _ _ _ _ _ ((h2.block _ (by simp)).trans (heap_alloc_new _ _)))).trans rfl), by simp; exact lt_of_block hz.out, hidE ((heap_setCell_other _ _ _ _ (by have := lt_of_block gz.out; simp; omega)).trans ((heap_setCell_other _ _ _ _ (by have := lt_of_block gz.out; simp; omega)).trans hz.out)), (h1.setCell (by have := lt_of_block gz.out; simp; omega) _).setCell (by have := lt_of_block gz.out; simp; omega) _⟩
      | exact ⟨_, rfl, hidE ((heap_setCell_same _ _ _ _ _ _ (heap_setCell_same _ _ _ _ _ _ ((h2.block _ (by omega)).trans ((g2.block _ (by simp)).trans (heap_alloc_at _ _ _ (by simp)))))).trans rfl), by simp; exact lt_of_block hz.out, hidE ((heap_setCell_other _ _ _ _ (by simp)).trans ((heap_setCell_other _ _ _ _ (by simp)).trans hz.out)), (h1.setCell (by simp) _).setCell (by simp) _⟩
  case rest =>
    obtain ⟨b7, rfl, h7, hls, hz, hb⟩ := hcut
    obtain ⟨wA, rfl⟩ : ∃ x : World, x = wc := ⟨wc, rfl⟩
    have k0 : wA.cell? ⟨b7, 0, none⟩ = some (.int .i64 v1) := by rw [cell_of_row _ _ _ _ _ _ h7.out]; rfl
    have k1 : wA.cell? ⟨b7, 1, none⟩ = some (.int .i64 v2) := by rw [cell_of_row _ _ _ _ _ _ h7.out]; rfl
    have l7 := lt_of_block h7.out
    have B1 : Below w.heap.size w (wA.alloc (.cells #[.int .i64 0, .int .i64 0, .bool false, .bool false] 39)) := hb.alloc hb.size _
    have lh1 : (Instr.lookup 116 (.map (some (wA.heap.size + 1))) (.string ⟨#[104, 105, 103, 104]⟩) false).run Tryz.prog ((wA.alloc (.cells #[.int .i64 0, .int .i64 0, .bool false, .bool false] 39)).alloc endsObj).drew = .ok (.func (.func 85) #[] #[]) ((wA.alloc (.cells #[.int .i64 0, .int .i64 0, .bool false, .bool false] 39)).alloc endsObj).drew :=
      run_lookup_string (r := wA.heap.size + 1) (i := 0) Tryz.underlying116 Tryz.underlying9 (heap_alloc_at (wA.alloc (.cells #[.int .i64 0, .int .i64 0, .bool false, .bool false] 39)) endsObj _ (by simp)) (by rfl)
    go_wp2_with fail
    go_cut [8] (fun s8 wx => s8 = .pointer (some ⟨wA.heap.size, 0, none⟩) ∧ Hid (wx.heap[wA.heap.size]? = some (.cells #[.int .i64 0, .int .i64 (nV v1), .bool false, .bool (nB v1)] 39 (0,0))) ∧ Hid (Below wA.heap.size wA wx))
    case first =>
      go_region_with (first
        | (go_at_call 78; refine (ends_any _).mono ?_; rintro e W2 ⟨rfl, rfl⟩)
        | (go_at_call 85; refine (high_any _ _ _).mono ?_; rintro e W3 ⟨rfl, h1⟩; (obtain ⟨hc1, hc2⟩ := bcellY h1)))
      all_goals (go_wp2_with fail; go_meet)
      all_goals exact ⟨rfl, hidE ((heap_setCell_same _ _ _ _ _ _ (heap_setCell_same _ _ _ _ _ _ ((h1.block wA.heap.size (by simp; omega)).trans ((Below.heap_alloc (wA.alloc (.cells #[.int .i64 0, .int .i64 0, .bool false, .bool false] 39)) endsObj wA.heap.size (by simp)).trans (heap_alloc_new wA (.cells #[.int .i64 0, .int .i64 0, .bool false, .bool false] 39)))))).trans rfl), hidE ((((((Below.refl wA.heap.size wA).alloc (Nat.le_refl _) (.cells #[.int .i64 0, .int .i64 0, .bool false, .bool false] 39)).alloc (by simp) endsObj).drew.trans (h1.mono (by simp; omega))).setCell (by simp) _).setCell (by simp) _)⟩
    case rest =>
      clear lh1
      obtain ⟨rfl, h8, hb8⟩ := hcut
      obtain ⟨wd, rfl⟩ : ∃ x : World, x = wc := ⟨wc, rfl⟩
      have k0' : wd.cell? ⟨b7, 0, none⟩ = some (.int .i64 v1) := (hb8.out.cell (by exact l7)).trans k0
      have k1' : wd.cell? ⟨b7, 1, none⟩ = some (.int .i64 v2) := (hb8.out.cell (by exact l7)).trans k1
      have l7' : b7 < wd.heap.size := by have := hb8.out.size; omega
      have lh2 : (Instr.lookup 116 (.map (some wd.heap.size)) (.string ⟨#[108, 111, 119]⟩) false).run Tryz.prog (wd.alloc endsObj).drew = .ok (.func (.func 86) #[] #[]) (wd.alloc endsObj).drew :=
        run_lookup_string (r := wd.heap.size) (i := 1) Tryz.underlying116 Tryz.underlying9 (heap_alloc_at wd endsObj _ rfl) (by rfl)
      go_wp2_with fail
      go_cut [8] (fun s8 wx => s8 = .pointer (some ⟨wA.heap.size, 0, none⟩) ∧ Hid (wx.heap[wA.heap.size]? = some (.cells (spanA v1 v2) 39 (0,0))) ∧ Hid (Below wA.heap.size wA wx))
      case first =>
        have l8 := lt_of_block h8.out
        have l8' : wA.heap.size < wd.heap.size + 1 := by omega
        have p0 : wd.cell? ⟨wA.heap.size, 0, none⟩ = some (.int .i64 0) := by rw [cell_of_row _ _ _ _ _ _ h8.out]; rfl
        have p2 : wd.cell? ⟨wA.heap.size, 2, none⟩ = some (.bool false) := by rw [cell_of_row _ _ _ _ _ _ h8.out]; rfl
        have f0 : wd.frozen? ⟨wA.heap.size, 0, none⟩ = false := frozen_of_row _ _ _ _ _ h8.out
        have f2 : wd.frozen? ⟨wA.heap.size, 2, none⟩ = false := frozen_of_row _ _ _ _ _ h8.out
        go_region_with (first
          | (go_at_call 78; refine (ends_any _).mono ?_; rintro e W2 ⟨rfl, rfl⟩)
          | (go_at_call 86; refine (low_any _ _ _ (by omega)).mono ?_; rintro e W3 ⟨rfl, h1⟩; (obtain ⟨hc1, hc2⟩ := bcellY h1)))
        all_goals (go_wp2_with fail; go_meet)
        all_goals exact ⟨rfl, hidE ((heap_setCell_same _ _ _ _ _ _ (heap_setCell_same _ _ _ _ _ _ ((h1.block wA.heap.size (by simp; omega)).trans ((Below.heap_alloc wd endsObj wA.heap.size l8).trans h8.out)))).trans rfl), hidE (((hb8.out.trans ((((Below.refl wd.heap.size wd).alloc (Nat.le_refl _) endsObj).drew.trans (h1.mono (by simp))).mono (by omega))).setCell (by simp) _).setCell (by simp) _)⟩
      case rest =>
        obtain ⟨rfl, h9, hb9⟩ := hcut
        obtain ⟨wf, rfl⟩ : ∃ x : World, x = wc := ⟨wc, rfl⟩
        have hz9 := (hb9.out.block w.heap.size hls).trans hz.out
        have f0 : ∀ i, wf.frozen? ⟨w.heap.size, i, none⟩ = false := fun i => frozen_of_row _ _ _ _ _ hz9
        have e0 : wf.cell? ⟨w.heap.size, 0, none⟩ = some (.int .i64 0) := by rw [cell_of_row _ _ _ _ _ _ hz9]; rfl
        have e1 : wf.cell? ⟨w.heap.size, 1, none⟩ = some (.int .i64 0) := by rw [cell_of_row _ _ _ _ _ _ hz9]; rfl
        have e2 : wf.cell? ⟨w.heap.size, 2, none⟩ = some (.bool false) := by rw [cell_of_row _ _ _ _ _ _ hz9]; rfl
        have e3 : wf.cell? ⟨w.heap.size, 3, none⟩ = some (.bool false) := by rw [cell_of_row _ _ _ _ _ _ hz9]; rfl
        have g0 : wf.cell? ⟨wA.heap.size, 0, none⟩ = some (.int .i64 (-nV v2)) := by rw [cell_of_row _ _ _ _ _ _ h9.out]; rfl
        have g1 : wf.cell? ⟨wA.heap.size, 1, none⟩ = some (.int .i64 (nV v1)) := by rw [cell_of_row _ _ _ _ _ _ h9.out]; rfl
        have g2 : wf.cell? ⟨wA.heap.size, 2, none⟩ = some (.bool (nB v2)) := by rw [cell_of_row _ _ _ _ _ _ h9.out]; rfl
        have g3 : wf.cell? ⟨wA.heap.size, 3, none⟩ = some (.bool (nB v1)) := by rw [cell_of_row _ _ _ _ _ _ h9.out]; rfl
        have bf := hidE (hb.trans (hb9.out.mono hb.size))
        clear hz9
        go_wp2_with fail
        refine bodyPost_ret (v := .agg (spanA v1 v2)) (by simp [results, Tryz.results63, go_sem, spanA, e0, e1, e2, e3]) rfl ⟨?_, ?_⟩
        · rw [HR1.out, HR2.out, HV1.out, HV2.out]
        · exact (((bf.out.setCell (by simp) _).setCell (by simp) _).setCell (by simp) _).setCell (by simp) _

end Go.Proofs.YthcmjhellpjllaaGreat

/- Walks: Between, Range. -/
namespace Go.Proofs.YthcmjhellpjllaaGreat
open Go Go.RowKit Go.Shelf

def Sp.arr (s : Sp) : Array Value := #[.int .i64 s.low, .int .i64 s.high, .bool s.lowest, .bool s.highest]

set_option maxHeartbeats 400000 in
theorem between_any (w : World) (N : Int) (a : Option Addr) (cap : Nat) (bs : List Bd) (x y : Int) (hN : i64ok N) (hl : bs.length ≤ 9223372036854775807) (h : BoundsAt w a bs) :
    Calls Tryz.prog 37 #[.agg #[.int .i64 N, .slice a bs.length cap], .int .i64 x, .int .i64 y] w fun e w' => e = .returned (.tuple #[.agg (betweenP N bs x y).1.arr, .int .i64 (betweenP N bs x y).2]) ∧ Below w.heap.size w w' := by
  have H := hidE h
  have HN := hidE hN
  clear h hN
  have hB0 : Below w.heap.size w (((w.alloc (.cells #[.int .i64 N, .slice a bs.length cap] 24)).alloc (.cells #[.int .i64 0, .int .i64 0, .bool false, .bool false] 39)).alloc (.cells #[.int .i64 x, .int .i64 y] 3)) := ((((Below.refl _ _).alloc (Nat.le_refl _) _).alloc (by simp) _).alloc (by simp; omega) _)
  have hints := ints_two ((w.alloc (.cells #[.int .i64 N, .slice a bs.length cap] 24)).alloc (.cells #[.int .i64 0, .int .i64 0, .bool false, .bool false] 39)) x y
  simp only [World.size_alloc] at hints
  have hask : Calls Tryz.prog 21 #[.agg #[.int .i64 N, .slice a bs.length cap], .slice (some ⟨w.heap.size + 1 + 1, 0, none⟩) 2 2] (((w.alloc (.cells #[.int .i64 N, .slice a bs.length cap] 24)).alloc (.cells #[.int .i64 0, .int .i64 0, .bool false, .bool false] 39)).alloc (.cells #[.int .i64 x, .int .i64 y] 3)) _ :=
    asked_any _ N a cap bs (some ⟨w.heap.size + 1 + 1, 0, none⟩) 2 [x, y] HN.out hl (by simp) (((H.out.alloc (.cells #[.int .i64 N, .slice a bs.length cap] 24)).alloc (.cells #[.int .i64 0, .int .i64 0, .bool false, .bool false] 39)).alloc (.cells #[.int .i64 x, .int .i64 y] 3)) hints
  clear hints
  have hz0 : (((w.alloc (.cells #[.int .i64 N, .slice a bs.length cap] 24)).alloc (.cells #[.int .i64 0, .int .i64 0, .bool false, .bool false] 39)).alloc (.cells #[.int .i64 x, .int .i64 y] 3)).heap[w.heap.size + 1]? = some (.cells #[.int .i64 0, .int .i64 0, .bool false, .bool false] 39 (0,0)) :=
    (Below.heap_alloc _ _ _ (by simp)).trans (heap_alloc_at _ _ _ (by simp))
  have HZ0 := hidE hz0
  clear hz0
  by_cases he : askedE N bs [x, y] = 0
  · obtain ⟨R, x', y', t, rfl, rfl, rfl, hx, hy, ht, HO⟩ := asked2 he
    have hd : betweenP R bs x' y' = (spP (distN R bs x' y') (distN R bs y' x'), 0) := by unfold betweenP; rw [if_pos he]; simp
    have hdn : distN R bs x' y' = (distP R t bs x').getD y' 0 ∧ distN R bs y' x' = (distP R t bs y').getD x' 0 := by unfold distN; rw [heightsP_of ht]; exact ⟨rfl, rfl⟩
    have HD := hidE hd
    have HDN := hidE hdn
    have HE := hidE he
    have HT := hidE ht
    clear hd hdn he ht
    obtain ⟨v1, hv1⟩ : ∃ v, (distP R t bs x').getD y' 0 = v := ⟨_, rfl⟩
    obtain ⟨v2, hv2⟩ : ∃ v, (distP R t bs y').getD x' 0 = v := ⟨_, rfl⟩
    have HV1 := hidE hv1
    have HV2 := hidE hv2
    clear hv1 hv2
    have HA := hidE hask
    clear hask
    go_enter Tryz.func37, Tryz.ntmps37
    go_wp2_with fail
    refine HA.out.mono ?_
    rintro e w1 ⟨hp, hb1⟩
    unfold AskedPost at hp
    rw [if_pos HE.out] at hp
    obtain ⟨bn, t', ht', rfl, hbn, hcell⟩ := hp
    have htt : t' = t := by have := HT.out; rw [ht'] at this; exact Option.some.inj this
    subst htt
    have B1 := hB0.trans (hb1.mono hB0.size)
    have hsp := span_any w1 bn R a cap bs t' x' y' HO hx hy (H.out.below B1 (Nat.le_refl _)) hcell
    rw [HV1.out, HV2.out] at hsp
    have hz1 := blk_below hb1 (by simp) HZ0.out
    have HSP := hidE hsp
    have HB1 := hidE B1
    have HZ1 := hidE hz1
    clear hsp hcell ht' hb1 B1 hbn hz1
    go_wp2_with fail
    refine HSP.out.mono ?_
    rintro e w2 ⟨rfl, hb2⟩
    unfold spanA
    have hz2 := blk_below hb2 (lt_of_block HZ1.out) HZ1.out
    have f0 : ∀ i, w2.frozen? ⟨w.heap.size + 1, i, none⟩ = false := fun i => frozen_of_row _ _ _ _ _ hz2
    have e0 : w2.cell? ⟨w.heap.size + 1, 0, none⟩ = some (.int .i64 0) := by rw [cell_of_row _ _ _ _ _ _ hz2]; rfl
    have e1 : w2.cell? ⟨w.heap.size + 1, 1, none⟩ = some (.int .i64 0) := by rw [cell_of_row _ _ _ _ _ _ hz2]; rfl
    have e2 : w2.cell? ⟨w.heap.size + 1, 2, none⟩ = some (.bool false) := by rw [cell_of_row _ _ _ _ _ _ hz2]; rfl
    have e3 : w2.cell? ⟨w.heap.size + 1, 3, none⟩ = some (.bool false) := by rw [cell_of_row _ _ _ _ _ _ hz2]; rfl
    have HB2 := hidE (HB1.out.trans (hb2.mono HB1.out.size))
    clear hz2 hb2
    go_wp2_with fail
    refine bodyPost_ret (v := .tuple #[.agg (spanA v1 v2), .int .i64 0]) (by simp [results, Tryz.results37, go_sem, spanA, e0, e1, e2, e3]) rfl ⟨?_, ?_⟩
    · rw [HD.out, HDN.out.1, HDN.out.2, HV1.out, HV2.out]; rfl
    · exact (((HB2.out.setCell (by simp) _).setCell (by simp) _).setCell (by simp) _).setCell (by simp) _
  · have hd : betweenP N bs x y = (sp0, askedE N bs [x, y]) := by unfold betweenP; rw [if_neg he]
    have HD := hidE hd
    have HE := hidE he
    obtain ⟨c, hc⟩ : ∃ c, askedE N bs [x, y] = c := ⟨_, rfl⟩
    have hc1 : (c == 0) = false := by rw [← hc]; simpa using he
    have hc2 : (c != 0) = true := by rw [← hc]; simpa using he
    have HC := hidE hc
    have HA := hidE hask
    clear hd he hc hask
    go_enter Tryz.func37, Tryz.ntmps37
    go_wp2_with fail
    refine HA.out.mono ?_
    rintro e w1 ⟨hp, hb1⟩
    unfold AskedPost at hp
    rw [if_neg HE.out, HC.out] at hp
    subst hp
    have hz2 := blk_below hb1 (by simp) HZ0.out
    have f0 : ∀ i, w1.frozen? ⟨w.heap.size + 1, i, none⟩ = false := fun i => frozen_of_row _ _ _ _ _ hz2
    have e0 : w1.cell? ⟨w.heap.size + 1, 0, none⟩ = some (.int .i64 0) := by rw [cell_of_row _ _ _ _ _ _ hz2]; rfl
    have e1 : w1.cell? ⟨w.heap.size + 1, 1, none⟩ = some (.int .i64 0) := by rw [cell_of_row _ _ _ _ _ _ hz2]; rfl
    have e2 : w1.cell? ⟨w.heap.size + 1, 2, none⟩ = some (.bool false) := by rw [cell_of_row _ _ _ _ _ _ hz2]; rfl
    have e3 : w1.cell? ⟨w.heap.size + 1, 3, none⟩ = some (.bool false) := by rw [cell_of_row _ _ _ _ _ _ hz2]; rfl
    have HB1 := hidE (hB0.trans (hb1.mono hB0.size))
    clear hz2 hb1
    go_wp2_with fail
    refine bodyPost_ret (v := .tuple #[.agg sp0.arr, .int .i64 c]) (by simp [results, Tryz.results37, go_sem, sp0, Sp.arr, e0, e1, e2, e3]) rfl ⟨?_, ?_⟩
    · rw [HD.out, HC.out]
    · exact (((HB1.out.setCell (by simp) _).setCell (by simp) _).setCell (by simp) _).setCell (by simp) _

theorem betweenP_split (N : Int) (bs : List Bd) (x y : Int) : ∃ l h b c e, betweenP N bs x y = (⟨l, h, b, c⟩, e) := ⟨_, _, _, _, _, rfl⟩

set_option maxHeartbeats 400000 in
theorem range_any (w : World) (N : Int) (a : Option Addr) (cap : Nat) (bs : List Bd) (y : Int) (hN : i64ok N) (hl : bs.length ≤ 9223372036854775807) (h : BoundsAt w a bs) :
    Calls Tryz.prog 13 #[.agg #[.int .i64 N, .slice a bs.length cap], .int .i64 y] w fun e w' => e = .returned (.tuple #[.agg (betweenP N bs 0 y).1.arr, .int .i64 (betweenP N bs 0 y).2]) ∧ Below w.heap.size w w' := by
  have hB0 : Below w.heap.size w ((w.alloc (.cells #[.int .i64 N, .slice a bs.length cap] 24)).alloc (.cells #[.int .i64 0, .int .i64 0, .bool false, .bool false] 39)) := (((Below.refl _ _).alloc (Nat.le_refl _) _).alloc (by simp) _)
  have hbt := between_any ((w.alloc (.cells #[.int .i64 N, .slice a bs.length cap] 24)).alloc (.cells #[.int .i64 0, .int .i64 0, .bool false, .bool false] 39)) N a cap bs 0 y hN hl ((h.alloc _).alloc _)
  have hz0 : ((w.alloc (.cells #[.int .i64 N, .slice a bs.length cap] 24)).alloc (.cells #[.int .i64 0, .int .i64 0, .bool false, .bool false] 39)).heap[w.heap.size + 1]? = some (.cells #[.int .i64 0, .int .i64 0, .bool false, .bool false] 39 (0,0)) := heap_alloc_at _ _ _ (by simp)
  obtain ⟨s1, s2, s3, s4, e, hs⟩ := betweenP_split N bs 0 y
  have HS := hidE hs
  rw [hs] at hbt
  have HBT := hidE hbt
  have HZ := hidE hz0
  clear hs hbt hz0 h hN
  go_enter Tryz.func13, Tryz.ntmps13
  go_wp2_with fail
  refine HBT.out.mono ?_
  rintro e w2 ⟨rfl, hb2⟩
  unfold Sp.arr
  have hz2 := blk_below hb2 (by simp) HZ.out
  have f0 : ∀ i, w2.frozen? ⟨w.heap.size + 1, i, none⟩ = false := fun i => frozen_of_row _ _ _ _ _ hz2
  have e0 : w2.cell? ⟨w.heap.size + 1, 0, none⟩ = some (.int .i64 0) := by rw [cell_of_row _ _ _ _ _ _ hz2]; rfl
  have e1 : w2.cell? ⟨w.heap.size + 1, 1, none⟩ = some (.int .i64 0) := by rw [cell_of_row _ _ _ _ _ _ hz2]; rfl
  have e2 : w2.cell? ⟨w.heap.size + 1, 2, none⟩ = some (.bool false) := by rw [cell_of_row _ _ _ _ _ _ hz2]; rfl
  have e3 : w2.cell? ⟨w.heap.size + 1, 3, none⟩ = some (.bool false) := by rw [cell_of_row _ _ _ _ _ _ hz2]; rfl
  have HB2 := hidE (hB0.trans (hb2.mono hB0.size))
  clear hz2 hb2
  go_wp2_with fail
  refine bodyPost_ret (v := .tuple #[.agg #[.int .i64 s1, .int .i64 s2, .bool s3, .bool s4], .int .i64 e]) (by simp [results, Tryz.results13, go_sem, e0, e1, e2, e3]) rfl ⟨?_, ?_⟩
  · rw [HS.out]; rfl
  · exact (((HB2.out.setCell (by simp) _).setCell (by simp) _).setCell (by simp) _).setCell (by simp) _

end Go.Proofs.YthcmjhellpjllaaGreat

/- Walks: table. -/
namespace Go.Proofs.YthcmjhellpjllaaGreat
open Go Go.RowKit Go.Shelf

theorem map_range_succ {α : Type} (f : Nat → α) (k : Nat) : (List.range (k + 1)).map f = (List.range k).map f ++ [f k] := by rw [List.range_succ, List.map_append]; rfl

set_option maxRecDepth 100000 in
set_option maxHeartbeats 2000000 in
theorem table_any (w : World) (bn R : Nat) (a : Option Addr) (cap : Nat) (bs : List Bd) (t : List Int) (HO : NetOk R bs t) (hB : BoundsAt w a bs) (hn : w.heap[bn]? = some (.cells (netA R (.slice a bs.length cap) t) 89 (0,0))) :
    Calls Tryz.prog 22 #[.pointer (some ⟨bn, 0, none⟩)] w fun e w' => ∃ v, e = .returned v ∧ Below w.heap.size w w' ∧ w'.ownsRow w.heap.size 56 128 v R (flatR (tableP R t bs)) := by
  have dn : ∀ q, q < R → ∀ W, Below w.heap.size w W → Calls Tryz.prog 30 #[.pointer (some ⟨bn, 0, none⟩), .int .i64 (q : Int), .func (.func 31) #[] #[]] W fun e W' => e = .returned (.agg (rowA (distP R t bs q))) ∧ Below W.heap.size W W' :=
    fun q hq W hb => dist_net W bn R a cap bs t q HO hq (hB.below hb (Nat.le_refl _)) (blk_below hb (lt_of_block hn) hn)
  have hn1 := HO.n1
  have hrl : ∀ q, q < R → (distP R t bs q).length = 128 := fun q hq => (HO.row hq).1
  have e0 : w.cell? ⟨bn, 0, none⟩ = some (.int .i64 (R : Int)) := by rw [cell_of_row _ _ _ _ _ _ hn]; rfl
  have hbn := lt_of_block hn
  have DN := hidE dn
  have HRL := hidE hrl
  clear dn hrl hB hn
  go_enter Tryz.func22, Tryz.ntmps22
  go_wp2_with fail
  go_loopw [3, 10] (fun v i wr => ∃ k : Nat, k ≤ R ∧ i = .int .i64 k ∧ Hid (wr.ownsRow w.heap.size 56 128 v k (flatR ((List.range k).map fun (q : Nat) => distP R t bs q))) ∧ Below w.heap.size w wr)
    (fun _ i _ => R - (intOf i).toNat)
  case atStart => exact ⟨0, Nat.zero_le _, rfl, hidE (World.ownsRow_nil _ _ _ _), by go_grown⟩
  case round =>
    obtain ⟨k, hk, rfl, hown, hb⟩ := hrel
    by_cases hlt : k < R
    · have hcall := DN.out k hlt wr hb
      obtain ⟨r, hr⟩ : ∃ r, distP R t bs k = r := ⟨_, rfl⟩
      have hrl := HRL.out k hlt
      rw [hr] at hcall hrl
      have hbr : Hid (Tryz.prog.builtSlice 56 1 [(0, .agg (rowA r))] = some (rowA r)) := hidE (builtRow hrl)
      have HR := hidE hr
      have HC := hidE hcall
      have HL := hidE hrl
      clear hr hcall hrl
      go_wp2_with fail
      refine HC.out.mono ?_
      rintro e w1 ⟨rfl, hb1⟩
      have hv : ∀ g, u3.ownBlock = some g → g < wr.heap.size := fun g e => by
        rcases hown.out.2 with ⟨e1, _⟩ | ⟨g1, cp', cu, e1, _, hh, _⟩
        · rw [e1] at e; simp [Value.ownBlock] at e
        · rw [e1] at e
          simp only [Value.ownBlock, Option.some.injEq] at e
          subst e
          exact lt_of_block hh
      have own1 : w1.ownsRow w.heap.size 56 128 u3 k (flatR ((List.range k).map fun (q : Nat) => distP R t bs q)) := ownsRow_of_block hown.out (fun g e => hb1.block g (hv g e))
      obtain ⟨i0, hi, hz0, hz1, hz2⟩ := info_parts info94
      have hsz := Nat.le_trans hb.size hb1.size
      obtain ⟨v', wa, hrun, hown', hgrow, hnil, hblk⟩ := run_append_own_at (P := Tryz.prog) (w1.alloc (Obj.cells (rowA r) 56)) w.heap.size 53 53 56 i0 _ 128 1024 Tryz.underlying53 hi hz0 hz1 hz2 rfl (by decide) u3 _ _
        (own1.alloc _) ⟨w1.heap.size, 0, none⟩ 1 1 (intsV r) (by simp [intsV, HL.out]) (by
          intro j u hj
          rw [show ((⟨w1.heap.size, 0, none⟩ : Addr).add j) = ⟨w1.heap.size, 0 + j, none⟩ from by unfold Addr.add; split <;> simp_all]
          rw [cell_of_row _ _ _ _ _ _ (heap_alloc_new w1 _), Nat.zero_add]
          simpa [rowA] using hj) (by intro u hu; simp [intsV] at hu; obtain ⟨q, _, rfl⟩ := hu; rfl) (by unfold maxLen; omega) (by omega) (by simp; omega)
      have HRUN := hidE hrun
      have HOWN := hidE hown'
      have hb2 : Below w.heap.size w wa := ((hb.trans (hb1.mono hb.size)).alloc hsz _).grown hgrow (by simp; omega) (fun q e => by
        rcases own1.2 with ⟨e1, _⟩ | ⟨g1, cp', cu, e1, hge, hh, _⟩
        · rw [e1] at e; simp [Value.ownBlock] at e
        · rw [e1] at e
          simp only [Value.ownBlock, Option.some.injEq] at e
          omega)
      have HB2 := hidE hb2
      clear hrun hown' hgrow hnil hblk hb2 own1 hv hb1 hown hsz
      go_wp2_with (first
        | (refine Great.wpList_buildSliceTo rfl 53 56 1 _ rfl _ rfl _ rfl Tryz.underlying53 _ (by simp [Act.eval]; exact hbr.out) ?_)
        | (at_builtin; refine wpList_op_append rfl (s := .tmp 13) (x := .tmp 17) (t := 53) rfl rfl rfl HRUN.out ?_))
      go_roundw
      case rel => exact ⟨k + 1, by omega, by go_num, hidE (by rw [map_range_succ, flatR_append, flatR_one, HR.out]; exact HOWN.out), HB2.out⟩
      case measure => simp [intOf]; omega
    · obtain rfl : k = R := by omega
      go_wp2_with fail
      go_ret
      exact ⟨_, rfl, hb, hown.out⟩

end Go.Proofs.YthcmjhellpjllaaGreat

/- Walks: some (the method). -/
namespace Go.Proofs.YthcmjhellpjllaaGreat
open Go Go.RowKit Go.Shelf

theorem Tryz.info3' : (Tryz.prog.info? 3).map (fun i => (i.zero, i.size, i.bytes)) = some (some (.int .i64 0), 1, 8) := by kernel_rfl
theorem Tryz.info4' : (Tryz.prog.info? 4).map (fun i => (i.zero, i.size, i.bytes)) = some (some (.bool false), 1, 1) := by kernel_rfl

theorem madeInts (R : Nat) : madeCells #[Value.int .i64 0] R = rowA (List.replicate R 0) := by
  apply Array.toList_inj.1
  rw [toList_madeCells_one]; simp [rowA, intsV]
theorem madeBools (R : Nat) : madeCells #[Value.bool false] R = boolA (List.replicate R false) := by
  apply Array.toList_inj.1
  rw [toList_madeCells_one]; simp [boolA, boolsV]

def IntsOut (l : List Int) (base : Nat) (e : Ending) (w' : World) : Prop := ∃ v, e = .returned v ∧ w'.ownsRow base 3 1 v l.length (intsV l)

theorem owns_of_block {w : World} {base b : Nat} {l : List Int} (hb : base ≤ b) (h : w.heap[b]? = some (.cells (rowA l) 3 (0,0))) (hl : l.length ≤ 100000) : w.ownsRow base 3 1 (.slice (some ⟨b, 0, none⟩) l.length l.length) l.length (intsV l) :=
  ⟨by simp [intsV], .inr ⟨b, l.length, rowA l, rfl, hb, h, Nat.le_refl _, by unfold maxLen; omega, by simp [rowA, intsV], by simp only [rowA, List.toList_toArray]; rw [Nat.mul_one, List.take_of_length_le (by simp [intsV])]⟩⟩

set_option maxRecDepth 100000 in
set_option maxHeartbeats 4000000 in
theorem some_any (w : World) (bn R : Nat) (a : Option Addr) (cap : Nat) (bs : List Bd) (t : List Int) (HO : NetOk R bs t) (hB : BoundsAt w a bs) (hn : w.heap[bn]? = some (.cells (netA R (.slice a bs.length cap) t) 89 (0,0))) :
    Calls Tryz.prog 38 #[.pointer (some ⟨bn, 0, none⟩)] w fun e w' => IntsOut (someP R (tableP R t bs)) w.heap.size e w' ∧ Below w.heap.size w w' := by
  have htab := table_any w bn R a cap bs t HO hB hn
  have hrl : ∀ r ∈ tableP R t bs, r.length = 128 := by
    intro r hr
    simp only [tableP, List.mem_map, List.mem_range] at hr
    obtain ⟨q, hq, rfl⟩ := hr
    exact (HO.row hq).1
  have htl := tableP_length R t bs
  have hbd := tabBd_of HO
  have hn0 := HO.n0
  have hn1 := HO.n1
  obtain ⟨T, hT⟩ : ∃ T, tableP R t bs = T := ⟨_, rfl⟩
  rw [hT] at htab hrl htl hbd ⊢
  have hbn := lt_of_block hn
  have HTAB := hidE htab
  have HRL := hidE hrl
  have HTL := hidE htl
  have HBD := hidE hbd
  have HN := hidE hn
  clear htab hrl htl hbd hn hT HO hB
  have hmk3 := fun W => run_make_row' (P := Tryz.prog) 35 3 (.int .i64 0) 8 Tryz.underlying35 Tryz.info3' rfl .i64 .i64 R (by omega) (by omega) W
  have hmk4 := fun W => run_make_row' (P := Tryz.prog) 80 4 (.bool false) 1 Tryz.underlying80 Tryz.info4' rfl .i64 .i64 R (by omega) (by omega) W
  go_enter Tryz.func38, Tryz.ntmps38
  go_wp2_with fail
  refine HTAB.out.mono ?_
  rintro e w1 ⟨v, rfl, hb1, hown⟩
  obtain ⟨R', rfl⟩ : ∃ R', R = R' + 1 := ⟨R - 1, by omega⟩
  obtain ⟨g, cp, rfl⟩ := ownsRow_succ hown
  obtain ⟨hra, hgl⟩ := rowsAt_of_owns hown HRL.out
  have hN1 := blk_below hb1 hbn HN.out
  have HRA := hidE hra
  have HB1 := hidE hb1
  have HN1 := hidE hN1
  have e0 : w1.cell? ⟨bn, 0, none⟩ = some (.int .i64 ((R' + 1 : Nat) : Int)) := by rw [cell_of_row _ _ _ _ _ _ hN1]; rfl
  have l1 := lt_of_block hN1
  clear hra hN1 hown
  obtain ⟨R, hR⟩ : ∃ R, R' + 1 = R := ⟨_, rfl⟩
  rw [hR] at e0 hmk3 hmk4 hn1 hn0 ⊢
  go_wp2_with fail
  go_cut [4, 5] (fun s4 s5 wx => ∃ bo bg : Nat, s4 = .slice (some ⟨bo, 0, none⟩) R R ∧ s5 = .slice (some ⟨bg, 0, none⟩) R R ∧ bo ≠ bg ∧ w1.heap.size ≤ bo ∧ w1.heap.size ≤ bg ∧ Hid (wx.heap[bo]? = some (.cells (rowA (List.replicate R 0)) 3 (0,0))) ∧ Hid (wx.heap[bg]? = some (.cells (boolA (List.replicate R false)) 4 (0,0))) ∧ Hid (Below w1.heap.size w1 wx))
  case first =>
    go_region_held3 (fun w' => w'.cell? ⟨bn, 0, none⟩ = some (.int .i64 (R : Int))) (go_keep) (fail)
    all_goals (go_wp2_with fail; go_meet)
    all_goals first
      | exact ⟨w1.heap.size, w1.heap.size + 1, rfl, rfl, by omega, by omega, by omega, hidE (by rw [← madeInts]; exact (Below.heap_alloc _ _ _ (by simp)).trans (heap_alloc_new _ _)), hidE (by rw [← madeBools]; exact heap_alloc_at _ _ _ (by simp)), hidE (((Below.refl _ _).alloc (Nat.le_refl _) _).alloc (by simp) _).drew⟩
      | exact ⟨w1.heap.size + 1, w1.heap.size, rfl, rfl, by omega, by omega, by omega, hidE (by rw [← madeInts]; exact heap_alloc_at _ _ _ (by simp)), hidE (by rw [← madeBools]; exact (Below.heap_alloc _ _ _ (by simp)).trans (heap_alloc_new _ _)), hidE (((Below.refl _ _).alloc (Nat.le_refl _) _).alloc (by simp) _).drew⟩
  case rest =>
    obtain ⟨bo, bg, rfl, rfl, hne, hbo, hbg, ho, hg, hbl⟩ := hcut
    obtain ⟨w2, rfl⟩ : ∃ x : World, x = wc := ⟨wc, rfl⟩
    have e2 : w2.cell? ⟨bn, 0, none⟩ = some (.int .i64 (R : Int)) := (hbl.out.cell (by exact l1)).trans e0
    have hra2 := hidE (HRA.out.below hbl.out hgl)
    have hb2 := hidE (HB1.out.trans (hbl.out.mono HB1.out.size))
    have htl : T.length = R := by have := HTL.out; omega
    have HTL2 := hidE htl
    have lo := lt_of_block ho.out
    have lg := lt_of_block hg.out
    clear htl hmk3 hmk4
    go_wp2_with fail
    go_loopw [34] (fun i wr => ∃ k : Nat, k ≤ R ∧ i = .int .i64 k ∧ Hid (wr.heap[bo]? = some (.cells (rowA ((List.range k).map (fun p => nV (tget T 0 p)) ++ List.replicate (R - k) 0)) 3 (0,0))) ∧ Hid (wr.heap[bg]? = some (.cells (boolA ((List.range k).map (fun p => nB (tget T 0 p)) ++ List.replicate (R - k) false)) 4 (0,0))) ∧ Hid (∀ b, b ≠ bo → b ≠ bg → b < w2.heap.size → wr.heap[b]? = w2.heap[b]?) ∧ Hid (Below w.heap.size w wr))
      (fun i _ => R - (intOf i).toNat)
    case atStart => exact ⟨0, Nat.zero_le _, rfl, by simpa using ho, by simpa using hg, hidE (fun _ _ _ _ => rfl), hb2⟩
    case round =>
      obtain ⟨k, hk, rfl, h1, h2, h3, h4⟩ := hrel
      by_cases hlt : k < R
      · have cT : wr.cell? ⟨g, 0 * 128 + k, none⟩ = some (.int .i64 (tget T 0 k)) := (World.cell?_of_block (w := w2) (h3.out g (by omega) (by omega) (by have := hbl.out.size; omega))).trans (hra2.out 0 k (by have := HTL2.out; omega) (by omega))
        rw [Nat.zero_mul, Nat.zero_add] at cT
        obtain ⟨xo, hxo⟩ : ∃ xo, ((List.range k).map (fun p => nV (tget T 0 p)) ++ List.replicate (R - k) 0).getD k 0 = xo := ⟨_, rfl⟩
        obtain ⟨xg, hxg⟩ : ∃ xg, ((List.range k).map (fun p => nB (tget T 0 p)) ++ List.replicate (R - k) false).getD k false = xg := ⟨_, rfl⟩
        have co : wr.cell? ⟨bo, k, none⟩ = some (.int .i64 xo) := by rw [cell_of_row _ _ _ _ _ _ h1.out, rowA_get (by simp; omega), hxo]
        have fo : wr.frozen? ⟨bo, k, none⟩ = false := frozen_of_row _ _ _ _ _ h1.out
        have cg : wr.cell? ⟨bg, k, none⟩ = some (.bool xg) := by rw [cell_of_row _ _ _ _ _ _ h2.out, boolA_get (by simp; omega), hxg]
        have fg : wr.frozen? ⟨bg, k, none⟩ = false := frozen_of_row _ _ _ _ _ h2.out
        have hne' : ¬ bg = bo := fun e => hne e.symm
        obtain ⟨vT, hvT⟩ : ∃ vT, tget T 0 k = vT := ⟨_, rfl⟩
        rw [hvT] at cT
        have HVT := hidE hvT
        clear hvT hxo hxg
        go_wp2_with (go_at_call 29; refine (number_num _ _).mono ?_; rintro e w' ⟨rfl, rfl⟩)
        go_roundw
        case rel =>
          refine ⟨k + 1, by omega, by go_num, hidE ?_, hidE ?_, hidE ?_, hidE ((h4.out.setCell (by have := HB1.out.size; simp; omega) _).setCell (by have := HB1.out.size; simp; omega) _)⟩
          · refine (heap_setCell_other _ _ _ _ hne).trans ((heap_setCell_same _ _ _ _ _ _ h1.out).trans ?_)
            rw [show numV vT = (fun p => nV (tget T 0 p)) k from by show numV vT = nV (tget T 0 k); rw [HVT.out]; rfl, rowA_set, fill_map _ _ hlt]
          · refine (heap_setCell_same _ _ _ _ _ _ ((heap_setCell_other _ _ _ _ hne').trans h2.out)).trans ?_
            rw [show numB vT = (fun p => nB (tget T 0 p)) k from by show numB vT = nB (tget T 0 k); rw [HVT.out]; rfl, boolA_set, fill_map _ _ hlt]
          · intro b b1 b2 b3
            exact (heap_setCell_other _ _ _ _ b2).trans ((heap_setCell_other _ _ _ _ b1).trans (h3.out b b1 b2 b3))
        case measure => simp [intOf]; omega
      · obtain rfl : k = R := by omega
        obtain ⟨w3, rfl⟩ : ∃ x : World, x = wr := ⟨wr, rfl⟩
        have g1 : Hid (w3.heap[bo]? = some (.cells (rowA (((List.range 0).foldl (someAt k T) (someStart k T)).1)) 3 (0,0))) := by simpa [someStart] using h1
        have g2 : Hid (w3.heap[bg]? = some (.cells (boolA (((List.range 0).foldl (someAt k T) (someStart k T)).2)) 4 (0,0))) := by simpa [someStart] using h2
        have hbnne : bn ≠ bo ∧ bn ≠ bg := ⟨by omega, by omega⟩
        have e3 : w3.cell? ⟨bn, 0, none⟩ = some (.int .i64 (k : Int)) := (World.cell?_of_block (w := w2) (h3.out bn hbnne.1 hbnne.2 (by have := hbl.out.size; omega))).trans e2
        have HBD' : TabBd k T := by have := HBD.out; rwa [hR] at this
        clear h1 h2 e2
        go_wp2_with fail
        go_loopw [58] (fun i wr => ∃ p : Nat, p ≤ k ∧ i = .int .i64 p ∧ Hid (wr.heap[bo]? = some (.cells (rowA (((List.range p).foldl (someAt k T) (someStart k T)).1)) 3 (0,0))) ∧ Hid (wr.heap[bg]? = some (.cells (boolA (((List.range p).foldl (someAt k T) (someStart k T)).2)) 4 (0,0))) ∧ Hid (∀ b, b ≠ bo → b ≠ bg → b < w2.heap.size → wr.heap[b]? = w2.heap[b]?) ∧ Hid (Below w.heap.size w wr))
          (fun i _ => k - (intOf i).toNat)
        case atStart => exact ⟨0, Nat.zero_le _, rfl, g1, g2, h3, h4⟩
        case round =>
          obtain ⟨p, hp, rfl, q1, q2, q3, q4⟩ := hrel
          by_cases hlt : p < k
          · obtain ⟨st, hst⟩ : ∃ st, (List.range p).foldl (someAt k T) (someStart k T) = st := ⟨_, rfl⟩
            have hlen := someFold_len k T p
            have hwi := someFold_bd HBD' (by omega) p hp
            rw [hst] at q1 q2 hlen hwi
            have hnext : (List.range (p + 1)).foldl (someAt k T) (someStart k T) = someAt k T st p := by rw [List.range_succ, List.foldl_append, hst]; rfl
            obtain ⟨out, given⟩ := st
            simp only at q1 q2 hlen hwi
            have co : ∀ q, q < k → wr.cell? ⟨bo, q, none⟩ = some (.int .i64 (out.getD q 0)) := fun q hq => by rw [cell_of_row _ _ _ _ _ _ q1.out, rowA_get (by omega)]
            have cg : ∀ q, q < k → wr.cell? ⟨bg, q, none⟩ = some (.bool (given.getD q false)) := fun q hq => by rw [cell_of_row _ _ _ _ _ _ q2.out, boolA_get (by omega)]
            have ct : ∀ a b, a < k → b < k → wr.cell? ⟨g, a * 128 + b, none⟩ = some (.int .i64 (tget T a b)) := fun a b ha hb => (World.cell?_of_block (w := w2) (q3.out g (by omega) (by omega) (by have := hbl.out.size; omega))).trans (hra2.out a b (by have := HTL2.out; omega) (by omega))
            have eb : wr.cell? ⟨bn, 0, none⟩ = some (.int .i64 (k : Int)) := (World.cell?_of_block (w := w2) (q3.out bn hbnne.1 hbnne.2 (by have := hbl.out.size; omega))).trans ((World.cell?_of_block (w := w2) (h3.out bn hbnne.1 hbnne.2 (by have := hbl.out.size; omega))).symm.trans e3)
            have CO := hidE co
            have CG := hidE cg
            have CT := hidE ct
            have HST := hidE hst
            have HNX := hidE hnext
            have HWI := hidE hwi
            have HLEN := hidE hlen
            have cgp := cg p hlt
            clear co cg ct hst hnext hwi hlen
            cases hgp : given.getD p false with
            | true =>
              rw [hgp] at cgp
              have hsame : someAt k T (out, given) p = (out, given) := by unfold someAt; rw [if_pos hgp]
              have HS := hidE hsame
              clear hgp hsame
              go_wp2_with fail
              go_roundw
              case rel => exact ⟨p + 1, by omega, by go_num, by rw [HNX.out, HS.out]; exact q1, by rw [HNX.out, HS.out]; exact q2, q3, q4⟩
              case measure => simp [intOf]; omega
            | false =>
              rw [hgp] at cgp
              have hsame : someAt k T (out, given) p = (out.set p (min ((List.range k).foldl (someIn T out given p) (0, farI)).1 ((List.range k).foldl (someIn T out given p) (0, farI)).2), given.set p true) := by unfold someAt; rw [if_neg (by rw [hgp]; simp)]
              have HS := hidE hsame
              clear hgp hsame
              go_wp2_with fail
              go_loop [8, 9, 70] (fun lo hi i => ∃ q : Nat, q ≤ k ∧ i = .int .i64 q ∧ lo = .int .i64 ((List.range q).foldl (someIn T out given p) (0, farI)).1 ∧ hi = .int .i64 ((List.range q).foldl (someIn T out given p) (0, farI)).2) (fun _ _ i => k - (intOf i).toNat)
              case atStart => exact ⟨0, Nat.zero_le _, rfl, rfl, rfl⟩
              case round =>
                obtain ⟨q, hq, rfl, rfl, rfl⟩ := hrel
                by_cases hql : q < k
                · have hbd := someIn_bd (given := given) (by omega) HBD' HWI.out hlt q hq
                  have hnx2 : (List.range (q + 1)).foldl (someIn T out given p) (0, farI) = someIn T out given p ((List.range q).foldl (someIn T out given p) (0, farI)) q := by rw [List.range_succ, List.foldl_append]; rfl
                  obtain ⟨s, hs⟩ : ∃ s, (List.range q).foldl (someIn T out given p) (0, farI) = s := ⟨_, rfl⟩
                  rw [hs] at hbd hnx2 ⊢
                  obtain ⟨lo, hi⟩ := s
                  simp only at hbd ⊢
                  have HNX2 := hidE hnx2
                  have cq := CG.out q hql
                  clear hs hnx2
                  cases hgq : given.getD q false with
                  | false =>
                    rw [hgq] at cq
                    have hres : someIn T out given p (lo, hi) q = (lo, hi) := by unfold someIn; rw [if_neg (by rw [hgq]; simp)]
                    have HRES := hidE hres
                    clear hgq hres
                    go_wp2_with fail
                    go_round
                    case rel => exact ⟨q + 1, by omega, by go_num, by rw [HNX2.out, HRES.out], by rw [HNX2.out, HRES.out]⟩
                    case measure => simp [intOf]; omega
                  | true =>
                    rw [hgq] at cq
                    have HGQ := hidE hgq
                    have c1 := CT.out q p hql hlt
                    have c2 := CT.out p q hlt hql
                    have cx := CO.out q hql
                    have b1 := HBD' q p hql hlt
                    have b2 := HBD' p q hlt hql
                    have bx := HWI.out q
                    obtain ⟨v1, hv1⟩ : ∃ v, tget T q p = v := ⟨_, rfl⟩
                    obtain ⟨v2, hv2⟩ : ∃ v, tget T p q = v := ⟨_, rfl⟩
                    obtain ⟨x, hx⟩ : ∃ v, out.getD q 0 = v := ⟨_, rfl⟩
                    rw [hv1] at c1 b1
                    rw [hv2] at c2 b2
                    rw [hx] at cx bx
                    have HV1 := hidE hv1
                    have HV2 := hidE hv2
                    have HX := hidE hx
                    obtain ⟨⟨d1, d2⟩, d3, d4⟩ := hbd
                    obtain ⟨x1, x2⟩ := bx
                    obtain ⟨y1, y2, y3⟩ := b1
                    obtain ⟨z1, z2, z3⟩ := b2
                    have k0 : (0 : Int) ≤ (p : Int) := by omega
                    have k1 : (p : Int) ≤ 128 := by omega
                    have xx1 : -20000000000 ≤ x := by omega
                    have xx2 : x ≤ 20000000000 := by omega
                    have dd2 : lo ≤ 20000000000 := by omega
                    have dd3 : -20000000000 ≤ hi := by omega
                    clear hgq hv1 hv2 hx x1 x2 d2 d3
                    have F1 : (v1 < 1125899906842624 ∧ v1 ≤ 128000000) ∨ ¬ v1 < 1125899906842624 := by omega
                    have F2 : (v2 < 1125899906842624 ∧ v2 ≤ 128000000) ∨ ¬ v2 < 1125899906842624 := by omega
                    clear y3 z3
                    rcases F1 with ⟨f1, f1'⟩ | f1 <;> rcases F2 with ⟨f2, f2'⟩ | f2
                    · have hb1 : numB v1 = true := by unfold numB; simp; omega
                      have hb2 : numB v2 = true := by unfold numB; simp; omega
                      have N1 := fun W => number_num v1 W
                      have N2 := fun W => number_num v2 W
                      simp only [hb1] at N1
                      simp only [hb2] at N2
                      have hv1 : numV v1 = v1 := by unfold numV; rw [if_neg (by omega)]
                      simp only [hv1] at N1
                      have hv2 : numV v2 = v2 := by unfold numV; rw [if_neg (by omega)]
                      simp only [hv2] at N2
                      have hres : someIn T out given p (lo, hi) q = (max lo (x - v2), min hi (x + v1)) := by
                        unfold someIn
                        rw [if_pos HGQ.out, HV1.out, HV2.out, if_pos (by unfold farI; omega), if_pos (by unfold farI; omega)]; (try rw [HX.out])
                      have HRES := hidE hres
                      have M1 := hidE N1
                      have M2 := hidE N2
                      clear hb1 hb2 hres N1 N2
                      go_wp2_with (first
                        | (go_at_call 29; (with_reducible refine (M1.out _).mono ?_); rintro e w' ⟨rfl, rfl⟩)
                        | (go_at_call 29; (with_reducible refine (M2.out _).mono ?_); rintro e w' ⟨rfl, rfl⟩))
                      go_round
                      case rel => exact ⟨q + 1, by omega, by go_num, by (rw [HNX2.out, HRES.out]; try (refine congrArg (Value.int .i64) ?_; first | omega | (split <;> omega) | (simp only [*]; done))), by (rw [HNX2.out, HRES.out]; try (refine congrArg (Value.int .i64) ?_; first | omega | (split <;> omega) | (simp only [*]; done)))⟩
                      case measure => simp [intOf]; omega
                    · have hb1 : numB v1 = true := by unfold numB; simp; omega
                      have hb2 : numB v2 = false := by unfold numB; simp; omega
                      have N1 := fun W => number_num v1 W
                      have N2 := fun W => number_num v2 W
                      simp only [hb1] at N1
                      simp only [hb2] at N2
                      have hv1 : numV v1 = v1 := by unfold numV; rw [if_neg (by omega)]
                      simp only [hv1] at N1
                      have hres : someIn T out given p (lo, hi) q = (lo, min hi (x + v1)) := by
                        unfold someIn
                        rw [if_pos HGQ.out, HV1.out, HV2.out, if_neg (by unfold farI; omega), if_pos (by unfold farI; omega)]; (try rw [HX.out])
                      have HRES := hidE hres
                      have M1 := hidE N1
                      have M2 := hidE N2
                      clear hb1 hb2 hres N1 N2
                      go_wp2_with (first
                        | (go_at_call 29; (with_reducible refine (M1.out _).mono ?_); rintro e w' ⟨rfl, rfl⟩)
                        | (go_at_call 29; (with_reducible refine (M2.out _).mono ?_); rintro e w' ⟨rfl, rfl⟩))
                      go_round
                      case rel => exact ⟨q + 1, by omega, by go_num, by (rw [HNX2.out, HRES.out]; try (refine congrArg (Value.int .i64) ?_; first | omega | (split <;> omega) | (simp only [*]; done))), by (rw [HNX2.out, HRES.out]; try (refine congrArg (Value.int .i64) ?_; first | omega | (split <;> omega) | (simp only [*]; done)))⟩
                      case measure => simp [intOf]; omega
                    · have hb1 : numB v1 = false := by unfold numB; simp; omega
                      have hb2 : numB v2 = true := by unfold numB; simp; omega
                      have N1 := fun W => number_num v1 W
                      have N2 := fun W => number_num v2 W
                      simp only [hb1] at N1
                      simp only [hb2] at N2
                      have hv2 : numV v2 = v2 := by unfold numV; rw [if_neg (by omega)]
                      simp only [hv2] at N2
                      have hres : someIn T out given p (lo, hi) q = (max lo (x - v2), hi) := by
                        unfold someIn
                        rw [if_pos HGQ.out, HV1.out, HV2.out, if_pos (by unfold farI; omega), if_neg (by unfold farI; omega)]; (try rw [HX.out])
                      have HRES := hidE hres
                      have M1 := hidE N1
                      have M2 := hidE N2
                      clear hb1 hb2 hres N1 N2
                      go_wp2_with (first
                        | (go_at_call 29; (with_reducible refine (M1.out _).mono ?_); rintro e w' ⟨rfl, rfl⟩)
                        | (go_at_call 29; (with_reducible refine (M2.out _).mono ?_); rintro e w' ⟨rfl, rfl⟩))
                      go_round
                      case rel => exact ⟨q + 1, by omega, by go_num, by (rw [HNX2.out, HRES.out]; try (refine congrArg (Value.int .i64) ?_; first | omega | (split <;> omega) | (simp only [*]; done))), by (rw [HNX2.out, HRES.out]; try (refine congrArg (Value.int .i64) ?_; first | omega | (split <;> omega) | (simp only [*]; done)))⟩
                      case measure => simp [intOf]; omega
                    · have hb1 : numB v1 = false := by unfold numB; simp; omega
                      have hb2 : numB v2 = false := by unfold numB; simp; omega
                      have N1 := fun W => number_num v1 W
                      have N2 := fun W => number_num v2 W
                      simp only [hb1] at N1
                      simp only [hb2] at N2
                      skip
                      have hres : someIn T out given p (lo, hi) q = (lo, hi) := by
                        unfold someIn
                        rw [if_pos HGQ.out, HV1.out, HV2.out, if_neg (by unfold farI; omega), if_neg (by unfold farI; omega)]; (try rw [HX.out])
                      have HRES := hidE hres
                      have M1 := hidE N1
                      have M2 := hidE N2
                      clear hb1 hb2 hres N1 N2
                      go_wp2_with (first
                        | (go_at_call 29; (with_reducible refine (M1.out _).mono ?_); rintro e w' ⟨rfl, rfl⟩)
                        | (go_at_call 29; (with_reducible refine (M2.out _).mono ?_); rintro e w' ⟨rfl, rfl⟩))
                      go_round
                      case rel => exact ⟨q + 1, by omega, by go_num, by (rw [HNX2.out, HRES.out]; try (refine congrArg (Value.int .i64) ?_; first | omega | (split <;> omega) | (simp only [*]; done))), by (rw [HNX2.out, HRES.out]; try (refine congrArg (Value.int .i64) ?_; first | omega | (split <;> omega) | (simp only [*]; done)))⟩
                      case measure => simp [intOf]; omega
                · obtain rfl : q = k := by omega
                  have hbd := someIn_bd (given := given) (by omega) HBD' HWI.out hlt q hq
                  obtain ⟨s, hs⟩ : ∃ s, (List.range q).foldl (someIn T out given p) (0, farI) = s := ⟨_, rfl⟩
                  have hsame := HS.out
                  rw [hs] at hbd hsame ⊢
                  obtain ⟨lo, hi⟩ := s
                  simp only at hbd hsame ⊢
                  have HS2 := hidE hsame
                  have co2 := CO.out p hlt
                  have fo2 : wr.frozen? ⟨bo, p, none⟩ = false := frozen_of_row _ _ _ _ _ q1.out
                  have fg2 : wr.frozen? ⟨bg, p, none⟩ = false := frozen_of_row _ _ _ _ _ q2.out
                  have hne' : ¬ bg = bo := fun e => hne e.symm
                  obtain ⟨vo, hvo⟩ : ∃ v, out.getD p 0 = v := ⟨_, rfl⟩
                  rw [hvo] at co2
                  have hmin : (if hi < lo then hi else lo) = min lo hi := by split <;> omega
                  have HMIN := hidE hmin
                  clear hs hsame HS hvo hmin
                  go_wp2_with fail
                  go_roundw
                  case rel =>
                    refine ⟨p + 1, by omega, by go_num, hidE ?_, hidE ?_, hidE ?_, hidE ((q4.out.setCell (by have := HB1.out.size; simp; omega) _).setCell (by have := HB1.out.size; simp; omega) _)⟩
                    · rw [HNX.out, HS2.out]
                      refine (heap_setCell_other _ _ _ _ hne).trans ((heap_setCell_same _ _ _ _ _ _ q1.out).trans ?_)
                      rw [rowA_set]
                    · rw [HNX.out, HS2.out]
                      refine (heap_setCell_same _ _ _ _ _ _ ((heap_setCell_other _ _ _ _ hne').trans q2.out)).trans ?_
                      rw [boolA_set]
                    · intro b b1 b2 b3
                      exact (heap_setCell_other _ _ _ _ b2).trans ((heap_setCell_other _ _ _ _ b1).trans (q3.out b b1 b2 b3))
                  case measure => simp [intOf]; omega
          · obtain rfl : p = k := by omega
            go_wp2_with fail
            go_ret
            have hlen := (someFold_len p T p).1
            refine ⟨⟨_, rfl, ?_⟩, q4.out⟩
            have := owns_of_block (base := w.heap.size) (l := someP p T) (by have := HB1.out.size; omega) q1.out (by show (someP p T).length ≤ _; unfold someP; omega)
            rw [show (someP p T).length = p from hlen] at this
            rw [hR, show (someP p T).length = p from hlen]
            exact this

end Go.Proofs.YthcmjhellpjllaaGreat

/- Walks: Some. -/
namespace Go.Proofs.YthcmjhellpjllaaGreat
open Go Go.RowKit Go.Shelf

/-- Values of a consistent system of so many points. -/
def valuesP (N : Nat) (bs : List Bd) : List Int := someP N (tableP N (heightsP N bs) bs)
def someE (N : Int) (bs : List Bd) : List Int × Int := if askedE N bs [] = 0 then (valuesP N.toNat bs, 0) else ([], askedE N bs [])

set_option maxHeartbeats 400000 in
theorem someE_any (w : World) (N : Int) (a : Option Addr) (cap : Nat) (bs : List Bd) (hN : i64ok N) (hl : bs.length ≤ 9223372036854775807) (h : BoundsAt w a bs) :
    Calls Tryz.prog 14 #[.agg #[.int .i64 N, .slice a bs.length cap]] w fun e w' => PathPost (someE N bs).1 (someE N bs).2 w.heap.size e w' ∧ Below w.heap.size w w' := by
  have H := hidE h
  have HN := hidE hN
  clear h hN
  have hB0 : Below w.heap.size w (w.alloc (.cells #[.int .i64 N, .slice a bs.length cap] 24)) := (Below.refl _ _).alloc (Nat.le_refl _) _
  have hask : Calls Tryz.prog 21 #[.agg #[.int .i64 N, .slice a bs.length cap], .slice none 0 0] (w.alloc (.cells #[.int .i64 N, .slice a bs.length cap] 24)) _ :=
    asked_any _ N a cap bs none 0 [] HN.out hl (by simp) (H.out.alloc (.cells #[.int .i64 N, .slice a bs.length cap] 24)) (.inl rfl)
  by_cases he : askedE N bs [] = 0
  · obtain ⟨R, t, rfl, ht, HO⟩ := asked0 he
    have hd : someE R bs = (valuesP R bs, 0) := by unfold someE; rw [if_pos he]; simp
    have hv : valuesP R bs = someP R (tableP R t bs) := by unfold valuesP; rw [heightsP_of ht]
    have HD := hidE hd
    have HV := hidE hv
    have HE := hidE he
    have HT := hidE ht
    have HA := hidE hask
    clear hd hv he ht hask
    go_enter Tryz.func14, Tryz.ntmps14
    go_wp2_with fail
    refine HA.out.mono ?_
    rintro e w1 ⟨hp, hb1⟩
    unfold AskedPost at hp
    rw [if_pos HE.out] at hp
    obtain ⟨bn, t', ht', rfl, hbn, hcell⟩ := hp
    have htt : t' = t := by have := HT.out; rw [ht'] at this; exact Option.some.inj this
    subst htt
    have B1 := hB0.trans (hb1.mono hB0.size)
    have hso := some_any w1 bn R a cap bs t' HO (H.out.below B1 (Nat.le_refl _)) hcell
    have HSO := hidE hso
    have HB1 := hidE B1
    clear hso hcell ht' hb1 B1 hbn
    go_wp2_with fail
    refine HSO.out.mono ?_
    rintro e w2 ⟨⟨v, rfl, hown⟩, hb2⟩
    have HOW := hidE hown
    have HB2 := hidE hb2
    clear hown hb2
    go_wp2_with fail
    go_ret2
    refine ⟨?_, HB1.out.trans (HB2.out.mono HB1.out.size)⟩
    rw [HD.out, HV.out]
    exact ⟨_, rfl, ownsRow_base HOW.out HB1.out.size⟩
  · have hd : someE N bs = ([], askedE N bs []) := by unfold someE; rw [if_neg he]
    have HD := hidE hd
    have HE := hidE he
    obtain ⟨c, hc⟩ : ∃ c, askedE N bs [] = c := ⟨_, rfl⟩
    have hc1 : (c == 0) = false := by rw [← hc]; simpa using he
    have hc2 : (c != 0) = true := by rw [← hc]; simpa using he
    have HC := hidE hc
    have HA := hidE hask
    clear hd he hc hask
    go_enter Tryz.func14, Tryz.ntmps14
    go_wp2_with fail
    refine HA.out.mono ?_
    rintro e w1 ⟨hp, hb1⟩
    unfold AskedPost at hp
    rw [if_neg HE.out, HC.out] at hp
    subst hp
    go_wp2_with fail
    go_ret2
    refine ⟨?_, hB0.trans (hb1.mono hB0.size)⟩
    rw [HD.out, HC.out]
    exact ⟨_, rfl, World.ownsRow_nil _ _ _ _⟩

end Go.Proofs.YthcmjhellpjllaaGreat
