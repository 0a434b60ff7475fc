/- Walks: Few, some, few; the reference's consistent. -/
import Derived.Test.YthcmjhellpjllaaGreatCY1
import Derived.Test.YthcmjhellpjllaaGreatP2
import Derived.StillTailTactics
namespace Go.Proofs.YthcmjhellpjllaaGreat
open Go Go.RowKit Go.Shelf

def fewP (N : Int) (n : Nat) (points bounds : Int) : Bool := (decide ((n : Int) ≤ bounds) && decide (N ≤ points)) || (decide (N > 128) && decide ((n : Int) ≤ bounds)) || (decide ((n : Int) > 2000) && decide ((n : Int) ≤ 2005))

set_option maxHeartbeats 1000000 in
theorem few_any (w : World) (N : Int) (a : Option Addr) (cap : Nat) (n : Nat) (p b : Int) :
    Calls Tryz.prog 9 #[.agg #[.int .i64 N, .slice a n cap], .int .i64 p, .int .i64 b] w fun e w' => e = .returned (.bool (fewP N n p b)) ∧ Below w.heap.size w w' := by
  obtain ⟨c1, h1⟩ : ∃ c, decide ((n : Int) ≤ b) = c := ⟨_, rfl⟩
  obtain ⟨c2, h2⟩ : ∃ c, decide (N ≤ p) = c := ⟨_, rfl⟩
  obtain ⟨c3, h3⟩ : ∃ c, decide (N > 128) = c := ⟨_, rfl⟩
  obtain ⟨c4, h4⟩ : ∃ c, decide ((n : Int) > 2000) = c := ⟨_, rfl⟩
  obtain ⟨c5, h5⟩ : ∃ c, decide ((n : Int) ≤ 2005) = c := ⟨_, rfl⟩
  have hf : fewP N n p b = ((c1 && c2) || (c3 && c1) || (c4 && c5)) := by unfold fewP; rw [h1, h2, h3, h4, h5]
  have HF := hidE hf
  clear hf
  cases c1 <;> cases c2 <;> cases c3 <;> cases c4 <;> cases c5 <;>
    (go_enter Tryz.func9, Tryz.ntmps9
     go_wp2_with fail
     go_ret
     exact ⟨by rw [HF.out]; rfl, by go_grown⟩)

theorem someL_any (w : World) (N : Int) (a : Option Addr) (cap : Nat) (n : Nat) :
    Calls Tryz.prog 4 #[.agg #[.int .i64 N, .slice a n cap]] w fun e w' => e = .returned (.bool (fewP N n 14 40)) ∧ Below w.heap.size w w' := by
  have hf := few_any (w.alloc (.cells #[.int .i64 N, .slice a n cap] 24)) N a cap n 14 40
  have HF := hidE hf
  clear hf
  go_enter Tryz.func4, Tryz.ntmps4
  go_wp2_with fail
  refine HF.out.mono ?_
  rintro e w1 ⟨rfl, hb1⟩
  go_wp2_with fail
  go_ret
  exact ⟨rfl, ((Below.refl _ _).alloc (Nat.le_refl _) _).trans (hb1.mono (by simp))⟩

set_option maxRecDepth 100000 in
set_option maxHeartbeats 1000000 in
theorem refconsistent_any (w : World) (R : Nat) (a : Option Addr) (cap : Nat) (bs : List Bd) (hN0 : 1 ≤ R) (hN1 : R ≤ 128) (hl : bs.length ≤ 4000) (h : BoundsAt w a bs) (hv : AllValid R bs) :
    Calls Tryz.prog 58 #[.agg #[.int .i64 (R : Int), .slice a bs.length cap]] w fun e w' => e = .returned (.bool (keptR R bs)) ∧ Below w.heap.size w w' := by
  have H := hidE h
  have HV := hidE hv
  clear h hv
  obtain ⟨G, hG⟩ : ∃ G, openedGo bs (R + 1) (List.replicate R 0) = G := ⟨_, rfl⟩
  have hk : keptR R bs = G.isSome := by unfold keptR; rw [hG]
  have HG := hidE hG
  have HK := hidE hk
  clear hG hk
  have hmk3 := fun W => run_make_row' (P := Tryz.prog) 35 3 (.int .i64 0) 8 Tryz.underlying35 Tryz.info3' rfl .i64 .i64 R (by omega) (by omega) W
  go_enter Tryz.func58, Tryz.ntmps58
  go_wp2_with fail
  have s0 : Hid ((w.alloc (.cells #[.int .i64 (R : Int), .slice a bs.length cap] 24)).alloc (.cells (madeCells #[.int .i64 0] R) 3) = (w.alloc (.cells #[.int .i64 (R : Int), .slice a bs.length cap] 24)).alloc (.cells (rowA (List.replicate R 0)) 3)) := hidE (by rw [madeInts])
  go_loopw [4] (fun i wr => ∃ (r : Nat) (h : List Int), r ≤ R + 1 ∧ i = .int .i64 r ∧ Hid (openedGo bs (R + 1 - r) h = G) ∧ Hid (h.length = R) ∧ Hid (LowBy (r * bs.length) h) ∧
      Hid (wr.heap[w.heap.size]? = some (.cells #[.int .i64 (R : Int), .slice a bs.length cap] 24 (0,0))) ∧ Hid (wr.heap[w.heap.size + 1]? = some (.cells (rowA h) 3 (0,0))) ∧ Below w.heap.size w wr)
      (fun i _ => R + 1 - (intOf i).toNat)
  case atStart => exact ⟨0, List.replicate R 0, by omega, rfl, HG, hidE (by simp), hidE (by rw [Nat.zero_mul]; exact lowBy_start R), hidE (by rw [Below.heap_alloc _ _ _ (by simp), heap_alloc_new]), hidE (by rw [s0.out, heap_alloc_at _ _ _ (by simp)]), by go_grown⟩
  case round =>
    obtain ⟨r, h, hr, rfl, hgo, HL, hlow, H1, H2, hb⟩ := hrel
    clear hmk3 s0
    have c0 : wr.cell? ⟨w.heap.size, 0, none⟩ = some (.int .i64 (R : Int)) := by rw [cell_of_row _ _ _ _ _ _ H1.out]; rfl
    have c1 : wr.cell? ⟨w.heap.size, 1, none⟩ = some (.slice a bs.length cap) := by rw [cell_of_row _ _ _ _ _ _ H1.out]; rfl
    by_cases hlt : r < R + 1
    · have hrL : r * bs.length ≤ 128 * 4000 := Nat.mul_le_mul (by omega) hl
      have hdec : decide (r ≤ R) = true := by simp; omega
      go_wp2_with fail
      go_loopw [5, 6] (fun c i wr => ∃ (k : Nat) (h' : List Int) (ch : Bool), k ≤ bs.length ∧ i = .int .i64 k ∧ c = .bool ch ∧ Hid ((bs.take k).foldl relaxC (h, false) = (h', ch)) ∧ Hid (h'.length = R) ∧ Hid (LowBy (r * bs.length + k) h') ∧
          Hid (wr.heap[w.heap.size]? = some (.cells #[.int .i64 (R : Int), .slice a bs.length cap] 24 (0,0))) ∧ Hid (wr.heap[w.heap.size + 1]? = some (.cells (rowA h') 3 (0,0))) ∧ Below w.heap.size w wr)
          (fun _ i _ => bs.length - (intOf i).toNat)
      case atStart => exact ⟨0, h, false, by omega, rfl, rfl, hidE rfl, HL, hlow, H1, H2, hb⟩
      case round =>
        clear c0 c1
        obtain ⟨k, h', ch, hk, rfl, rfl, HF, HL', HW, H1', H2', hb'⟩ := hrel
        have c1 : wr.cell? ⟨w.heap.size, 1, none⟩ = some (.slice a bs.length cap) := by rw [cell_of_row _ _ _ _ _ _ H1'.out]; rfl
        by_cases hlt' : k < bs.length
        · obtain ⟨b, off, rfl, hbl, hcs⟩ := H.out.at hlt'
          obtain ⟨d0, d1, d2, d3⟩ := hcs.below hb' hbl
          have hval := HV.out bs[k] (List.getElem_mem hlt')
          obtain ⟨x, hx⟩ : ∃ x, bs[k] = x := ⟨_, rfl⟩
          rw [hx] at d0 d1 d2 d3 hval
          have HX := hidE hx
          clear hx hcs
          obtain ⟨xs, xd, xm, xr⟩ := x
          obtain ⟨v1, v2, v3, v4, v5, v6⟩ := hval
          simp only at d0 d1 d2 d3 v1 v2 v3 v4 v5 v6
          obtain ⟨si, rfl⟩ := Int.eq_ofNat_of_zero_le v1
          obtain ⟨di, rfl⟩ := Int.eq_ofNat_of_zero_le v3
          have hsz : w.heap.size + 1 < wr.heap.size := lt_of_block H2'.out
          have hs128 : si < h'.length := by rw [HL'.out]; omega
          have hd128 : di < h'.length := by rw [HL'.out]; omega
          have cs : wr.cell? ⟨w.heap.size + 1, si, none⟩ = some (.int .i64 (h'.getD si 0)) := by rw [cell_of_row _ _ _ _ _ _ H2'.out, rowA_get hs128]
          have cd : wr.cell? ⟨w.heap.size + 1, di, none⟩ = some (.int .i64 (h'.getD di 0)) := by rw [cell_of_row _ _ _ _ _ _ H2'.out, rowA_get hd128]
          have fd : wr.frozen? ⟨w.heap.size + 1, di, none⟩ = false := frozen_of_row _ _ _ _ _ H2'.out
          have bs1 := HW.out si
          have bd1 := HW.out di
          obtain ⟨vs, hvs⟩ : ∃ v, h'.getD si 0 = v := ⟨_, rfl⟩
          obtain ⟨vd, hvd⟩ : ∃ v, h'.getD di 0 = v := ⟨_, rfl⟩
          rw [hvs] at cs bs1
          rw [hvd] at cd bd1
          have HVS := hidE hvs
          have HVD := hidE hvd
          have s1 : (si : Int) < R := by omega
          have d1' : (di : Int) < R := by omega
          have hww : IntKind.i64.wrap (vs + xm) = vs + xm := IntWalk.i64_in _ (by omega)
          clear hvs hvd hs128 hd128
          by_cases hlow : vs + xm < vd
          · have hdl : decide (vs + xm < vd) = true := by simpa using hlow
            go_wp2_with fail
            go_quiet (fail)
            obtain ⟨Y, hY⟩ : ∃ Y, Y = (wr.alloc (Obj.cells #[.int .i64 (si : Int), .int .i64 (di : Int), .int .i64 xm, .int .i64 xr] 47)).drewN nq := ⟨_, rfl⟩
            rw [← hY]
            have y7 : Y.heap[wr.heap.size]? = some (.cells #[.int .i64 (si : Int), .int .i64 (di : Int), .int .i64 xm, .int .i64 xr] 47 (0,0)) := by rw [hY]; exact heap_alloc_new _ _
            have yh : Y.heap[w.heap.size + 1]? = some (.cells (rowA h') 3 (0,0)) := by rw [hY]; exact (Below.heap_alloc _ _ _ hsz).trans H2'.out
            have yb : Y.heap[w.heap.size]? = some (.cells #[.int .i64 (R : Int), .slice (some ⟨b, off, none⟩) bs.length cap] 24 (0,0)) := by rw [hY]; exact (Below.heap_alloc _ _ _ (by omega)).trans H1'.out
            have yB : Below w.heap.size w Y := by rw [hY]; exact (hb'.alloc hb'.size _).trans (below_drewN' _ _)
            have z0 : Y.cell? ⟨wr.heap.size, 0, none⟩ = some (.int .i64 (si : Int)) := by rw [cell_of_row _ _ _ _ _ _ y7]; rfl
            have z1 : Y.cell? ⟨wr.heap.size, 1, none⟩ = some (.int .i64 (di : Int)) := by rw [cell_of_row _ _ _ _ _ _ y7]; rfl
            have z2 : Y.cell? ⟨wr.heap.size, 2, none⟩ = some (.int .i64 xm) := by rw [cell_of_row _ _ _ _ _ _ y7]; rfl
            have zs : Y.cell? ⟨w.heap.size + 1, si, none⟩ = some (.int .i64 vs) := by rw [cell_of_row _ _ _ _ _ _ yh, rowA_get (by rw [HL'.out]; omega), HVS.out]
            have zd : Y.cell? ⟨w.heap.size + 1, di, none⟩ = some (.int .i64 vd) := by rw [cell_of_row _ _ _ _ _ _ yh, rowA_get (by rw [HL'.out]; omega), HVD.out]
            have zf : Y.frozen? ⟨w.heap.size + 1, di, none⟩ = false := frozen_of_row _ _ _ _ _ yh
            have YH := hidE yh
            have YB := hidE yb
            have YBB := hidE yB
            clear hY y7 yh yb yB cs cd fd d0 d1 d2 d3
            go_upto_region 11 with fail
            go_still_tail 12, (by kernel_rfl)
            go_wp2_with fail
            go_roundw
            case rel =>
              refine ⟨k + 1, h'.set di (vs + xm), true, by omega, by go_num, rfl, hidE ?_, hidE (by rw [List.length_set]; exact HL'.out), hidE ?_, hidE ?_, hidE ?_, ?_⟩
              · rw [foldl_take_succ _ _ _ hlt', HF.out, HX.out]
                unfold relaxC
                rw [if_pos]
                · simp only [getI, Int.toNat_natCast, HVS.out]
                · simp only [getI, Int.toNat_natCast, HVS.out, HVD.out]; omega
              · have hl1 := relaxC_low (c := r * bs.length + k) (s := (h', ch)) (HV.out _ (List.getElem_mem hlt')) HW.out
                rw [HX.out] at hl1
                unfold relaxC at hl1
                rw [if_pos (by simp only [getI, Int.toNat_natCast, HVS.out, HVD.out]; omega)] at hl1
                simp only [getI, Int.toNat_natCast, HVS.out] at hl1
                exact hl1
              · exact (heap_setCell_other _ _ _ _ (by simp)).trans YB.out
              · exact (heap_setCell_same _ _ _ _ _ _ YH.out).trans (by rw [rowA_set])
              · exact YBB.out.drew.setCell (by simp) _
            case measure => simp [intOf]; omega
          · have hdl : decide (vs + xm < vd) = false := by simpa using hlow
            go_wp2_with fail
            go_quiet (fail)
            go_wp2_with fail
            go_roundw
            case rel =>
              refine ⟨k + 1, h', ch, by omega, by go_num, rfl, hidE ?_, HL', hidE (HW.out.mono (by omega)), hidE ?_, hidE ?_, ?_⟩
              · rw [foldl_take_succ _ _ _ hlt', HF.out, HX.out]
                unfold relaxC
                rw [if_neg]
                simp only [getI, Int.toNat_natCast, HVS.out, HVD.out]; omega
              · exact (Below.heap_alloc _ _ _ (by omega)).trans H1'.out
              · exact (Below.heap_alloc _ _ _ hsz).trans H2'.out
              · exact (hb'.alloc hb'.size _).trans (below_drewN' _ _)
            case measure => simp [intOf]; omega
        · have hek : (bs.take k).foldl relaxC (h, false) = roundP bs h := by rw [List.take_of_length_le (by omega)]; rfl
          have hF := HF.out
          rw [hek] at hF
          have HF2 := hidE hF
          clear hF hek
          cases ch with
          | true =>
            go_wp2_with fail
            go_roundw
            case rel =>
              refine ⟨r + 1, h', by omega, by go_num, hidE ?_, HL', hidE (HW.out.mono (by rw [Nat.succ_mul]; omega)), H1', H2', hb'⟩
              rw [← hgo.out, show R + 1 - r = (R + 1 - (r + 1)) + 1 by omega, openedGo, HF2.out]; rfl
            case measure => simp [intOf]; omega
          | false =>
            have hg : G = some h' := by rw [← hgo.out, show R + 1 - r = (R + 1 - (r + 1)) + 1 by omega, openedGo, HF2.out]; rfl
            have HG2 := hidE hg
            clear hg
            go_wp2_with fail
            go_ret
            exact ⟨by rw [HK.out, HG2.out]; rfl, hb'⟩
    · have hdec : decide (r ≤ R) = false := by simp; omega
      go_wp2_with fail
      go_ret
      have e : R + 1 - r = 0 := by omega
      have hg := hgo.out
      rw [e] at hg
      exact ⟨by rw [HK.out, ← hg]; rfl, hb⟩

end Go.Proofs.YthcmjhellpjllaaGreat
