/- Walk: the reference's Matrix. Conditions: at most 40 points, valid bounds, no negative closed walk. -/
import Derived.Test.YthcmjhellpjllaaGreatCY8
namespace Go.Proofs.YthcmjhellpjllaaGreat
open Go Go.RowKit Go.Shelf
attribute [local go_sem] Oper.semAt_some

set_option maxRecDepth 100000 in
set_option maxHeartbeats 4000000 in
theorem matrix_any (w : World) (R : Nat) (a : Option Addr) (cap : Nat) (bs : List Bd) (hR0 : 1 ≤ R) (hR1 : R ≤ 40) (hl : bs.length ≤ 4000) (h : BoundsAt w a bs) (hv : AllValid R bs) (hn : NoNeg bs) :
    Calls Tryz.prog 27 #[.agg #[.int .i64 (R : Int), .slice a bs.length cap]] w fun e w' => e = .returned (.slice (some ⟨w.heap.size + 1, 0, none⟩) R R) ∧ MatAt w' (w.heap.size + 1) R (matrixP R bs) ∧ Below w.heap.size w w' := by
  have hmk := fun W => run_make_row' (P := Tryz.prog) 61 65 (.slice none 0 0) 24 Tryz.underlying61 Tryz.info65 rfl .i64 .i64 R (by omega) (by omega) W
  have hmf := fun W => run_make_fr R (by omega) W
  obtain ⟨W0, hW0⟩ : ∃ W0, W0 = (w.alloc (.cells #[.int .i64 (R : Int), .slice a bs.length cap] 24)).alloc (.cells (madeCells #[.slice none 0 0] R) 65) := ⟨_, rfl⟩
  have st0 : MSt0 w W0 R a bs.length cap 0 := by
    rw [hW0]
    refine ⟨?_, ?_, fun i hi => by omega, by simp, ((Below.refl _ _).alloc (Nat.le_refl _) _).alloc (by simp) _⟩
    · rw [Below.heap_alloc _ _ _ (by simp), heap_alloc_new]
    · rw [heap_alloc_at _ _ _ (by simp)]
      congr 2
      rw [← toList_madeCells_one]
      simp
  have ST0 := hidE st0
  have HW0 := hidE hW0
  have H := hidE h
  have HV := hidE hv
  have HN := hidE hn
  clear st0 hW0 h hv hn
  have iR0 : ∀ x : Nat, x < R → (x : Int) < (R : Int) := fun x hx => by omega
  go_enter Tryz.func27, Tryz.ntmps27
  go_upto_region 2 with fail
  rw [← HW0.out]
  go_wp2_with fail
  go_loopw [4] (fun i wr => ∃ k : Nat, k ≤ R ∧ i = .int .i64 k ∧ Hid (MSt0 w wr R a bs.length cap k)) (fun i _ => R - (intOf i).toNat)
  case atStart => exact ⟨0, by omega, rfl, ST0⟩
  case round =>
    obtain ⟨k, hk, rfl, hst⟩ := hrel
    have e0 : wr.cell? ⟨w.heap.size, 0, none⟩ = some (.int .i64 (R : Int)) := by rw [cell_of_row _ _ _ _ _ _ hst.out.box]; rfl
    by_cases hlt : k < R
    · have s0 : wr.cell? ⟨w.heap.size + 1, k, none⟩ = some (.slice none 0 0) := by
        rw [cell_of_row _ _ _ _ _ _ hst.out.out, List.getElem?_toArray, half_get _ _ hlt]
      have s1 : wr.frozen? ⟨w.heap.size + 1, k, none⟩ = false := frozen_of_row _ _ _ _ _ hst.out.out
      have l0 : w.heap.size < wr.heap.size := lt_of_block hst.out.box
      have l1 : w.heap.size + 1 < wr.heap.size := lt_of_block hst.out.out
      have hI := iR0 k hlt
      go_upto_region 6 with fail
      obtain ⟨W1, hW1⟩ : ∃ W1, W1 = (wr.setCell ⟨w.heap.size + 1, k, none⟩ (.slice (some ⟨wr.heap.size, 0, none⟩) R R)).alloc (.cells (frCells (List.replicate R fr0)).toArray 64) := ⟨_, rfl⟩
      first
        | rw [← hW1]
        | (rw [World.setCell_alloc_past _ _ _ _ l1]; rw [← hW1])
      have b1 : W1.heap[wr.heap.size]? = some (.cells (frCells (List.replicate R fr0)).toArray 64 (0,0)) := by rw [hW1, heap_alloc_at _ _ _ (by simp)]
      have b0 : W1.heap[w.heap.size + 1]? = some (.cells (((List.range k).map (slV (w.heap.size + 1) R) ++ List.replicate (R - k) (Value.slice none 0 0)).toArray.setIfInBounds k (.slice (some ⟨wr.heap.size, 0, none⟩) R R)) 65 (0,0)) := by
        rw [hW1, Below.heap_alloc _ _ _ (by simpa using l1)]
        exact heap_setCell_same _ _ _ _ _ _ hst.out.out
      have hfl : k < (List.replicate R fr0).length := by simpa using hlt
      have q0 : W1.cell? ⟨w.heap.size + 1, k, none⟩ = some (.slice (some ⟨wr.heap.size, 0, none⟩) R R) := by
        rw [cell_of_row _ _ _ _ _ _ b0, half_set _ _ _ hlt]
      have q1 : W1.cell? ⟨wr.heap.size, k * 2, none⟩ = some (.int .i64 ((List.replicate R fr0).getD k fr0).s) := by rw [cell_of_row _ _ _ _ _ _ b1, List.getElem?_toArray, frCells_get0 _ _ hfl]
      have q2 : W1.cell? ⟨wr.heap.size, k * 2 + 1, none⟩ = some (.bool ((List.replicate R fr0).getD k fr0).ok) := by rw [cell_of_row _ _ _ _ _ _ b1, List.getElem?_toArray, frCells_get1 _ _ hfl]
      have q3 : ∀ i, W1.frozen? ⟨wr.heap.size, i, none⟩ = false := fun i => frozen_of_row _ _ _ _ _ b1
      have hb : Below (w.heap.size + 1) wr W1 := by rw [hW1]; exact ((Below.refl (w.heap.size + 1) wr).setCell (Nat.le_refl _) _).alloc (by simp; omega) _
      have hoth : ∀ j, j < wr.heap.size → j ≠ w.heap.size + 1 → W1.heap[j]? = wr.heap[j]? := fun j hj hne => by
        rw [hW1, Below.heap_alloc _ _ _ (by simpa using hj), heap_setCell_other _ _ _ _ hne]
      have hsz1 : W1.heap.size = wr.heap.size + 1 := by rw [hW1]; simp
      have hszr := hst.out.size
      have HB := hidE hb
      have HO := hidE hoth
      have B0 := hidE b0
      have B1 := hidE b1
      have HS1 := hidE hsz1
      have HSR := hidE hszr
      clear hW1 b0 b1 hb hoth s0 s1 e0 hsz1 hszr
      go_wp2_with fail
      go_roundw
      case rel =>
        have hsz1 := HS1.out
        have hszr := HSR.out
        refine ⟨k + 1, by omega, by go_num, hidE ?_⟩
        have hne1 : w.heap.size + 1 ≠ wr.heap.size := by omega
        refine hst.out.next hlt ((HB.out.setCell (by simp; omega) _).setCell (by simp; omega) _) ?_ ?_ ?_ ?_
        · rw [heap_setCell_other _ _ _ _ (by simpa using hne1), heap_setCell_other _ _ _ _ (by simpa using hne1), B0.out, hszr]; rfl
        · intro i hi
          rw [heap_setCell_other _ _ _ _ (by simp; omega), heap_setCell_other _ _ _ _ (by simp; omega)]
          exact HO.out _ (by omega) (by omega)
        · have hh := heap_setCell_same _ _ (k * 2 + 1) _ _ (Value.bool true) (heap_setCell_same _ _ (k * 2) _ _ (Value.int .i64 0) B1.out)
          rw [← hszr]
          refine hh.trans ?_
          congr 2
          rw [← frCells_set _ _ _ hfl]
          simp
        · simp [hsz1]
      case measure => simp [intOf]; omega
    · obtain rfl : k = R := by omega
      have hm := hidE hst.out.done
      clear e0 hst
      have e0 : wr.cell? ⟨w.heap.size, 0, none⟩ = some (.int .i64 (k : Int)) := by rw [cell_of_row _ _ _ _ _ _ hm.out.box]; rfl
      obtain ⟨wA, rfl⟩ : ∃ x : World, x = wr := ⟨wr, rfl⟩
      go_wp2_with fail
      go_loopw [5] (fun i wr => ∃ q : Nat, q ≤ bs.length ∧ i = .int .i64 q ∧ Hid (MSt w wr k a bs.length cap ((bs.take q).foldl mat1 (mat0 k)))) (fun i _ => bs.length - (intOf i).toNat)
      case atStart => exact ⟨0, by omega, rfl, hm⟩
      case round =>
        obtain ⟨q, hq, rfl, hst⟩ := hrel
        clear e0
        have e0 : wr.cell? ⟨w.heap.size, 0, none⟩ = some (.int .i64 (k : Int)) := by rw [cell_of_row _ _ _ _ _ _ hst.out.box]; rfl
        have e1 : wr.cell? ⟨w.heap.size, 1, none⟩ = some (.slice a bs.length cap) := by rw [cell_of_row _ _ _ _ _ _ hst.out.box]; rfl
        have l0 : w.heap.size < wr.heap.size := lt_of_block hst.out.box
        by_cases hlt : q < bs.length
        · obtain ⟨bb, off, rfl, hbl, hcs⟩ := H.out.at hlt
          obtain ⟨c0, c1, c2, c3⟩ := hcs.below hst.out.bl hbl
          have hval := HV.out bs[q] (List.getElem_mem _)
          obtain ⟨x, hx⟩ : ∃ x, bs[q] = x := ⟨_, rfl⟩
          rw [hx] at c0 c1 c2 c3 hval
          have HX := hidE hx
          clear hx
          obtain ⟨ys, yd, ym, yr⟩ := x
          obtain ⟨v1, v2, v3, v4, v5, v6⟩ := hval
          simp only at c0 c1 c2 c3 v1 v2 v3 v4 v5 v6
          obtain ⟨si, rfl⟩ := Int.eq_ofNat_of_zero_le v1
          obtain ⟨di, rfl⟩ := Int.eq_ofNat_of_zero_le v3
          obtain ⟨d, hdd⟩ : ∃ d, (bs.take q).foldl mat1 (mat0 k) = d := ⟨_, rfl⟩
          rw [hdd] at hst
          have HD := hidE hdd
          clear hdd
          have iR : si < k := by omega
          have jR : di < k := by omega
          have iI : (si : Int) < (k : Int) := v2
          have jI : (di : Int) < (k : Int) := v4
          have cR : di < k := jR
          have cI : (di : Int) < (k : Int) := v4
          go_upto_region 11 with fail
          obtain ⟨W2, hW2⟩ : ∃ W2, W2 = wr.alloc (Obj.cells #[.int .i64 (si : Int), .int .i64 (di : Int), .int .i64 ym, .int .i64 yr] 47) := ⟨_, rfl⟩
          rw [← hW2]
          have hbx : W2.heap[wr.heap.size]? = some (.cells #[.int .i64 (si : Int), .int .i64 (di : Int), .int .i64 ym, .int .i64 yr] 47 (0,0)) := by rw [hW2]; exact heap_alloc_new _ _
          have hst2 := hst.out.grow (W' := W2) (by rw [hW2]; exact (Below.refl _ _).alloc (Nat.le_refl _) _)
          clear hW2 c0 c1 c2 c3 e0 e1
          obtain ⟨ms, hms⟩ : ∃ v, (mget d si di).s = v := ⟨_, rfl⟩
          obtain ⟨mo, hmo⟩ : ∃ v, (mget d si di).ok = v := ⟨_, rfl⟩
          have hmd : mget d si di = ⟨ms, mo⟩ := by rw [← hms, ← hmo]
          have q3 := hst2.mat.slot iR
          obtain ⟨q4, q5, q6⟩ := hst2.mat.cells hst2.dim iR jR
          rw [hms] at q4
          rw [hmo] at q5
          have q0 : W2.cell? ⟨wr.heap.size, 0, none⟩ = some (.int .i64 (si : Int)) := by rw [cell_of_row _ _ _ _ _ _ hbx]; rfl
          have q1 : W2.cell? ⟨wr.heap.size, 1, none⟩ = some (.int .i64 (di : Int)) := by rw [cell_of_row _ _ _ _ _ _ hbx]; rfl
          have q2 : W2.cell? ⟨wr.heap.size, 2, none⟩ = some (.int .i64 ym) := by rw [cell_of_row _ _ _ _ _ _ hbx]; rfl
          have l2 : wr.heap.size < W2.heap.size := lt_of_block hbx
          have l3 : w.heap.size + 1 < W2.heap.size := lt_of_block hst2.mat.out
          have l4 : w.heap.size + 1 + 1 + si < W2.heap.size := lt_of_block (hst2.mat.row si iR)
          have HMD := hidE hmd
          have HST2 := hidE hst2
          clear hms hmo hmd hst2 hst hbx q6
          refine wp_region_F (S := fun V => V.cell? ⟨wr.heap.size, 0, none⟩ = some (.int .i64 (si : Int)) ∧ V.cell? ⟨wr.heap.size, 1, none⟩ = some (.int .i64 (di : Int)) ∧ V.cell? ⟨wr.heap.size, 2, none⟩ = some (.int .i64 ym) ∧ V.cell? ⟨w.heap.size + 1, si, none⟩ = some (.slice (some ⟨w.heap.size + 1 + 1 + si, 0, none⟩) k k) ∧ V.cell? ⟨w.heap.size + 1 + 1 + si, di * 2, none⟩ = some (.int .i64 ms) ∧ V.cell? ⟨w.heap.size + 1 + 1 + si, di * 2 + 1, none⟩ = some (.bool mo)) (last := 21) (by kernel_rfl) ?_
          have hS0 : W2.drew.cell? ⟨wr.heap.size, 0, none⟩ = some (.int .i64 (si : Int)) ∧ W2.drew.cell? ⟨wr.heap.size, 1, none⟩ = some (.int .i64 (di : Int)) ∧ W2.drew.cell? ⟨wr.heap.size, 2, none⟩ = some (.int .i64 ym) ∧ W2.drew.cell? ⟨w.heap.size + 1, si, none⟩ = some (.slice (some ⟨w.heap.size + 1 + 1 + si, 0, none⟩) k k) ∧ W2.drew.cell? ⟨w.heap.size + 1 + 1 + si, di * 2, none⟩ = some (.int .i64 ms) ∧ W2.drew.cell? ⟨w.heap.size + 1 + 1 + si, di * 2 + 1, none⟩ = some (.bool mo) := ⟨q0, q1, q2, q3, q4, q5⟩
          refine wpAnyF_take (i := 0) (v := (.slice (some ⟨w.heap.size + 1, 0, none⟩) k k)) (by kernel_rfl) (by decide) rfl (by kernel_rfl) (by kernel_rfl) (by kernel_rfl) (fun _ _ _ h => h) (.inl ⟨rfl, fun V hV => ?_⟩) hS0 ?_
          · obtain ⟨z0, z1, z2, z3, z4, z5⟩ := hV
            simp [go_sem, execOp]
          simp only [Act.put, List.setIfInBounds_toArray]
          refine wpAnyF_take (i := 1) (v := (.pointer (some ⟨wr.heap.size, 0, none⟩))) (by kernel_rfl) (by decide) rfl (by kernel_rfl) (by kernel_rfl) (by kernel_rfl) (fun _ _ _ h => h) (.inl ⟨rfl, fun V hV => ?_⟩) hS0 ?_
          · obtain ⟨z0, z1, z2, z3, z4, z5⟩ := hV
            simp [go_sem, execOp]
          simp only [Act.put]
          refine wpAnyF_take (i := 2) (v := (.int .i64 (si : Int))) (by kernel_rfl) (by decide) rfl (by kernel_rfl) (by kernel_rfl) (by kernel_rfl) (fun _ _ _ h => h) (.inl ⟨rfl, fun V hV => ?_⟩) hS0 ?_
          · obtain ⟨z0, z1, z2, z3, z4, z5⟩ := hV
            simp [go_sem, execOp, z0]
          simp only [Act.put]
          refine wpAnyF_take (i := 3) (v := (.pointer (some ⟨w.heap.size + 1, si, none⟩))) (by kernel_rfl) (by decide) rfl (by kernel_rfl) (by kernel_rfl) (by kernel_rfl) (fun _ _ _ h => h) (.inl ⟨rfl, fun V hV => ?_⟩) hS0 ?_
          · obtain ⟨z0, z1, z2, z3, z4, z5⟩ := hV
            simp [go_sem, execOp, iI]
          simp only [Act.put]
          refine wpAnyF_take (i := 4) (v := (.slice (some ⟨w.heap.size + 1 + 1 + si, 0, none⟩) k k)) (by kernel_rfl) (by decide) rfl (by kernel_rfl) (by kernel_rfl) (by kernel_rfl) (fun _ _ _ h => h) (.inl ⟨rfl, fun V hV => ?_⟩) hS0 ?_
          · obtain ⟨z0, z1, z2, z3, z4, z5⟩ := hV
            simp [go_sem, execOp, z3]
          simp only [Act.put]
          refine wpAnyF_take (i := 5) (v := (.pointer (some ⟨wr.heap.size, 1, none⟩))) (by kernel_rfl) (by decide) rfl (by kernel_rfl) (by kernel_rfl) (by kernel_rfl) (fun _ _ _ h => h) (.inl ⟨rfl, fun V hV => ?_⟩) hS0 ?_
          · obtain ⟨z0, z1, z2, z3, z4, z5⟩ := hV
            simp [go_sem, execOp]
          simp only [Act.put]
          refine wpAnyF_take (i := 6) (v := (.int .i64 (di : Int))) (by kernel_rfl) (by decide) rfl (by kernel_rfl) (by kernel_rfl) (by kernel_rfl) (fun _ _ _ h => h) (.inl ⟨rfl, fun V hV => ?_⟩) hS0 ?_
          · obtain ⟨z0, z1, z2, z3, z4, z5⟩ := hV
            simp [go_sem, execOp, z1]
          simp only [Act.put]
          refine wpAnyF_take (i := 7) (v := (.slice (some ⟨w.heap.size + 1, 0, none⟩) k k)) (by kernel_rfl) (by decide) rfl (by kernel_rfl) (by kernel_rfl) (by kernel_rfl) (fun _ _ _ h => h) (.inl ⟨rfl, fun V hV => ?_⟩) hS0 ?_
          · obtain ⟨z0, z1, z2, z3, z4, z5⟩ := hV
            simp [go_sem, execOp]
          simp only [Act.put]
          refine wpAnyF_take (i := 8) (v := (.pointer (some ⟨wr.heap.size, 0, none⟩))) (by kernel_rfl) (by decide) rfl (by kernel_rfl) (by kernel_rfl) (by kernel_rfl) (fun _ _ _ h => h) (.inl ⟨rfl, fun V hV => ?_⟩) hS0 ?_
          · obtain ⟨z0, z1, z2, z3, z4, z5⟩ := hV
            simp [go_sem, execOp]
          simp only [Act.put]
          refine wpAnyF_take (i := 9) (v := (.int .i64 (si : Int))) (by kernel_rfl) (by decide) rfl (by kernel_rfl) (by kernel_rfl) (by kernel_rfl) (fun _ _ _ h => h) (.inl ⟨rfl, fun V hV => ?_⟩) hS0 ?_
          · obtain ⟨z0, z1, z2, z3, z4, z5⟩ := hV
            simp [go_sem, execOp, z0]
          simp only [Act.put]
          refine wpAnyF_take (i := 10) (v := (.pointer (some ⟨w.heap.size + 1, si, none⟩))) (by kernel_rfl) (by decide) rfl (by kernel_rfl) (by kernel_rfl) (by kernel_rfl) (fun _ _ _ h => h) (.inl ⟨rfl, fun V hV => ?_⟩) hS0 ?_
          · obtain ⟨z0, z1, z2, z3, z4, z5⟩ := hV
            simp [go_sem, execOp, iI]
          simp only [Act.put]
          refine wpAnyF_take (i := 11) (v := (.slice (some ⟨w.heap.size + 1 + 1 + si, 0, none⟩) k k)) (by kernel_rfl) (by decide) rfl (by kernel_rfl) (by kernel_rfl) (by kernel_rfl) (fun _ _ _ h => h) (.inl ⟨rfl, fun V hV => ?_⟩) hS0 ?_
          · obtain ⟨z0, z1, z2, z3, z4, z5⟩ := hV
            simp [go_sem, execOp, z3]
          simp only [Act.put]
          refine wpAnyF_take (i := 12) (v := (.pointer (some ⟨wr.heap.size, 1, none⟩))) (by kernel_rfl) (by decide) rfl (by kernel_rfl) (by kernel_rfl) (by kernel_rfl) (fun _ _ _ h => h) (.inl ⟨rfl, fun V hV => ?_⟩) hS0 ?_
          · obtain ⟨z0, z1, z2, z3, z4, z5⟩ := hV
            simp [go_sem, execOp]
          simp only [Act.put]
          refine wpAnyF_take (i := 13) (v := (.int .i64 (di : Int))) (by kernel_rfl) (by decide) rfl (by kernel_rfl) (by kernel_rfl) (by kernel_rfl) (fun _ _ _ h => h) (.inl ⟨rfl, fun V hV => ?_⟩) hS0 ?_
          · obtain ⟨z0, z1, z2, z3, z4, z5⟩ := hV
            simp [go_sem, execOp, z1]
          simp only [Act.put]
          refine wpAnyF_take (i := 14) (v := (.pointer (some ⟨w.heap.size + 1 + 1 + si, di * 2, none⟩))) (by kernel_rfl) (by decide) rfl (by kernel_rfl) (by kernel_rfl) (by kernel_rfl) (fun _ _ _ h => h) (.inl ⟨rfl, fun V hV => ?_⟩) hS0 ?_
          · obtain ⟨z0, z1, z2, z3, z4, z5⟩ := hV
            simp [go_sem, execOp, jI]
          simp only [Act.put]
          refine wpAnyF_take (i := 15) (v := (.agg #[.int .i64 ms, .bool mo])) (by kernel_rfl) (by decide) rfl (by kernel_rfl) (by kernel_rfl) (by kernel_rfl) (fun _ _ _ h => h) (.inl ⟨rfl, fun V hV => ?_⟩) hS0 ?_
          · obtain ⟨z0, z1, z2, z3, z4, z5⟩ := hV
            simp [go_sem, execOp, z4, z5]
          simp only [Act.put]
          refine wpAnyF_take (i := 16) (v := (.pointer (some ⟨wr.heap.size, 2, none⟩))) (by kernel_rfl) (by decide) rfl (by kernel_rfl) (by kernel_rfl) (by kernel_rfl) (fun _ _ _ h => h) (.inl ⟨rfl, fun V hV => ?_⟩) hS0 ?_
          · obtain ⟨z0, z1, z2, z3, z4, z5⟩ := hV
            simp [go_sem, execOp]
          simp only [Act.put]
          refine wpAnyF_take (i := 17) (v := (.int .i64 ym)) (by kernel_rfl) (by decide) rfl (by kernel_rfl) (by kernel_rfl) (by kernel_rfl) (fun _ _ _ h => h) (.inl ⟨rfl, fun V hV => ?_⟩) hS0 ?_
          · obtain ⟨z0, z1, z2, z3, z4, z5⟩ := hV
            simp [go_sem, execOp, z2]
          simp only [Act.put]
          refine wpAnyF_take (i := 18) (v := (.agg #[.int .i64 ym, .bool true])) (by kernel_rfl) (by decide) rfl (by kernel_rfl) (by kernel_rfl) (by kernel_rfl) (fun _ _ _ h => h) (.inl ⟨rfl, fun V hV => ?_⟩) hS0 ?_
          · obtain ⟨z0, z1, z2, z3, z4, z5⟩ := hV
            simp [go_sem, execOp]
          simp only [Act.put]
          refine wpAnyF_step 19 rfl (by kernel_rfl) (fun K hK => ?_)
          go_simp
          go_at_call 59
          refine (lesser_at _ _ _ _ _).mono ?_
          rintro e w3 ⟨rfl, hb3⟩
          go_wp2_with fail
          have k0 := (hb3.cell (p := ⟨wr.heap.size, 0, none⟩) l2).trans q0
          have k1 := (hb3.cell (p := ⟨wr.heap.size, 1, none⟩) l2).trans q1
          have k2 := (hb3.cell (p := ⟨wr.heap.size, 2, none⟩) l2).trans q2
          have k3 := (hb3.cell (p := ⟨w.heap.size + 1, si, none⟩) l3).trans q3
          have k4 := (hb3.cell (p := ⟨w.heap.size + 1 + 1 + si, di * 2, none⟩) l4).trans q4
          have k5 := (hb3.cell (p := ⟨w.heap.size + 1 + 1 + si, di * 2 + 1, none⟩) l4).trans q5
          have hst3 := HST2.out.grow (W' := w3) (below_of_drew hb3)
          have k6 := (hst3.mat.cells hst3.dim iR jR).2.2
          have HST3 := hidE hst3
          clear hst3 hb3
          refine hK.out _ _ (.inr ⟨k0, k1, k2, k3, k4, k5⟩) ?_
          clear hK K
          try simp only [Act.put, List.setIfInBounds_toArray, List.set_cons_succ, List.set_cons_zero]
          refine wpAnyF_step 20 rfl (by kernel_rfl) (fun K hK => ?_)
          go_simp
          refine hK.out _ _ (.inr ⟨k0, k1, k2, k3, k4, k5⟩) ?_
          clear hK K
          try simp only [Act.put, List.setIfInBounds_toArray, List.set_cons_succ, List.set_cons_zero]
          refine wpAnyF_step 21 rfl (by kernel_rfl) (fun K hK => ?_)
          go_simp
          refine hK.out _ _ (.inl rfl) ?_
          clear hK K
          refine wpAnyF_done (by kernel_rfl) ?_ _
          go_wp2_with fail
          go_roundw
          case rel =>
            refine ⟨q + 1, by omega, by go_num, hidE ?_⟩
            rw [foldl_take_succ _ _ _ hlt, HD.out, HX.out]
            have hh := HST3.out.set iR jR (lesserP ⟨ms, mo⟩ ⟨ym, true⟩)
            unfold mat1
            simp only [Int.toNat_natCast]
            rw [HMD.out]
            exact hh
          case measure => simp [intOf]; omega
        · have hqe : q = bs.length := by omega
          have hst4 : Hid (MSt w wr k a bs.length cap (pivS k bs 0)) := hidE (by
            have := hst.out
            rw [hqe, List.take_length] at this
            exact this)
          clear hst hqe
          obtain ⟨wB, rfl⟩ : ∃ x : World, x = wr := ⟨wr, rfl⟩
          go_wp2_with fail
          clear e0 e1
          go_loopw [7] (fun i wr => ∃ c : Nat, c ≤ k ∧ i = .int .i64 c ∧ Hid (MSt w wr k a bs.length cap (pivS k bs c))) (fun i _ => k - (intOf i).toNat)
          case atStart => exact ⟨0, by omega, rfl, hst4⟩
          case round =>
            obtain ⟨c, hc, rfl, hst⟩ := hrel
            have e0 : wr.cell? ⟨w.heap.size, 0, none⟩ = some (.int .i64 (k : Int)) := by rw [cell_of_row _ _ _ _ _ _ hst.out.box]; rfl
            by_cases hlc : c < k
            · obtain ⟨wC, rfl⟩ : ∃ x : World, x = wr := ⟨wr, rfl⟩
              have cI := iR0 c hlc
              go_wp2_with fail
              clear e0
              go_loopw [8] (fun i wr => ∃ a1 : Nat, a1 ≤ k ∧ i = .int .i64 a1 ∧ Hid (MSt w wr k a bs.length cap ((List.range a1).foldl (rowM k c) (pivS k bs c)))) (fun i _ => k - (intOf i).toNat)
              case atStart => exact ⟨0, by omega, rfl, hst⟩
              case round =>
                obtain ⟨a1, ha, rfl, hst1⟩ := hrel
                have e0 : wr.cell? ⟨w.heap.size, 0, none⟩ = some (.int .i64 (k : Int)) := by rw [cell_of_row _ _ _ _ _ _ hst1.out.box]; rfl
                by_cases hla : a1 < k
                · obtain ⟨wD, rfl⟩ : ∃ x : World, x = wr := ⟨wr, rfl⟩
                  have aI := iR0 a1 hla
                  go_wp2_with fail
                  clear e0
                  go_loopw [9] (fun i wr => ∃ b : Nat, b ≤ k ∧ i = .int .i64 b ∧ Hid (MSt w wr k a bs.length cap ((List.range b).foldl (cellM c a1) ((List.range a1).foldl (rowM k c) (pivS k bs c))))) (fun i _ => k - (intOf i).toNat)
                  case atStart => exact ⟨0, by omega, rfl, hst1⟩
                  case round =>
                    obtain ⟨b, hb, rfl, hst2⟩ := hrel
                    have e0 : wr.cell? ⟨w.heap.size, 0, none⟩ = some (.int .i64 (k : Int)) := by rw [cell_of_row _ _ _ _ _ _ hst2.out.box]; rfl
                    by_cases hlb : b < k
                    · have bI := iR0 b hlb
                      obtain ⟨d, hdd⟩ : ∃ d, (List.range b).foldl (cellM c a1) ((List.range a1).foldl (rowM k c) (pivS k bs c)) = d := ⟨_, rfl⟩
                      have hrd := (piv_read HV.out HN.out hR1 hlc hla hlb hdd).2
                      rw [hdd] at hst2
                      have HD := hidE hdd
                      clear hdd
                      obtain ⟨acs, hacs⟩ : ∃ v, (mget d a1 c).s = v := ⟨_, rfl⟩
                      obtain ⟨aco, haco⟩ : ∃ v, (mget d a1 c).ok = v := ⟨_, rfl⟩
                      obtain ⟨cbs, hcbs⟩ : ∃ v, (mget d c b).s = v := ⟨_, rfl⟩
                      obtain ⟨cbo, hcbo⟩ : ∃ v, (mget d c b).ok = v := ⟨_, rfl⟩
                      obtain ⟨abs, habs⟩ : ∃ v, (mget d a1 b).s = v := ⟨_, rfl⟩
                      obtain ⟨abo, habo⟩ : ∃ v, (mget d a1 b).ok = v := ⟨_, rfl⟩
                      have p0 := hst2.out.mat.slot hla
                      have p1 := hst2.out.mat.slot hlc
                      obtain ⟨p2, p3, _⟩ := hst2.out.mat.cells hst2.out.dim hla hlb
                      obtain ⟨p4, p5, _⟩ := hst2.out.mat.cells hst2.out.dim hla hlc
                      obtain ⟨p6, p7, _⟩ := hst2.out.mat.cells hst2.out.dim hlc hlb
                      have r1 := hrd a1 c hla hlc
                      have r2 := hrd c b hlc hlb
                      rw [habs] at p2
                      rw [habo] at p3
                      rw [hacs] at p4 r1
                      rw [haco] at p5
                      rw [hcbs] at p6 r2
                      rw [hcbo] at p7
                      have l3 : w.heap.size + 1 < wr.heap.size := lt_of_block hst2.out.mat.out
                      have l4 : w.heap.size + 1 + 1 + a1 < wr.heap.size := lt_of_block (hst2.out.mat.row a1 hla)
                      have l5 : w.heap.size + 1 + 1 + c < wr.heap.size := lt_of_block (hst2.out.mat.row c hlc)
                      have hdone : ∀ b' : List (List Fr), (List.range (b + 1)).foldl (cellM c a1) b' = cellM c a1 ((List.range b).foldl (cellM c a1) b') b := fun b' => by rw [List.range_succ, List.foldl_append]; rfl
                      have HDONE := hidE hdone
                      clear hrd hdone
                      cases aco with
                      | false =>
                        have hskip : cellM c a1 d b = d := by unfold cellM; rw [if_neg (by simp [haco])]
                        have HSK := hidE hskip
                        clear hskip hacs haco hcbs hcbo habs habo p2 p3 p6 p7
                        go_wp2_with fail
                        go_roundw
                        case rel => exact ⟨b + 1, by omega, by go_num, hidE (by rw [HDONE.out, HD.out, HSK.out]; exact hst2.out)⟩
                        case measure => simp [intOf]; omega
                      | true =>
                        cases cbo with
                        | false =>
                          have hskip : cellM c a1 d b = d := by unfold cellM; rw [if_neg (by simp [hcbo])]
                          have HSK := hidE hskip
                          clear hskip hacs haco hcbs hcbo habs habo p2 p3
                          go_wp2_with fail
                          go_roundw
                          case rel => exact ⟨b + 1, by omega, by go_num, hidE (by rw [HDONE.out, HD.out, HSK.out]; exact hst2.out)⟩
                          case measure => simp [intOf]; omega
                        | true =>
                          have hmab : mget d a1 b = ⟨abs, abo⟩ := by rw [← habs, ← habo]
                          have hmac : mget d a1 c = ⟨acs, true⟩ := by rw [← hacs, ← haco]
                          have htake : cellM c a1 d b = mset d a1 b (lesserP ⟨abs, abo⟩ ⟨acs + cbs, true⟩) := by
                            unfold cellM
                            rw [if_pos ⟨haco, hcbo⟩, hmab, hmac, hcbs]
                            rfl
                          have HTK := hidE htake
                          clear htake hmab hmac hacs haco hcbs hcbo habs habo
                          obtain ⟨wE, rfl⟩ : ∃ x : World, x = wr := ⟨wr, rfl⟩
                          go_upto_region 22 with fail
                          have iR : a1 < k := hla
                          have jR : b < k := hlb
                          have cR : c < k := hlc
                          have iI := aI
                          have jI := bI
                          clear e0 p7
                          refine wp_region_F (S := fun V => V.cell? ⟨w.heap.size + 1, a1, none⟩ = some (.slice (some ⟨w.heap.size + 1 + 1 + a1, 0, none⟩) k k) ∧ V.cell? ⟨w.heap.size + 1, c, none⟩ = some (.slice (some ⟨w.heap.size + 1 + 1 + c, 0, none⟩) k k) ∧ V.cell? ⟨w.heap.size + 1 + 1 + a1, b * 2, none⟩ = some (.int .i64 abs) ∧ V.cell? ⟨w.heap.size + 1 + 1 + a1, b * 2 + 1, none⟩ = some (.bool abo) ∧ V.cell? ⟨w.heap.size + 1 + 1 + a1, c * 2, none⟩ = some (.int .i64 acs) ∧ V.cell? ⟨w.heap.size + 1 + 1 + a1, c * 2 + 1, none⟩ = some (.bool true) ∧ V.cell? ⟨w.heap.size + 1 + 1 + c, b * 2, none⟩ = some (.int .i64 cbs)) (last := 30) (by kernel_rfl) ?_
                          have hS0 : wE.drew.cell? ⟨w.heap.size + 1, a1, none⟩ = some (.slice (some ⟨w.heap.size + 1 + 1 + a1, 0, none⟩) k k) ∧ wE.drew.cell? ⟨w.heap.size + 1, c, none⟩ = some (.slice (some ⟨w.heap.size + 1 + 1 + c, 0, none⟩) k k) ∧ wE.drew.cell? ⟨w.heap.size + 1 + 1 + a1, b * 2, none⟩ = some (.int .i64 abs) ∧ wE.drew.cell? ⟨w.heap.size + 1 + 1 + a1, b * 2 + 1, none⟩ = some (.bool abo) ∧ wE.drew.cell? ⟨w.heap.size + 1 + 1 + a1, c * 2, none⟩ = some (.int .i64 acs) ∧ wE.drew.cell? ⟨w.heap.size + 1 + 1 + a1, c * 2 + 1, none⟩ = some (.bool true) ∧ wE.drew.cell? ⟨w.heap.size + 1 + 1 + c, b * 2, none⟩ = some (.int .i64 cbs) := ⟨p0, p1, p2, p3, p4, p5, p6⟩
                          refine wpAnyF_take (i := 0) (v := (.slice (some ⟨w.heap.size + 1, 0, none⟩) k k)) (by kernel_rfl) (by decide) rfl (by kernel_rfl) (by kernel_rfl) (by kernel_rfl) (fun _ _ _ h => h) (.inl ⟨rfl, fun V hV => ?_⟩) hS0 ?_
                          · obtain ⟨z0, z1, z2, z3, z4, z5, z6⟩ := hV
                            simp [go_sem, execOp]
                          simp only [Act.put, List.setIfInBounds_toArray]
                          refine wpAnyF_take (i := 1) (v := (.int .i64 (a1 : Int))) (by kernel_rfl) (by decide) rfl (by kernel_rfl) (by kernel_rfl) (by kernel_rfl) (fun _ _ _ h => h) (.inl ⟨rfl, fun V hV => ?_⟩) hS0 ?_
                          · obtain ⟨z0, z1, z2, z3, z4, z5, z6⟩ := hV
                            simp [go_sem, execOp]
                          simp only [Act.put]
                          refine wpAnyF_take (i := 2) (v := (.pointer (some ⟨w.heap.size + 1, a1, none⟩))) (by kernel_rfl) (by decide) rfl (by kernel_rfl) (by kernel_rfl) (by kernel_rfl) (fun _ _ _ h => h) (.inl ⟨rfl, fun V hV => ?_⟩) hS0 ?_
                          · obtain ⟨z0, z1, z2, z3, z4, z5, z6⟩ := hV
                            simp [go_sem, execOp, iI]
                          simp only [Act.put]
                          refine wpAnyF_take (i := 3) (v := (.slice (some ⟨w.heap.size + 1 + 1 + a1, 0, none⟩) k k)) (by kernel_rfl) (by decide) rfl (by kernel_rfl) (by kernel_rfl) (by kernel_rfl) (fun _ _ _ h => h) (.inl ⟨rfl, fun V hV => ?_⟩) hS0 ?_
                          · obtain ⟨z0, z1, z2, z3, z4, z5, z6⟩ := hV
                            simp [go_sem, execOp, z0]
                          simp only [Act.put]
                          refine wpAnyF_take (i := 4) (v := (.int .i64 (b : Int))) (by kernel_rfl) (by decide) rfl (by kernel_rfl) (by kernel_rfl) (by kernel_rfl) (fun _ _ _ h => h) (.inl ⟨rfl, fun V hV => ?_⟩) hS0 ?_
                          · obtain ⟨z0, z1, z2, z3, z4, z5, z6⟩ := hV
                            simp [go_sem, execOp]
                          simp only [Act.put]
                          refine wpAnyF_take (i := 5) (v := (.slice (some ⟨w.heap.size + 1, 0, none⟩) k k)) (by kernel_rfl) (by decide) rfl (by kernel_rfl) (by kernel_rfl) (by kernel_rfl) (fun _ _ _ h => h) (.inl ⟨rfl, fun V hV => ?_⟩) hS0 ?_
                          · obtain ⟨z0, z1, z2, z3, z4, z5, z6⟩ := hV
                            simp [go_sem, execOp]
                          simp only [Act.put]
                          refine wpAnyF_take (i := 6) (v := (.int .i64 (a1 : Int))) (by kernel_rfl) (by decide) rfl (by kernel_rfl) (by kernel_rfl) (by kernel_rfl) (fun _ _ _ h => h) (.inl ⟨rfl, fun V hV => ?_⟩) hS0 ?_
                          · obtain ⟨z0, z1, z2, z3, z4, z5, z6⟩ := hV
                            simp [go_sem, execOp]
                          simp only [Act.put]
                          refine wpAnyF_take (i := 7) (v := (.pointer (some ⟨w.heap.size + 1, a1, none⟩))) (by kernel_rfl) (by decide) rfl (by kernel_rfl) (by kernel_rfl) (by kernel_rfl) (fun _ _ _ h => h) (.inl ⟨rfl, fun V hV => ?_⟩) hS0 ?_
                          · obtain ⟨z0, z1, z2, z3, z4, z5, z6⟩ := hV
                            simp [go_sem, execOp, iI]
                          simp only [Act.put]
                          refine wpAnyF_take (i := 8) (v := (.slice (some ⟨w.heap.size + 1 + 1 + a1, 0, none⟩) k k)) (by kernel_rfl) (by decide) rfl (by kernel_rfl) (by kernel_rfl) (by kernel_rfl) (fun _ _ _ h => h) (.inl ⟨rfl, fun V hV => ?_⟩) hS0 ?_
                          · obtain ⟨z0, z1, z2, z3, z4, z5, z6⟩ := hV
                            simp [go_sem, execOp, z0]
                          simp only [Act.put]
                          refine wpAnyF_take (i := 9) (v := (.int .i64 (b : Int))) (by kernel_rfl) (by decide) rfl (by kernel_rfl) (by kernel_rfl) (by kernel_rfl) (fun _ _ _ h => h) (.inl ⟨rfl, fun V hV => ?_⟩) hS0 ?_
                          · obtain ⟨z0, z1, z2, z3, z4, z5, z6⟩ := hV
                            simp [go_sem, execOp]
                          simp only [Act.put]
                          refine wpAnyF_take (i := 10) (v := (.pointer (some ⟨w.heap.size + 1 + 1 + a1, b * 2, none⟩))) (by kernel_rfl) (by decide) rfl (by kernel_rfl) (by kernel_rfl) (by kernel_rfl) (fun _ _ _ h => h) (.inl ⟨rfl, fun V hV => ?_⟩) hS0 ?_
                          · obtain ⟨z0, z1, z2, z3, z4, z5, z6⟩ := hV
                            simp [go_sem, execOp, jI]
                          simp only [Act.put]
                          refine wpAnyF_take (i := 11) (v := (.agg #[.int .i64 abs, .bool abo])) (by kernel_rfl) (by decide) rfl (by kernel_rfl) (by kernel_rfl) (by kernel_rfl) (fun _ _ _ h => h) (.inl ⟨rfl, fun V hV => ?_⟩) hS0 ?_
                          · obtain ⟨z0, z1, z2, z3, z4, z5, z6⟩ := hV
                            simp [go_sem, execOp, z2, z3]
                          simp only [Act.put]
                          refine wpAnyF_take (i := 12) (v := (.slice (some ⟨w.heap.size + 1, 0, none⟩) k k)) (by kernel_rfl) (by decide) rfl (by kernel_rfl) (by kernel_rfl) (by kernel_rfl) (fun _ _ _ h => h) (.inl ⟨rfl, fun V hV => ?_⟩) hS0 ?_
                          · obtain ⟨z0, z1, z2, z3, z4, z5, z6⟩ := hV
                            simp [go_sem, execOp]
                          simp only [Act.put]
                          refine wpAnyF_take (i := 13) (v := (.int .i64 (a1 : Int))) (by kernel_rfl) (by decide) rfl (by kernel_rfl) (by kernel_rfl) (by kernel_rfl) (fun _ _ _ h => h) (.inl ⟨rfl, fun V hV => ?_⟩) hS0 ?_
                          · obtain ⟨z0, z1, z2, z3, z4, z5, z6⟩ := hV
                            simp [go_sem, execOp]
                          simp only [Act.put]
                          refine wpAnyF_take (i := 14) (v := (.pointer (some ⟨w.heap.size + 1, a1, none⟩))) (by kernel_rfl) (by decide) rfl (by kernel_rfl) (by kernel_rfl) (by kernel_rfl) (fun _ _ _ h => h) (.inl ⟨rfl, fun V hV => ?_⟩) hS0 ?_
                          · obtain ⟨z0, z1, z2, z3, z4, z5, z6⟩ := hV
                            simp [go_sem, execOp, iI]
                          simp only [Act.put]
                          refine wpAnyF_take (i := 15) (v := (.slice (some ⟨w.heap.size + 1 + 1 + a1, 0, none⟩) k k)) (by kernel_rfl) (by decide) rfl (by kernel_rfl) (by kernel_rfl) (by kernel_rfl) (fun _ _ _ h => h) (.inl ⟨rfl, fun V hV => ?_⟩) hS0 ?_
                          · obtain ⟨z0, z1, z2, z3, z4, z5, z6⟩ := hV
                            simp [go_sem, execOp, z0]
                          simp only [Act.put]
                          refine wpAnyF_take (i := 16) (v := (.int .i64 (c : Int))) (by kernel_rfl) (by decide) rfl (by kernel_rfl) (by kernel_rfl) (by kernel_rfl) (fun _ _ _ h => h) (.inl ⟨rfl, fun V hV => ?_⟩) hS0 ?_
                          · obtain ⟨z0, z1, z2, z3, z4, z5, z6⟩ := hV
                            simp [go_sem, execOp]
                          simp only [Act.put]
                          refine wpAnyF_take (i := 17) (v := (.pointer (some ⟨w.heap.size + 1 + 1 + a1, c * 2, none⟩))) (by kernel_rfl) (by decide) rfl (by kernel_rfl) (by kernel_rfl) (by kernel_rfl) (fun _ _ _ h => h) (.inl ⟨rfl, fun V hV => ?_⟩) hS0 ?_
                          · obtain ⟨z0, z1, z2, z3, z4, z5, z6⟩ := hV
                            simp [go_sem, execOp, cI]
                          simp only [Act.put]
                          refine wpAnyF_take (i := 18) (v := (.agg #[.int .i64 acs, .bool true])) (by kernel_rfl) (by decide) rfl (by kernel_rfl) (by kernel_rfl) (by kernel_rfl) (fun _ _ _ h => h) (.inl ⟨rfl, fun V hV => ?_⟩) hS0 ?_
                          · obtain ⟨z0, z1, z2, z3, z4, z5, z6⟩ := hV
                            simp [go_sem, execOp, z4, z5]
                          simp only [Act.put]
                          refine wpAnyF_take (i := 19) (v := (.slice (some ⟨w.heap.size + 1, 0, none⟩) k k)) (by kernel_rfl) (by decide) rfl (by kernel_rfl) (by kernel_rfl) (by kernel_rfl) (fun _ _ _ h => h) (.inl ⟨rfl, fun V hV => ?_⟩) hS0 ?_
                          · obtain ⟨z0, z1, z2, z3, z4, z5, z6⟩ := hV
                            simp [go_sem, execOp]
                          simp only [Act.put]
                          refine wpAnyF_take (i := 20) (v := (.int .i64 (c : Int))) (by kernel_rfl) (by decide) rfl (by kernel_rfl) (by kernel_rfl) (by kernel_rfl) (fun _ _ _ h => h) (.inl ⟨rfl, fun V hV => ?_⟩) hS0 ?_
                          · obtain ⟨z0, z1, z2, z3, z4, z5, z6⟩ := hV
                            simp [go_sem, execOp]
                          simp only [Act.put]
                          refine wpAnyF_take (i := 21) (v := (.pointer (some ⟨w.heap.size + 1, c, none⟩))) (by kernel_rfl) (by decide) rfl (by kernel_rfl) (by kernel_rfl) (by kernel_rfl) (fun _ _ _ h => h) (.inl ⟨rfl, fun V hV => ?_⟩) hS0 ?_
                          · obtain ⟨z0, z1, z2, z3, z4, z5, z6⟩ := hV
                            simp [go_sem, execOp, cI]
                          simp only [Act.put]
                          refine wpAnyF_take (i := 22) (v := (.slice (some ⟨w.heap.size + 1 + 1 + c, 0, none⟩) k k)) (by kernel_rfl) (by decide) rfl (by kernel_rfl) (by kernel_rfl) (by kernel_rfl) (fun _ _ _ h => h) (.inl ⟨rfl, fun V hV => ?_⟩) hS0 ?_
                          · obtain ⟨z0, z1, z2, z3, z4, z5, z6⟩ := hV
                            simp [go_sem, execOp, z1]
                          simp only [Act.put]
                          refine wpAnyF_take (i := 23) (v := (.int .i64 (b : Int))) (by kernel_rfl) (by decide) rfl (by kernel_rfl) (by kernel_rfl) (by kernel_rfl) (fun _ _ _ h => h) (.inl ⟨rfl, fun V hV => ?_⟩) hS0 ?_
                          · obtain ⟨z0, z1, z2, z3, z4, z5, z6⟩ := hV
                            simp [go_sem, execOp]
                          simp only [Act.put]
                          refine wpAnyF_take (i := 24) (v := (.pointer (some ⟨w.heap.size + 1 + 1 + c, b * 2, none⟩))) (by kernel_rfl) (by decide) rfl (by kernel_rfl) (by kernel_rfl) (by kernel_rfl) (fun _ _ _ h => h) (.inl ⟨rfl, fun V hV => ?_⟩) hS0 ?_
                          · obtain ⟨z0, z1, z2, z3, z4, z5, z6⟩ := hV
                            simp [go_sem, execOp, jI]
                          simp only [Act.put]
                          refine wpAnyF_take (i := 25) (v := (.pointer (some ⟨w.heap.size + 1 + 1 + c, b * 2, none⟩))) (by kernel_rfl) (by decide) rfl (by kernel_rfl) (by kernel_rfl) (by kernel_rfl) (fun _ _ _ h => h) (.inl ⟨rfl, fun V hV => ?_⟩) hS0 ?_
                          · obtain ⟨z0, z1, z2, z3, z4, z5, z6⟩ := hV
                            simp [go_sem, execOp]
                          simp only [Act.put]
                          refine wpAnyF_take (i := 26) (v := (.int .i64 cbs)) (by kernel_rfl) (by decide) rfl (by kernel_rfl) (by kernel_rfl) (by kernel_rfl) (fun _ _ _ h => h) (.inl ⟨rfl, fun V hV => ?_⟩) hS0 ?_
                          · obtain ⟨z0, z1, z2, z3, z4, z5, z6⟩ := hV
                            simp [go_sem, execOp, z6]
                          simp only [Act.put]
                          refine wpAnyF_step 27 rfl (by kernel_rfl) (fun K hK => ?_)
                          go_simp
                          go_at_call 60
                          refine (plus_at _ _ _ _ (by omega) (by omega) (by omega) (by omega)).mono ?_
                          rintro e w3 ⟨rfl, hb3⟩
                          go_wp2_with fail
                          have k0 := (hb3.cell (p := ⟨w.heap.size + 1, a1, none⟩) l3).trans p0
                          have k1 := (hb3.cell (p := ⟨w.heap.size + 1, c, none⟩) l3).trans p1
                          have k2 := (hb3.cell (p := ⟨w.heap.size + 1 + 1 + a1, b * 2, none⟩) l4).trans p2
                          have k3 := (hb3.cell (p := ⟨w.heap.size + 1 + 1 + a1, b * 2 + 1, none⟩) l4).trans p3
                          have k4 := (hb3.cell (p := ⟨w.heap.size + 1 + 1 + a1, c * 2, none⟩) l4).trans p4
                          have k5 := (hb3.cell (p := ⟨w.heap.size + 1 + 1 + a1, c * 2 + 1, none⟩) l4).trans p5
                          have k6 := (hb3.cell (p := ⟨w.heap.size + 1 + 1 + c, b * 2, none⟩) l5).trans p6
                          have HST3 := hidE (hst2.out.grow (W' := w3) (below_of_drew hb3))
                          have l3 : w.heap.size + 1 < w3.heap.size := lt_of_block HST3.out.mat.out
                          have l4 : w.heap.size + 1 + 1 + a1 < w3.heap.size := lt_of_block (HST3.out.mat.row a1 hla)
                          have l5 : w.heap.size + 1 + 1 + c < w3.heap.size := lt_of_block (HST3.out.mat.row c hlc)
                          clear hb3 p0 p1 p2 p3 p4 p5 p6
                          refine hK.out _ _ (.inr ⟨k0, k1, k2, k3, k4, k5, k6⟩) ?_
                          clear hK K
                          try simp only [Act.put, List.setIfInBounds_toArray, List.set_cons_succ, List.set_cons_zero]
                          refine wpAnyF_step 28 rfl (by kernel_rfl) (fun K hK => ?_)
                          go_simp
                          go_at_call 59
                          refine (lesser_at _ _ _ _ _).mono ?_
                          rintro e w4 ⟨rfl, hb4⟩
                          go_wp2_with fail
                          have n0 := (hb4.cell (p := ⟨w.heap.size + 1, a1, none⟩) l3).trans k0
                          have n1 := (hb4.cell (p := ⟨w.heap.size + 1, c, none⟩) l3).trans k1
                          have n2 := (hb4.cell (p := ⟨w.heap.size + 1 + 1 + a1, b * 2, none⟩) l4).trans k2
                          have n3 := (hb4.cell (p := ⟨w.heap.size + 1 + 1 + a1, b * 2 + 1, none⟩) l4).trans k3
                          have n4 := (hb4.cell (p := ⟨w.heap.size + 1 + 1 + a1, c * 2, none⟩) l4).trans k4
                          have n5 := (hb4.cell (p := ⟨w.heap.size + 1 + 1 + a1, c * 2 + 1, none⟩) l4).trans k5
                          have n6 := (hb4.cell (p := ⟨w.heap.size + 1 + 1 + c, b * 2, none⟩) l5).trans k6
                          have HST4 := hidE (HST3.out.grow (W' := w4) hb4)
                          have n7 := (HST4.out.mat.cells HST4.out.dim hla hlb).2.2
                          clear hb4 k0 k1 k2 k3 k4 k5 k6
                          refine hK.out _ _ (.inr ⟨n0, n1, n2, n3, n4, n5, n6⟩) ?_
                          clear hK K
                          try simp only [Act.put, List.setIfInBounds_toArray, List.set_cons_succ, List.set_cons_zero]
                          refine wpAnyF_step 29 rfl (by kernel_rfl) (fun K hK => ?_)
                          go_simp
                          refine hK.out _ _ (.inr ⟨n0, n1, n2, n3, n4, n5, n6⟩) ?_
                          clear hK K
                          try simp only [Act.put, List.setIfInBounds_toArray, List.set_cons_succ, List.set_cons_zero]
                          refine wpAnyF_step 30 rfl (by kernel_rfl) (fun K hK => ?_)
                          go_simp
                          refine hK.out _ _ (.inl rfl) ?_
                          clear hK K
                          refine wpAnyF_done (by kernel_rfl) ?_ _
                          go_wp2_with fail
                          go_roundw
                          case rel =>
                            refine ⟨b + 1, by omega, by go_num, hidE ?_⟩
                            rw [HDONE.out, HD.out, HTK.out]
                            exact HST4.out.set hla hlb _
                          case measure => simp [intOf]; omega
                    · obtain rfl : b = k := by omega
                      go_wp2_with fail
                      go_roundw
                      case rel => exact ⟨a1 + 1, by omega, by go_num, hidE (by rw [List.range_succ, List.foldl_append]; exact hst2.out)⟩
                      case measure => simp [intOf]; omega
                · obtain rfl : a1 = k := by omega
                  go_wp2_with fail
                  go_roundw
                  case rel => exact ⟨c + 1, by omega, by go_num, hidE (by rw [pivS_succ]; exact hst1.out)⟩
                  case measure => simp [intOf]; omega
            · obtain rfl : c = k := by omega
              have HF := hst
              go_wp2_with fail
              go_ret
              exact ⟨rfl, HF.out.mat, HF.out.bl⟩

end Go.Proofs.YthcmjhellpjllaaGreat
