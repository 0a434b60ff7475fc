/- Merged text 6 of the base: X5, PlH, Wn2, Wq2, X6, Fa, Fc, Oa. No conditions beyond those stated. -/
import Derived.Test.YtkhemfnlflbniaaGreatDoorB05
import Derived.Deep.CutBlock
import Derived.Test.YtkhemfnlflbniaaGreatDoorB04
import Derived.Test.YtkhemfnlflbniaaGreatDoorB03
import Derived.Lib.OwnBridge
import Derived.Deep.LoopGhost
import Derived.Test.YtkhemfnlflbniaaGreatDoorB02
import Derived.Maps.AppendAt
namespace Go.Proofs.YtkhemfnlflbniaaGreatDoor
open Go Go.RowKit Go.Shelf
structure CSt (w1 W : World) (bg : Nat) (on : List Bool) : Prop where
 on : W.heap[bg]? = some (.cells (boolA on) 4 (0,0))
 bl : Below bg w1 W
theorem circle_not (w : World) (N : Int) (a : Option Addr) (cap : Nat) (bs : List Bd) (hN : i64ok N) (hl : bs.length ≤ 9223372036854775807) (h : BoundsAt w a bs) (hno : ¬ (checkP N bs = 0 ∧ openedP N bs = none)) :
 Calls Tryz.prog 86 #[.agg #[.int .i64 N, .slice a bs.length cap]] w fun e w' => ThroughPost (circleP N bs).1 (circleP N bs).2.1 (circleP N bs).2.2 w.heap.size e w' ∧ Below w.heap.size w w' := by
 have hB0 : Below w.heap.size w (w.alloc (.cells #[.int .i64 N, .slice a bs.length cap] 61)) := (Below.refl _ _).alloc (Nat.le_refl _) _
 have hco := consistent_any (w.alloc (.cells #[.int .i64 N, .slice a bs.length cap] 61)) N a cap bs hN hl (h.alloc _)
 have hcp : circleP N bs = ([], false, checkP N bs) := by
  unfold circleP
  by_cases hc : checkP N bs = 0
  ·rw [if_neg (by simp [hc]), if_pos, hc]
   cases ho : openedP N bs with
   | none => exact absurd ⟨hc, ho⟩ hno
   | some t => rfl
  ·rw [if_pos hc]
 by_cases hc : checkP N bs = 0
 ·have hce : consistentE N bs = (true, 0) := by
   unfold consistentE
   rw [if_pos hc]
   cases ho : openedP N bs with
   | none => exact absurd ⟨hc, ho⟩ hno
   | some t => rfl
  rw [hce] at hco
  rw [hc] at hcp
  have HCO := hidE hco
  have HCP := hidE hcp
  clear hco hce hcp hc h hN hno
  go_enter Tryz.func86, Tryz.ntmps86
  go_wp2_with fail
  refine HCO.out.mono ?_
  rintro e w1 ⟨rfl, hb1⟩
  go_wp2_with fail
  go_ret3
  refine ⟨?_, hB0.trans (hb1.mono hB0.size)⟩
  rw [HCP.out]
  exact ⟨_, rfl, World.ownsRow_nil _ _ _ _⟩
 ·have hce : consistentE N bs = (false, checkP N bs) := by
   unfold consistentE
   rw [if_neg hc]
  rw [hce] at hco
  obtain ⟨c, hcc⟩ : ∃ c, checkP N bs = c := ⟨_, rfl⟩
  rw [hcc] at hco hcp hc
  have hc2 : (c != 0) = true := by simpa using hc
  have HCO := hidE hco
  have HCP := hidE hcp
  clear hco hce hcp hc h hN hno hcc
  go_enter Tryz.func86, Tryz.ntmps86
  go_wp2_with fail
  refine HCO.out.mono ?_
  rintro e w1 ⟨rfl, hb1⟩
  go_wp2_with fail
  go_ret3
  refine ⟨?_, hB0.trans (hb1.mono hB0.size)⟩
  rw [HCP.out]
  exact ⟨_, rfl, World.ownsRow_nil _ _ _ _⟩
theorem followGo_len {bs : List Bd} {ks : List Nat} {gd : Int → Int → Int → Bool} : ∀ (many : Nat) (at_ sum : Int) (acc r : List Int), followGo bs ks gd many at_ sum acc = some r → r.length = acc.length + many
 | 0, _, _, acc, r, h => by simp only [followGo, Option.some.injEq] at h; rw [← h]; rfl
 | k + 1, at_, sum, acc, r, h => by
   simp only [followGo] at h
   split at h
   ·simp at h
   ·have := followGo_len k _ _ _ r h
    rw [this, List.length_append, List.length_singleton]; omega
theorem followedP_len (bs : List Bd) (ks : List Nat) (gd : Int → Int → Int → Bool) (from_ : Int) (many : Nat) : (followedP bs ks gd from_ many).length ≤ many := by
 unfold followedP
 cases h : followGo bs ks gd many from_ 0 [] with
 | none => simp
 | some r => have := followGo_len _ _ _ _ _ h; simp at this; simp [this]
theorem circleP_none {R : Nat} {bs : List Bd} (hc : checkP R bs = 0) (ho : openedP R bs = none) (h : ∀ i, i < bs.length → circHit bs (circS bs R R) i = false) : circleP R bs = ([], false, 0) := by
 unfold circleP circleGo
 rw [if_neg (by simp [hc]), ho, if_neg (by simp), Int.toNat_natCast, find_range_none h]
theorem circleP_hit {R : Nat} {bs : List Bd} (hc : checkP R bs = 0) (ho : openedP R bs = none) {i : Nat} (hi : i < bs.length) (h : ∀ k, k < i → circHit bs (circS bs R R) k = false) (hp : circHit bs (circS bs R R) i = true) : circleP R bs = ((i : Int) :: circRest bs (circS bs R R).1 i, true, 0) := by
 unfold circleP circleGo
 rw [if_neg (by simp [hc]), ho, if_neg (by simp), Int.toNat_natCast, find_range_some hi h hp]
set_option maxRecDepth 100000 in
set_option maxHeartbeats 4000000 in
theorem circle_main (w : World) (R : Nat) (a : Option Addr) (cap : Nat) (bs : List Bd) (hc : checkP R bs = 0) (ho : openedP R bs = none) (h : BoundsAt w a bs) :
 Calls Tryz.prog 86 #[.agg #[.int .i64 (R : Int), .slice a bs.length cap]] w fun e w' => ThroughPost (circleP R bs).1 (circleP R bs).2.1 (circleP R bs).2.2 w.heap.size e w' ∧ Below w.heap.size w w' := by
 have hB0 : Below w.heap.size w (w.alloc (.cells #[.int .i64 (R : Int), .slice a bs.length cap] 61)) := (Below.refl _ _).alloc (Nat.le_refl _) _
 obtain ⟨R', e, r0, r1, hlen, hv⟩ := allValid_of hc
 obtain rfl : R = R' := by omega
 have hco := consistent_any (w.alloc (.cells #[.int .i64 (R : Int), .slice a bs.length cap] 61)) R a cap bs (by unfold i64ok; omega) (by omega) (h.alloc _)
 have hce : consistentE R bs = (false, 0) := by unfold consistentE; rw [if_pos hc, ho]; rfl
 rw [hce] at hco
 have H := hidE h
 have HV := hidE hv
 have HCO := hidE hco
 have HC := hidE hc
 have HO := hidE ho
 clear h hv hco hce hc ho e
 have hmk4 := fun W => run_make_row' (P := Tryz.prog) 184 4 (.bool false) 1 Tryz.underlying184 Tryz.info4' rfl .i64 .i64 R (by omega) (by omega) W
 have i94 : Hid ((Tryz.prog.info? 189).map (·.size) = some 128) := hidE (by kernel_rfl)
 go_enter Tryz.func86, Tryz.ntmps86
 go_wp2_with fail
 refine HCO.out.mono ?_
 rintro e w1 ⟨rfl, hb1⟩
 have hbx := blk_below hb1 (by simp) (heap_alloc_new w (.cells #[.int .i64 (R : Int), .slice a bs.length cap] 61))
 have e0 : w1.cell? ⟨w.heap.size, 0, none⟩ = some (.int .i64 (R : Int)) := c_e hbx rfl
 have e1 : w1.cell? ⟨w.heap.size, 1, none⟩ = some (.slice a bs.length cap) := c_e hbx rfl
 have lbx := lt_of_block hbx
 have B1 := hB0.trans (hb1.mono hB0.size)
 have HBX := hidE hbx
 have HB1 := hidE B1
 clear hbx hb1 B1 hB0
 go_wp2_with fail
 have lbx1 : w.heap.size < w1.heap.size + 1 := by omega
 obtain ⟨W0, hW0⟩ : ∃ W0, W0 = w1.alloc (.cells (madeCells #[.bool false] R) 4) := ⟨_, rfl⟩
 rw [← hW0]
 have st0 : CSt w1 W0 w1.heap.size (circS bs R 0).2 := ⟨by rw [hW0, heap_alloc_new, madeBools]; rfl, by rw [hW0]; exact (Below.refl _ _).alloc (Nat.le_refl _) _⟩
 have ST0 := hidE st0
 clear st0 hW0 hmk4 e0 e1
 go_loopw [7, 37] (fun m t wr => ∃ k : Nat, k ≤ R ∧ t = .int .i64 k ∧ m = .int .i64 ((circS bs R k).1 : Int) ∧ Hid (CSt w1 wr w1.heap.size (circS bs R k).2)) (fun _ t _ => R - (intOf t).toNat)
 case atStart => exact ⟨0, Nat.zero_le _, rfl, by simp [circS], ST0⟩
 case round =>
  obtain ⟨k, hk, rfl, rfl, hst⟩ := hrel
  have bw : Below w.heap.size w wr := HB1.out.trans (hst.out.bl.mono HB1.out.size)
  have q1 := (hst.out.bl.block w.heap.size lbx).trans HBX.out
  have c0 : wr.cell? ⟨w.heap.size, 0, none⟩ = some (.int .i64 (R : Int)) := c_e q1 rfl
  have c1 : wr.cell? ⟨w.heap.size, 1, none⟩ = some (.slice a bs.length cap) := c_e q1 rfl
  have lgb := lt_of_block hst.out.on
  have lbr := lt_of_block q1
  obtain ⟨b1, b2, b3⟩ := circS_bd bs R k hk r1
  by_cases hlt : k < R
  ·have hsucc := circS_succ bs R k
   obtain ⟨st, hs⟩ : ∃ st, circS bs R k = st := ⟨_, rfl⟩
   rw [hs] at hst b1 b2 b3 hsucc ⊢
   obtain ⟨mn, on⟩ := st
   simp only at hst b1 b2 b3 ⊢
   obtain ⟨mx, hmx⟩ : ∃ mx, min mn R = mx := ⟨_, rfl⟩
   have hmi : min (mn : Int) (R : Int) = (mx : Int) := by omega
   have hw := walks_any wr R R a cap bs k mx 152 #[] allT r1 (by omega) (H.out.below bw (Nat.le_refl _)) HV.out hlt (by omega) (tests_all _ _ _) enters_all
   rw [selB_all] at hw
   have hlen2 := walksP_length bs k mx
   have hrm := walksP_len (N := (R : Int)) HV.out k mx
   have hck : circK bs R mn k = idxOf (fun r : List Int => decide (r.getD k 0 < 0)) (walksP bs k mx) := by unfold circK; rw [hmx]
   have hca : circA bs R (mn, on) k = if circK bs R mn k < 0 then (mn, on) else if (circK bs R mn k).toNat < mn then ((circK bs R mn k).toNat, (List.replicate R false).set k true) else (mn, on.set k true) := rfl
   rw [hck, ← hsucc] at hca
   obtain ⟨rows, hrows⟩ : ∃ rows, walksP bs k mx = rows := ⟨_, rfl⟩
   rw [hrows] at hw hlen2 hrm hca
   have HW := hidE hw
   have HQ1 := hidE q1
   have HCA := hidE hca
   have HS := hidE hs
   have HB3 := hidE b3
   have HRM := hidE hrm
   have HLEN2 := hidE hlen2
   have HMX := hidE hmx
   clear hw q1 hsucc hs b3 hlen2 hrm hca hck hrows hmx
   go_upto_block 1 with fail
   go_cut [7] (fun s7 wx => s7 = .int .i64 ((circS bs R (k + 1)).1 : Int) ∧ Hid (CSt w1 wx w1.heap.size (circS bs R (k + 1)).2))
   case first =>
    go_wp2_with fail
    refine HW.out.mono ?_
    rintro e w2 ⟨g, cp, rfl, hb2, hown⟩
    have hmx1 : mx ≤ R := by have := HMX.out; omega
    have hmx2 : mx ≤ mn := by have := HMX.out; omega
    obtain ⟨hra, hgl⟩ := rowsAt_of_owns hown HRM.out
    have hgb : wr.heap.size ≤ g := by
     rcases hown.2 with ⟨e, _⟩ | ⟨g', cp', cu, e, hb, hh, _⟩
     ·cases e
     ·cases e; exact hb
    have hon2 := blk_below hb2 lgb hst.out.on
    have st2 : CSt w1 w2 w1.heap.size on := ⟨hon2, hst.out.bl.trans (hb2.mono hst.out.bl.size)⟩
    have hbx2 := blk_below hb2 lbr HQ1.out
    have HRA := hidE hra
    have ST2 := hidE st2
    have HBX2 := hidE hbx2
    clear hra hown hon2 st2 hbx2 hb2 c0 c1
    go_wp2_with fail
    go_loopw [7, 48] (fun m t wv => ∃ j : Nat, j ≤ mx + 1 ∧ t = .int .i64 j ∧ m = .int .i64 (mn : Int) ∧ Hid ((rows.take j).any (fun r : List Int => decide (r.getD k 0 < 0)) = false) ∧ Hid (CSt w1 wv w1.heap.size on) ∧ Hid (Below w2.heap.size w2 wv)) (fun _ t _ => mx + 1 - (intOf t).toNat)
    case atStart => exact ⟨0, by omega, rfl, rfl, hidE rfl, ST2, hidE (Below.refl _ _)⟩
    case round =>
     obtain ⟨j, hj, rfl, rfl, hno, hst3, hb3⟩ := hrel
     by_cases hjl : j < mx + 1
     ·have hrow := HRM.out (rows.getD j []) (by
       rw [List.getD_eq_getElem?_getD, List.getElem?_eq_getElem (by have := HLEN2.out; omega)]; exact List.getElem_mem _)
      have hrg := rangeAt_rows (HRA.out.below hb3.out hgl) (k := j) (by have := HLEN2.out; omega) hrow
      have hxx : rows[j]'(by have := HLEN2.out; omega) = rows.getD j [] := (getD_get rows [] (by have := HLEN2.out; omega)).symm
      obtain ⟨x, hx⟩ : ∃ x, rows.getD j [] = x := ⟨_, rfl⟩
      rw [hx] at hrow hrg hxx
      obtain ⟨v, hv⟩ : ∃ v, x.getD k 0 = v := ⟨_, rfl⟩
      have hst' : (wr.alloc (.cells Tryz.zeroCells189 189)).heap[wr.heap.size]? = some (.cells (rowA (rep128 0)) 189 (0,0)) := by rw [zc94]; exact heap_alloc_new _ _
      have HSR := hidE hst'
      have HG := hidE hrg
      have HX := hidE hxx
      have HR := hidE hrow
      have HV2 := hidE hv
      have k0 : (0 : Int) ≤ (k : Int) := by omega
      have k1 : (k : Int) < 128 := by omega
      clear hx hrg hxx hrow hst' hv
      have hs1 : Hid ((rowA (rep128 0)).size = (rowA x).size) := hidE (by rw [rowA_size, rowA_size, HR.out, rep128_length])
      have hs2 : Hid ((Tryz.prog.info? 189).map (·.size) = some (rowA x).size) := hidE (by rw [rowA_size, HR.out]; exact i94.out)
      go_upto_region 12 with (first
       | (refine wpList_load_mid rfl 189 _ rfl g (j * 128) rfl (intsV x) _ HG.out Tryz.underlying189 rfl (by rw [i94.out]; simp [intsV, HR.out]) ?_)
       | (refine wpList_store_row rfl 189 _ _ rfl _ _ rfl rfl 189 _ HSR.out hs2.out hs1.out (intsV_one _) ?_; rw [World.setRow_alloc_new]))
      obtain ⟨X, hX⟩ : ∃ X, X = wr.alloc (Obj.cells (intsV x).toArray 189) := ⟨_, rfl⟩
      rw [← hX]
      have z3 : X.cell? ⟨wr.heap.size, k, none⟩ = some (.int .i64 v) := by
       rw [hX]
       show (wr.alloc (Obj.cells (rowA x) 189)).cell? ⟨wr.heap.size, k, none⟩ = some (.int .i64 v)
       rw [cell_of_row _ _ _ _ _ _ (heap_alloc_new wr (Obj.cells (rowA x) 189)), rowA_get (by rw [HR.out]; omega), HV2.out]
      have stX : CSt w1 X w1.heap.size on := by
       rw [hX]
       exact ⟨(Below.heap_alloc _ _ _ (lt_of_block hst3.out.on)).trans hst3.out.on, hst3.out.bl.alloc hst3.out.bl.size _⟩
      have b3X : Below w2.heap.size w2 X := by rw [hX]; exact hb3.out.alloc hb3.out.size _
      have og : X.cell? ⟨w1.heap.size, k, none⟩ = some (.bool (on.getD k false)) := by rw [cell_of_row _ _ _ _ _ _ stX.on, boolA_get (by rw [HB3.out]; omega)]
      have ogf : X.frozen? ⟨w1.heap.size, k, none⟩ = false := frozen_of_row _ _ _ _ _ stX.on
      have STX := hidE stX
      have B3X := hidE b3X
      clear hX stX b3X
      by_cases hneg : v < 0
      ·have hv2 : decide (v ≥ 0) = false := by simp; omega
       have hix : idxOf (fun r : List Int => decide (r.getD k 0 < 0)) rows = j := idxOf_found (by have := HLEN2.out; omega) hno.out (by rw [HX.out, HV2.out]; simpa using hneg)
       have hca2 := HCA.out
       rw [hix, if_neg (by omega)] at hca2
       by_cases hjm : j < mn
       ·rw [if_pos (by simpa using hjm)] at hca2
        have HCA2 := hidE hca2
        obtain ⟨Y, hclr, y1, y2, y3⟩ := run_clear_bools X 0 w1.heap.size R R on STX.out.on HB3.out (by omega)
        have yg : Y.cell? ⟨w1.heap.size, k, none⟩ = some (.bool ((List.replicate R false).getD k false)) := by rw [cell_of_row _ _ _ _ _ _ y1, boolA_get (by simpa using hlt)]
        have ygf : Y.frozen? ⟨w1.heap.size, k, none⟩ = false := frozen_of_row _ _ _ _ _ y1
        have Y1 := hidE y1
        have Y3 := hidE y3
        clear hca2 hix y1 y2 y3 og ogf
        go_wp2_with fail
        go_meet
        exact ⟨by rw [HCA2.out]; rfl, hidE (by
         rw [HCA2.out]
         exact ⟨by rw [heap_setCell_same _ _ _ _ _ _ Y1.out, boolA_set], (STX.out.bl.trans Y3.out).setCell (Nat.le_refl _) _⟩)⟩
       ·rw [if_neg (by simpa using hjm)] at hca2
        have hjm2 : ¬ (j : Int) < (mn : Int) := by omega
        have HCA2 := hidE hca2
        clear hca2 hix
        go_wp2_with fail
        go_meet
        exact ⟨by rw [HCA2.out], hidE (by
         rw [HCA2.out]
         exact ⟨by rw [heap_setCell_same _ _ _ _ _ _ STX.out.on, boolA_set], STX.out.bl.setCell (Nat.le_refl _) _⟩)⟩
      ·have hv2 : decide (v ≥ 0) = true := by simp; omega
       go_wp2_with fail
       go_roundw
       case rel => exact ⟨j + 1, by omega, by go_num, rfl, hidE (take_any_succ (by have := HLEN2.out; omega) hno.out (by rw [HX.out, HV2.out]; simpa using hneg)), STX, B3X⟩
       case measure => simp [intOf]; omega
     ·have hix : idxOf (fun r : List Int => decide (r.getD k 0 < 0)) rows = -1 := idxOf_none (any_of_take (by have := HLEN2.out; omega) hno.out)
      have hca2 := HCA.out
      rw [hix, if_pos (by omega)] at hca2
      have HCA2 := hidE hca2
      clear hca2 hix
      go_wp2_with fail
      go_meet
      exact ⟨by rw [HCA2.out], hidE (by rw [HCA2.out]; exact hst3.out)⟩
   case rest =>
    obtain ⟨rfl, hst4⟩ := hcut
    obtain ⟨w4, rfl⟩ : ∃ x : World, x = wc := ⟨wc, rfl⟩
    go_wp2_with fail
    go_roundw
    case rel => exact ⟨k + 1, by omega, by go_num, rfl, hst4⟩
    case measure => simp [intOf]; omega
  ·obtain rfl : R = k := by omega
   have hp0 := circleP_none HC.out HO.out
   have hp1 := fun i => circleP_hit HC.out HO.out (i := i)
   obtain ⟨S, hS⟩ : ∃ S, circS bs R R = S := ⟨_, rfl⟩
   rw [hS] at hst b1 b2 b3 hp0 hp1 ⊢
   obtain ⟨M, on⟩ := S
   simp only at hst b1 b2 b3 ⊢
   have HP0 := hidE hp0
   have HP1 := hidE hp1
   have HB3 := hidE b3
   clear hS hp0 hp1 b3 q1
   go_wp2_with fail
   go_loopw [70] (fun t wv => ∃ i : Nat, i ≤ bs.length ∧ t = .int .i64 i ∧ Hid (∀ q, q < i → circHit bs (M, on) q = false) ∧ Hid (CSt w1 wv w1.heap.size on)) (fun t _ => bs.length - (intOf t).toNat)
   case atStart => exact ⟨0, Nat.zero_le _, rfl, hidE (fun q h => by omega), hst⟩
   case round =>
    clear c0 c1 lgb lbr bw
    obtain ⟨i, hi, rfl, hno, hst2⟩ := hrel
    have bw : Below w.heap.size w wr := HB1.out.trans (hst2.out.bl.mono HB1.out.size)
    by_cases hil : i < bs.length
    ·obtain ⟨b, off, rfl, hbl, hcs⟩ := H.out.at hil
     have q1 := (hst2.out.bl.block w.heap.size lbx).trans HBX.out
     have hval := HV.out bs[i] (List.getElem_mem _)
     have hcs' := hcs.below bw hbl
     obtain ⟨c0, c1, c2, c3⟩ := hcs'
     have hgd : bs.getD i bd0 = bs[i] := getD_get bs bd0 hil
     obtain ⟨y, hy⟩ : ∃ y, bs[i] = y := ⟨_, rfl⟩
     rw [hy] at c0 c1 c2 c3 hval hgd
     obtain ⟨ys, yd, ym, yr⟩ := y
     obtain ⟨v1, v2, v3, v4, v5, v6⟩ := hval
     simp only at c0 c1 c2 c3 v1 v2 v3 v4 v5 v6
     obtain ⟨si, rfl⟩ := Int.eq_ofNat_of_zero_le v1
     obtain ⟨di, rfl⟩ := Int.eq_ofNat_of_zero_le v3
     have HGD := hidE hgd
     have Q1 := hidE q1
     clear hcs hy hgd q1
     go_upto_region 22 with fail
     obtain ⟨X, hX⟩ : ∃ X, X = (wr.alloc (Obj.cells #[.int .i64 (i : Int)] 3)).alloc (Obj.cells #[.int .i64 (si : Int), .int .i64 (di : Int), .int .i64 ym, .int .i64 yr] 65) := ⟨_, rfl⟩
     rw [← hX]
     have xb : Below wr.heap.size wr X := by rw [hX]; exact ((Below.refl _ _).alloc (Nat.le_refl _) _).alloc (by simp) _
     have x12 : X.heap[wr.heap.size]? = some (.cells #[.int .i64 (i : Int)] 3 (0,0)) := by rw [hX, Below.heap_alloc _ _ _ (by simp), heap_alloc_new]
     have x13 : X.heap[wr.heap.size + 1]? = some (.cells #[.int .i64 (si : Int), .int .i64 (di : Int), .int .i64 ym, .int .i64 yr] 65 (0,0)) := by rw [hX, heap_alloc_at _ _ _ (by simp)]
     have lgb := lt_of_block hst2.out.on
     have lbr := lt_of_block Q1.out
     have xon := blk_below xb lgb hst2.out.on
     have xbx := blk_below xb lbr Q1.out
     have stX : CSt w1 X w1.heap.size on := ⟨xon, hst2.out.bl.trans (xb.mono hst2.out.bl.size)⟩
     have bX : Below w.heap.size w X := bw.trans (xb.mono bw.size)
     have z0 : X.cell? ⟨wr.heap.size + 1, 0, none⟩ = some (.int .i64 (si : Int)) := c_e x13 rfl
     have z1 : X.cell? ⟨wr.heap.size + 1, 1, none⟩ = some (.int .i64 (di : Int)) := c_e x13 rfl
     have z2 : X.cell? ⟨wr.heap.size + 1, 2, none⟩ = some (.int .i64 ym) := c_e x13 rfl
     have z3 : X.cell? ⟨wr.heap.size, 0, none⟩ = some (.int .i64 (i : Int)) := cell_of_one x12
     have e0 : X.cell? ⟨w.heap.size, 0, none⟩ = some (.int .i64 (R : Int)) := c_e xbx rfl
     have e1 : X.cell? ⟨w.heap.size, 1, none⟩ = some (.slice (some ⟨b, off, none⟩) bs.length cap) := c_e xbx rfl
     obtain ⟨fs, hfs⟩ : ∃ x, on.getD si false = x := ⟨_, rfl⟩
     obtain ⟨fd, hfd⟩ : ∃ x, on.getD di false = x := ⟨_, rfl⟩
     have os : X.cell? ⟨w1.heap.size, si, none⟩ = some (.bool fs) := by rw [cell_of_row _ _ _ _ _ _ xon, boolA_get (by rw [HB3.out]; omega), hfs]
     have od : X.cell? ⟨w1.heap.size, di, none⟩ = some (.bool fd) := by rw [cell_of_row _ _ _ _ _ _ xon, boolA_get (by rw [HB3.out]; omega), hfd]
     obtain ⟨V, hV⟩ : ∃ V, circV bs M i = V := ⟨_, rfl⟩
     have hhit : circHit bs (M, on) i = (fs && fd && (decide (V < 1125899906842624) && decide (ym + V < 0))) := by
      unfold circHit
      rw [HGD.out, hV]
      simp only [Int.toNat_natCast]
      rw [hfs, hfd]
     have s0 : (si : Int) < R := by omega
     have d0 : (di : Int) < R := by omega
     have sl0 : si < R := by omega
     have dl0 : di < R := by omega
     have HHIT := hidE hhit
     have HVV := hidE hV
     have STX := hidE stX
     have BX := hidE bX
     have X12 := hidE x12
     have X13 := hidE x13
     have XBX := hidE xbx
     have XS := hidE (show X.heap.size = wr.heap.size + 2 by rw [hX]; simp)
     clear hX xb x12 x13 xon xbx stX bX hfs hfd hhit hV c0 c1 c2 c3 bw
     have skip : circHit bs (M, on) i = false → ∀ q, q < i + 1 → circHit bs (M, on) q = false := fun hf q hq => by
      by_cases e : q = i
      ·rw [e]; exact hf
      ·exact hno.out q (by omega)
     have SKIP := hidE skip
     clear skip
     cases fs with
     | false =>
       go_wp2_with fail
       go_roundw
       case rel => exact ⟨i + 1, by omega, by go_num, hidE (SKIP.out (by rw [HHIT.out]; rfl)), STX⟩
       case measure => simp [intOf]; omega
     | true =>
       cases fd with
       | false =>
         go_wp2_with fail
         go_roundw
         case rel => exact ⟨i + 1, by omega, by go_num, hidE (SKIP.out (by rw [HHIT.out]; rfl)), STX⟩
         case measure => simp [intOf]; omega
       | true =>
         obtain ⟨m1, hm2⟩ : ∃ m1, M - 1 = m1 := ⟨M - 1, rfl⟩
         have hmi : (M : Int) - 1 = (m1 : Int) := by omega
         have hm1R : m1 ≤ R := by omega
         have hwk := walks_any X R R (some ⟨b, off, none⟩) cap bs si m1 153 #[.pointer (some ⟨wr.heap.size, 0, none⟩)] (laterT i) r1 (by omega) (H.out.below BX.out (Nat.le_refl _)) HV.out sl0 (by omega)
          (fun q hq W hk => (later_any W q i wr.heap.size ((hk.cell (by have := XS.out; show wr.heap.size < _; omega)).trans z3)).mono fun _ _ ⟨he, hw⟩ => ⟨he, hw ▸ Below.refl _ _⟩)
          (enters_of Tryz.func153 (by kernel_rfl) rfl)
         have hsub : ∀ x ∈ selB bs (passes (laterT i) bs.length), x ∈ bs := fun x hx => mem_selB (fun q hq => (passes_mem.1 hq).1) hx
         have hcr : circRows bs M i = walksP (selB bs (passes (laterT i) bs.length)) si m1 := by unfold circRows; rw [HGD.out, hm2]; simp
         have hvs : AllValid R (selB bs (passes (laterT i) bs.length)) := fun x hx => HV.out x (hsub x hx)
         have hrm := walksP_len (N := (R : Int)) hvs si m1
         have hln := walksP_length (selB bs (passes (laterT i) bs.length)) si m1
         have hrbd : ∀ q p, q ≤ m1 → -1000000000 ≤ ((walksP (selB bs (passes (laterT i) bs.length)) si m1).getD q []).getD p 0 ∧ ((walksP (selB bs (passes (laterT i) bs.length)) si m1).getD q []).getD p 0 ≤ 1125899906842624 := by
          intro q p hq
          rw [walksP_get _ _ _ hq]
          exact walkRow_bd hvs _ _ _ (by omega)
         have hVV : circV bs M i = ((circRows bs M i).getD m1 []).getD di 0 := by unfold circV; rw [HGD.out, hm2]; simp only [Int.toNat_natCast]
         have hrest : circRest bs M i = followedP bs (passes (laterT i) bs.length) (gdCirc (circRows bs M i) ym) (di : Int) m1 := by unfold circRest; rw [HGD.out, hm2]
         rw [hcr] at hVV hrest
         obtain ⟨rows, hrows⟩ : ∃ rows, walksP (selB bs (passes (laterT i) bs.length)) si m1 = rows := ⟨_, rfl⟩
         rw [hrows] at hwk hrm hln hrbd hVV hrest
         have hVb := hrbd m1 di (Nat.le_refl _)
         have hVe := HVV.out
         rw [hVV] at hVe
         have HWK := hidE hwk
         have HRM := hidE hrm
         have HLN := hidE hln
         have HRB := hidE hrbd
         have HREST := hidE hrest
         have HVE := hidE hVe
         rw [hVe] at hVb
         obtain ⟨Vb1, Vb2⟩ := hVb
         clear hwk hsub hcr hvs hrm hln hrbd hVV hrest hrows hVe hm2
         go_wp2_with fail
         refine HWK.out.mono ?_
         rintro e w2 ⟨g, cp, rfl, hb2, hown⟩
         obtain ⟨hra, hgl⟩ := rowsAt_of_owns hown HRM.out
         have y12 := blk_below hb2 (lt_of_block X12.out) X12.out
         have y13 := blk_below hb2 (lt_of_block X13.out) X13.out
         have ybx := blk_below hb2 (lt_of_block XBX.out) XBX.out
         have yst : CSt w1 w2 w1.heap.size on := ⟨blk_below hb2 (lt_of_block STX.out.on) STX.out.on, STX.out.bl.trans (hb2.mono STX.out.bl.size)⟩
         have yb := BX.out.trans (hb2.mono BX.out.size)
         have HRA := hidE hra
         have Y12 := hidE y12
         have Y13 := hidE y13
         have YBX := hidE ybx
         have YST := hidE yst
         have YB := hidE yb
         clear hra hown y12 y13 ybx yst yb z0 z1 z2 z3 e0 e1 os od
         go_upto_region 25 with fail
         obtain ⟨Z, hZ⟩ : ∃ Z, Z = w2.alloc (Obj.cells #[.slice (some ⟨g, 0, none⟩) (m1 + 1) cp] 185) := ⟨_, rfl⟩
         rw [← hZ]
         have zb : Below w2.heap.size w2 Z := by rw [hZ]; exact (Below.refl _ _).alloc (Nat.le_refl _) _
         have z15 : Z.heap[w2.heap.size]? = some (.cells #[.slice (some ⟨g, 0, none⟩) (m1 + 1) cp] 185 (0,0)) := by rw [hZ]; exact heap_alloc_new _ _
         have z12 := blk_below zb (lt_of_block Y12.out) Y12.out
         have z13 := blk_below zb (lt_of_block Y13.out) Y13.out
         have zbx := blk_below zb (lt_of_block YBX.out) YBX.out
         have zst : CSt w1 Z w1.heap.size on := ⟨blk_below zb (lt_of_block YST.out.on) YST.out.on, YST.out.bl.trans (zb.mono YST.out.bl.size)⟩
         have zB := YB.out.trans (zb.mono YB.out.size)
         have zra := HRA.out.below zb hgl
         have z0 : Z.cell? ⟨w2.heap.size, 0, none⟩ = some (.slice (some ⟨g, 0, none⟩) (m1 + 1) cp) := cell_of_one z15
         have z1 : Z.cell? ⟨wr.heap.size + 1, 1, none⟩ = some (.int .i64 (di : Int)) := c_e z13 rfl
         have z2 : Z.cell? ⟨wr.heap.size + 1, 2, none⟩ = some (.int .i64 ym) := c_e z13 rfl
         have z3 : Z.cell? ⟨wr.heap.size, 0, none⟩ = some (.int .i64 (i : Int)) := cell_of_one z12
         have zg : Z.cell? ⟨g, m1 * 128 + di, none⟩ = some (.int .i64 V) := by
          rw [zra m1 di (by rw [HLN.out]; omega) (by omega), HVE.out]
         have e0 : Z.cell? ⟨w.heap.size, 0, none⟩ = some (.int .i64 (R : Int)) := c_e zbx rfl
         have e1 : Z.cell? ⟨w.heap.size, 1, none⟩ = some (.slice (some ⟨b, off, none⟩) bs.length cap) := c_e zbx rfl
         have m0 : (0 : Int) ≤ (m1 : Int) := by omega
         have m2 : (m1 : Int) < (m1 : Int) + 1 := by omega
         have d128 : (di : Int) < 128 := by omega
         have d00 : (0 : Int) ≤ (di : Int) := by omega
         have Z12 := hidE z12
         have Z13 := hidE z13
         have Z15 := hidE z15
         have ZST := hidE zst
         have ZB := hidE zB
         have ZRA := hidE zra
         have ZS := hidE (show Z.heap.size = w2.heap.size + 1 by rw [hZ]; simp)
         have hsz : wr.heap.size + 2 ≤ w2.heap.size := by have := lt_of_block Y13.out; omega
         clear hZ zb z12 z13 z15 zbx zst zB zra
         go_quiet (fail)
         obtain ⟨Y, hY⟩ : ∃ Y, Y = Z.drewN nq := ⟨_, rfl⟩
         rw [← hY]
         have yheap : Y.heap = Z.heap := by rw [hY]; rfl
         have yz2 : Y.cell? ⟨wr.heap.size + 1, 2, none⟩ = some (.int .i64 ym) := by rw [hY]; exact z2
         have yz1 : Y.cell? ⟨wr.heap.size + 1, 1, none⟩ = some (.int .i64 (di : Int)) := by rw [hY]; exact z1
         have yz3 : Y.cell? ⟨wr.heap.size, 0, none⟩ = some (.int .i64 (i : Int)) := by rw [hY]; exact z3
         have yz0 : Y.cell? ⟨w2.heap.size, 0, none⟩ = some (.slice (some ⟨g, 0, none⟩) (m1 + 1) cp) := by rw [hY]; exact z0
         have ye0 : Y.cell? ⟨w.heap.size, 0, none⟩ = some (.int .i64 (R : Int)) := by rw [hY]; exact e0
         have ye1 : Y.cell? ⟨w.heap.size, 1, none⟩ = some (.slice (some ⟨b, off, none⟩) bs.length cap) := by rw [hY]; exact e1
         have ySt : CSt w1 Y w1.heap.size on := ⟨by rw [yheap]; exact ZST.out.on, by rw [hY]; exact ZST.out.bl.trans (below_drewN' _ _)⟩
         have yB : Below w.heap.size w Y := by rw [hY]; exact ZB.out.trans (below_drewN' _ _)
         have YST2 := hidE ySt
         have YB2 := hidE yB
         have YH := hidE yheap
         clear hY z0 z1 z2 z3 zg e0 e1 yheap ySt yB
         by_cases hfar : V < 1125899906842624
         ·have hw0 : IntKind.i64.wrap (ym + V) = ym + V := IntWalk.i64_in _ (by omega)
          have hg1 : decide (V ≥ 1125899906842624) = false := by simp; omega
          by_cases hneg : ym + V < 0
          ·have hg2 : decide (ym + V ≥ 0) = false := by simp; omega
           have hhit2 : circHit bs (M, on) i = true := by rw [HHIT.out]; simp [hfar, hneg]
           have hp := HP1.out i hil hno.out hhit2
           have HP := hidE hp
           clear hp hhit2
           have YS : Y.heap.size = w2.heap.size + 1 := by rw [YH.out, ZS.out]
           have hraY : RowsAt Y g rows := fun q p hq hp => (World.cell?_of_block (w := Z) (by rw [YH.out])).trans (ZRA.out q p hq hp)
           have hfo := followed_any Y (R : Int) R (some ⟨b, off, none⟩) cap bs di m1 153 155 #[.pointer (some ⟨wr.heap.size, 0, none⟩)] #[.pointer (some ⟨w2.heap.size, 0, none⟩), .pointer (some ⟨wr.heap.size + 1, 0, none⟩)] (laterT i) (gdCirc rows ym) r1 (by omega) (H.out.below YB2.out (Nat.le_refl _)) HV.out dl0 (by omega)
            (fun q hq W hk => (later_any W q i wr.heap.size ((hk.cell (by show wr.heap.size < Y.heap.size; omega)).trans yz3)).mono fun _ _ ⟨he, hw⟩ => ⟨he, hw ▸ Below.refl _ _⟩)
            (enters_of Tryz.func153 (by kernel_rfl) rfl)
            (fun left at_ sum W h1 h2 h3 h4 hk => circ2_any W g cp (m1 + 1) rows ym w2.heap.size (wr.heap.size + 1) left at_ sum 0 0 0 HLN.out (by omega) (fun q p hq hp => (hk.cell (by show g < Y.heap.size; omega)).trans (hraY q p hq hp)) (by omega) (by omega) h3 h4 (by omega) (by omega) (HRB.out left at_ (by omega))
             ((hk.cell (by show w2.heap.size < Y.heap.size; omega)).trans yz0) ((hk.cell (by show wr.heap.size + 1 < Y.heap.size; omega)).trans yz2))
            (enters_of Tryz.func155 (by kernel_rfl) rfl)
           obtain ⟨FL, hFL⟩ : ∃ FL, followedP bs (passes (laterT i) bs.length) (gdCirc rows ym) (di : Int) m1 = FL := ⟨_, rfl⟩
           have hFLl : FL.length ≤ 50000 := by
            rw [← hFL]
            have := followedP_len bs (passes (laterT i) bs.length) (gdCirc rows ym) (di : Int) m1
            omega
           have hrs := HREST.out
           rw [hFL] at hfo hrs
           have HFO := hidE hfo
           have HRS := hidE hrs
           have HYS := hidE YS
           have wlt : wr.heap.size < Y.heap.size := by omega
           clear hfo hFL hrs hraY YS
           go_wp2_with fail
           refine HFO.out.mono ?_
           rintro e w6 ⟨vv, rfl, hb6, hown6⟩
           obtain ⟨o, oc, rfl, hia, _⟩ := intsAt_of_owns hown6
           have u3 : w6.cell? ⟨wr.heap.size, 0, none⟩ = some (.int .i64 (i : Int)) := (hb6.cell (p := ⟨wr.heap.size, 0, none⟩) wlt).trans yz3
           have HIA := hidE hia
           have B6 := hidE (YB2.out.trans (hb6.mono YB2.out.size))
           clear hown6 hia hb6
           go_wp2_with fail
           have hcc : Calls Tryz.prog 156 #[.slice (some ⟨w6.heap.size + 1, 0, none⟩) 2 2] ((w6.alloc (.cells #[.int .i64 (i : Int)] 3)).alloc (.cells #[.slice (some ⟨w6.heap.size, 0, none⟩) 1 1, .slice o FL.length oc] 52)) _ :=
            concat_ints _ (w6.heap.size + 1) 2 (some ⟨w6.heap.size, 0, none⟩) 1 [(i : Int)] o oc FL ((ints_one w6 (i : Int)).alloc _) ((HIA.out.alloc _).alloc _) (by simp) hFLl (heap_alloc_at _ _ _ (by simp))
           refine hcc.mono ?_
           rintro e w7 ⟨v7, rfl, hown7, hb7⟩
           have HO7 := hidE hown7
           have B7 := hidE (((B6.out.alloc B6.out.size (.cells #[.int .i64 (i : Int)] 3)).alloc (by have := B6.out.size; simp; omega) (.cells #[.slice (some ⟨w6.heap.size, 0, none⟩) 1 1, .slice o FL.length oc] 52)).trans (hb7.mono (by have := B6.out.size; simp; omega)))
           have hb6s := B6.out.size
           clear hcc hown7 hb7 u3
           go_wp2_with fail
           go_ret3
           refine ⟨?_, B7.out⟩
           rw [HP.out]
           simp only
           rw [HRS.out]
           exact ⟨_, rfl, ownsRow_base HO7.out (by simp; omega)⟩
          ·have hg2 : decide (ym + V ≥ 0) = true := by simp; omega
           have hsk : circHit bs (M, on) i = false := by rw [HHIT.out]; simp [hneg]
           have HSK := hidE hsk
           clear hsk
           go_wp2_with fail
           go_roundw
           case rel => exact ⟨i + 1, by omega, by go_num, hidE (SKIP.out HSK.out), YST2⟩
           case measure => simp [intOf]; omega
         ·have hg1 : decide (V ≥ 1125899906842624) = true := by simp; omega
          have hsk : circHit bs (M, on) i = false := by rw [HHIT.out]; simp [hfar]
          have HSK := hidE hsk
          clear hsk
          go_wp2_with fail
          go_roundw
          case rel => exact ⟨i + 1, by omega, by go_num, hidE (SKIP.out HSK.out), YST2⟩
          case measure => simp [intOf]; omega
    ·have hp := HP0.out (fun q hq => hno.out q (by omega))
     have HP := hidE hp
     clear hp
     go_wp2_with fail
     go_ret3
     refine ⟨?_, bw⟩
     rw [HP.out]
     exact ⟨_, rfl, World.ownsRow_nil _ _ _ _⟩
theorem circle_any (w : World) (N : Int) (a : Option Addr) (cap : Nat) (bs : List Bd) (hN : i64ok N) (hl : bs.length ≤ 9223372036854775807) (h : BoundsAt w a bs) :
 Calls Tryz.prog 86 #[.agg #[.int .i64 N, .slice a bs.length cap]] w fun e w' => ThroughPost (circleP N bs).1 (circleP N bs).2.1 (circleP N bs).2.2 w.heap.size e w' ∧ Below w.heap.size w w' := by
 by_cases hc : checkP N bs = 0 ∧ openedP N bs = none
 ·obtain ⟨R, rfl, _⟩ := allValid_of hc.1
  exact circle_main w R a cap bs hc.1 hc.2 h
 ·exact circle_not w N a cap bs hN hl h hc
end Go.Proofs.YtkhemfnlflbniaaGreatDoor
namespace Go.Proofs.YtkhemfnlflbniaaGreatDoor
open Go
theorem sortP_le (l : List Int) : (sortP l).Pairwise (· ≤ ·) := by
 have h := List.pairwise_mergeSort (le := fun x y : Int => decide (x ≤ y)) (fun a b c h1 h2 => by simp at *; omega) (fun a b => by simp; omega) l
 exact h.imp (fun h => by simpa using h)
end Go.Proofs.YtkhemfnlflbniaaGreatDoor
namespace Go.Proofs.YtkhemfnlflbniaaGreatDoor
open Go Go.RowKit Go.Shelf
def Sp.arr (s : Sp) : Array Value := #[.int .i64 s.low, .int .i64 s.high, .bool s.lowest, .bool s.highest]
set_option maxHeartbeats 400000 in
theorem between_any (w : World) (N : Int) (a : Option Addr) (cap : Nat) (bs : List Bd) (x y : Int) (hN : i64ok N) (hl : bs.length ≤ 9223372036854775807) (h : BoundsAt w a bs) :
 Calls Tryz.prog 82 #[.agg #[.int .i64 N, .slice a bs.length cap], .int .i64 x, .int .i64 y] w fun e w' => e = .returned (.tuple #[.agg (betweenP N bs x y).1.arr, .int .i64 (betweenP N bs x y).2]) ∧ Below w.heap.size w w' := by
 have H := hidE h
 have HN := hidE hN
 clear h hN
 have hB0 : Below w.heap.size w (((w.alloc (.cells #[.int .i64 N, .slice a bs.length cap] 61)).alloc (.cells #[.int .i64 0, .int .i64 0, .bool false, .bool false] 115)).alloc (.cells #[.int .i64 x, .int .i64 y] 3)) := ((((Below.refl _ _).alloc (Nat.le_refl _) _).alloc (by simp) _).alloc (by simp; omega) _)
 have hints := ints_two ((w.alloc (.cells #[.int .i64 N, .slice a bs.length cap] 61)).alloc (.cells #[.int .i64 0, .int .i64 0, .bool false, .bool false] 115)) x y
 simp only [World.size_alloc] at hints
 have hask : Calls Tryz.prog 143 #[.agg #[.int .i64 N, .slice a bs.length cap], .slice (some ⟨w.heap.size + 1 + 1, 0, none⟩) 2 2] (((w.alloc (.cells #[.int .i64 N, .slice a bs.length cap] 61)).alloc (.cells #[.int .i64 0, .int .i64 0, .bool false, .bool false] 115)).alloc (.cells #[.int .i64 x, .int .i64 y] 3)) _ :=
  asked_any _ N a cap bs (some ⟨w.heap.size + 1 + 1, 0, none⟩) 2 [x, y] HN.out hl (by simp) (((H.out.alloc (.cells #[.int .i64 N, .slice a bs.length cap] 61)).alloc (.cells #[.int .i64 0, .int .i64 0, .bool false, .bool false] 115)).alloc (.cells #[.int .i64 x, .int .i64 y] 3)) hints
 clear hints
 have hz0 : (((w.alloc (.cells #[.int .i64 N, .slice a bs.length cap] 61)).alloc (.cells #[.int .i64 0, .int .i64 0, .bool false, .bool false] 115)).alloc (.cells #[.int .i64 x, .int .i64 y] 3)).heap[w.heap.size + 1]? = some (.cells #[.int .i64 0, .int .i64 0, .bool false, .bool false] 115 (0,0)) :=
  (Below.heap_alloc _ _ _ (by simp)).trans (heap_alloc_at _ _ _ (by simp))
 have HZ0 := hidE hz0
 clear hz0
 by_cases he : askedE N bs [x, y] = 0
 ·obtain ⟨R, x', y', t, rfl, rfl, rfl, hx, hy, ht, HO⟩ := asked2 he
  have hd : betweenP R bs x' y' = (spP (distN R bs x' y') (distN R bs y' x'), 0) := by unfold betweenP; rw [if_pos he]; simp
  have hdn : distN R bs x' y' = (distP R t bs x').getD y' 0 ∧ distN R bs y' x' = (distP R t bs y').getD x' 0 := by unfold distN; rw [heightsP_of ht]; exact ⟨rfl, rfl⟩
  have HD := hidE hd
  have HDN := hidE hdn
  have HE := hidE he
  have HT := hidE ht
  clear hd hdn he ht
  obtain ⟨v1, hv1⟩ : ∃ v, (distP R t bs x').getD y' 0 = v := ⟨_, rfl⟩
  obtain ⟨v2, hv2⟩ : ∃ v, (distP R t bs y').getD x' 0 = v := ⟨_, rfl⟩
  have HV1 := hidE hv1
  have HV2 := hidE hv2
  clear hv1 hv2
  have HA := hidE hask
  clear hask
  go_enter Tryz.func82, Tryz.ntmps82
  go_wp2_with fail
  refine HA.out.mono ?_
  rintro e w1 ⟨hp, hb1⟩
  unfold AskedPost at hp
  rw [if_pos HE.out] at hp
  obtain ⟨bn, t', ht', rfl, hbn, hcell⟩ := hp
  have htt : t' = t := by have := HT.out; rw [ht'] at this; exact Option.some.inj this
  subst htt
  have B1 := hB0.trans (hb1.mono hB0.size)
  have hsp := span_any w1 bn R a cap bs t' x' y' HO hx hy (H.out.below B1 (Nat.le_refl _)) hcell
  rw [HV1.out, HV2.out] at hsp
  have hz1 := blk_below hb1 (by simp) HZ0.out
  have HSP := hidE hsp
  have HB1 := hidE B1
  have HZ1 := hidE hz1
  clear hsp hcell ht' hb1 B1 hbn hz1
  go_wp2_with fail
  refine HSP.out.mono ?_
  rintro e w2 ⟨rfl, hb2⟩
  unfold spanA
  have hz2 := blk_below hb2 (lt_of_block HZ1.out) HZ1.out
  have f0 : ∀ i, w2.frozen? ⟨w.heap.size + 1, i, none⟩ = false := fun i => frozen_of_row _ _ _ _ _ hz2
  have e0 : w2.cell? ⟨w.heap.size + 1, 0, none⟩ = some (.int .i64 0) := c_e hz2 rfl
  have e1 : w2.cell? ⟨w.heap.size + 1, 1, none⟩ = some (.int .i64 0) := c_e hz2 rfl
  have e2 : w2.cell? ⟨w.heap.size + 1, 2, none⟩ = some (.bool false) := c_e hz2 rfl
  have e3 : w2.cell? ⟨w.heap.size + 1, 3, none⟩ = some (.bool false) := c_e hz2 rfl
  have HB2 := hidE (HB1.out.trans (hb2.mono HB1.out.size))
  clear hz2 hb2
  go_wp2_with fail
  refine bodyPost_ret (v := .tuple #[.agg (spanA v1 v2), .int .i64 0]) (by simp [results, Tryz.results82, go_sem, spanA, e0, e1, e2, e3]) rfl ⟨?_, ?_⟩
  ·rw [HD.out, HDN.out.1, HDN.out.2, HV1.out, HV2.out]; rfl
  ·exact (((HB2.out.setCell (by simp) _).setCell (by simp) _).setCell (by simp) _).setCell (by simp) _
 ·have hd : betweenP N bs x y = (sp0, askedE N bs [x, y]) := by unfold betweenP; rw [if_neg he]
  have HD := hidE hd
  have HE := hidE he
  obtain ⟨c, hc⟩ : ∃ c, askedE N bs [x, y] = c := ⟨_, rfl⟩
  have hc1 : (c == 0) = false := by rw [← hc]; simpa using he
  have hc2 : (c != 0) = true := by rw [← hc]; simpa using he
  have HC := hidE hc
  have HA := hidE hask
  clear hd he hc hask
  go_enter Tryz.func82, Tryz.ntmps82
  go_wp2_with fail
  refine HA.out.mono ?_
  rintro e w1 ⟨hp, hb1⟩
  unfold AskedPost at hp
  rw [if_neg HE.out, HC.out] at hp
  subst hp
  have hz2 := blk_below hb1 (by simp) HZ0.out
  have f0 : ∀ i, w1.frozen? ⟨w.heap.size + 1, i, none⟩ = false := fun i => frozen_of_row _ _ _ _ _ hz2
  have e0 : w1.cell? ⟨w.heap.size + 1, 0, none⟩ = some (.int .i64 0) := c_e hz2 rfl
  have e1 : w1.cell? ⟨w.heap.size + 1, 1, none⟩ = some (.int .i64 0) := c_e hz2 rfl
  have e2 : w1.cell? ⟨w.heap.size + 1, 2, none⟩ = some (.bool false) := c_e hz2 rfl
  have e3 : w1.cell? ⟨w.heap.size + 1, 3, none⟩ = some (.bool false) := c_e hz2 rfl
  have HB1 := hidE (hB0.trans (hb1.mono hB0.size))
  clear hz2 hb1
  go_wp2_with fail
  refine bodyPost_ret (v := .tuple #[.agg sp0.arr, .int .i64 c]) (by simp [results, Tryz.results82, go_sem, sp0, Sp.arr, e0, e1, e2, e3]) rfl ⟨?_, ?_⟩
  ·rw [HD.out, HC.out]
  ·exact (((HB1.out.setCell (by simp) _).setCell (by simp) _).setCell (by simp) _).setCell (by simp) _
theorem betweenP_split (N : Int) (bs : List Bd) (x y : Int) : ∃ l h b c e, betweenP N bs x y = (⟨l, h, b, c⟩, e) := ⟨_, _, _, _, _, rfl⟩
set_option maxHeartbeats 400000 in
theorem range_any (w : World) (N : Int) (a : Option Addr) (cap : Nat) (bs : List Bd) (y : Int) (hN : i64ok N) (hl : bs.length ≤ 9223372036854775807) (h : BoundsAt w a bs) :
 Calls Tryz.prog 140 #[.agg #[.int .i64 N, .slice a bs.length cap], .int .i64 y] w fun e w' => e = .returned (.tuple #[.agg (betweenP N bs 0 y).1.arr, .int .i64 (betweenP N bs 0 y).2]) ∧ Below w.heap.size w w' := by
 have hB0 : Below w.heap.size w ((w.alloc (.cells #[.int .i64 N, .slice a bs.length cap] 61)).alloc (.cells #[.int .i64 0, .int .i64 0, .bool false, .bool false] 115)) := (((Below.refl _ _).alloc (Nat.le_refl _) _).alloc (by simp) _)
 have hbt := between_any ((w.alloc (.cells #[.int .i64 N, .slice a bs.length cap] 61)).alloc (.cells #[.int .i64 0, .int .i64 0, .bool false, .bool false] 115)) N a cap bs 0 y hN hl ((h.alloc _).alloc _)
 have hz0 : ((w.alloc (.cells #[.int .i64 N, .slice a bs.length cap] 61)).alloc (.cells #[.int .i64 0, .int .i64 0, .bool false, .bool false] 115)).heap[w.heap.size + 1]? = some (.cells #[.int .i64 0, .int .i64 0, .bool false, .bool false] 115 (0,0)) := heap_alloc_at _ _ _ (by simp)
 obtain ⟨s1, s2, s3, s4, e, hs⟩ := betweenP_split N bs 0 y
 have HS := hidE hs
 rw [hs] at hbt
 have HBT := hidE hbt
 have HZ := hidE hz0
 clear hs hbt hz0 h hN
 go_enter Tryz.func140, Tryz.ntmps140
 go_wp2_with fail
 refine HBT.out.mono ?_
 rintro e w2 ⟨rfl, hb2⟩
 unfold Sp.arr
 have hz2 := blk_below hb2 (by simp) HZ.out
 have f0 : ∀ i, w2.frozen? ⟨w.heap.size + 1, i, none⟩ = false := fun i => frozen_of_row _ _ _ _ _ hz2
 have e0 : w2.cell? ⟨w.heap.size + 1, 0, none⟩ = some (.int .i64 0) := c_e hz2 rfl
 have e1 : w2.cell? ⟨w.heap.size + 1, 1, none⟩ = some (.int .i64 0) := c_e hz2 rfl
 have e2 : w2.cell? ⟨w.heap.size + 1, 2, none⟩ = some (.bool false) := c_e hz2 rfl
 have e3 : w2.cell? ⟨w.heap.size + 1, 3, none⟩ = some (.bool false) := c_e hz2 rfl
 have HB2 := hidE (hB0.trans (hb2.mono hB0.size))
 clear hz2 hb2
 go_wp2_with fail
 refine bodyPost_ret (v := .tuple #[.agg #[.int .i64 s1, .int .i64 s2, .bool s3, .bool s4], .int .i64 e]) (by simp [results, Tryz.results140, go_sem, e0, e1, e2, e3]) rfl ⟨?_, ?_⟩
 ·rw [HS.out]; rfl
 ·exact (((HB2.out.setCell (by simp) _).setCell (by simp) _).setCell (by simp) _).setCell (by simp) _
theorem owns_lt {W : World} {base : Nat} {e : TypeId} {size : Nat} {v : Value} {n : Nat} {xs : List Value} (h : W.ownsRow base e size v n xs) {g : Nat} (hg : v.ownBlock = some g) : g < W.heap.size ∧ base ≤ g ∧ ∃ c f, W.heap[g]? = some (.cells c e f) := by
 rcases h.2 with ⟨e1, _⟩ | ⟨g1, cp', cu, e1, hb, hh, _⟩
 ·rw [e1] at hg; simp [Value.ownBlock] at hg
 ·rw [e1] at hg
  simp only [Value.ownBlock, Option.some.injEq] at hg
  subst hg
  exact ⟨lt_of_block hh, hb, _, _, hh⟩
theorem owns_intsAt {W : World} {base : Nat} {v : Value} {l : List Int} (h : W.ownsRow base 3 1 v l.length (intsV l)) : ∃ o c, v = .slice o l.length c ∧ IntsAt W o l := by
 obtain ⟨o, c, h1, h2, _⟩ := intsAt_of_owns h
 exact ⟨o, c, h1, h2⟩
theorem ints_lit (w : World) (l : List Int) : IntsAt (w.alloc (.cells (intsV l).toArray 3)) (some ⟨w.heap.size, 0, none⟩) l := by
 refine .inr ⟨w.heap.size, 0, rfl, by simp, fun i hi => ?_⟩
 rw [cell_of_row _ _ _ _ _ _ (heap_alloc_new w _), Nat.zero_add]
 simp [intsV, hi]
def RecsAt {α : Type} (k : Nat) (f : α → List Value) (w : World) (a : Option Addr) (xs : List α) : Prop :=
 xs = [] ∨ ∃ b off, a = some ⟨b, off, none⟩ ∧ b < w.heap.size ∧ ∀ i (h : i < xs.length) j, j < k → w.cell? ⟨b, off + i * k + j, none⟩ = (f xs[i])[j]?
theorem RecsAt.below {α : Type} {k : Nat} {f : α → List Value} {B : Nat} {w w' : World} {a : Option Addr} {xs : List α} (h : RecsAt k f w a xs) (hb : Below B w w') (hB : w.heap.size ≤ B) : RecsAt k f w' a xs := by
 rcases h with h | ⟨b, off, e, hl, hc⟩
 ·exact .inl h
 ·exact .inr ⟨b, off, e, Nat.lt_of_lt_of_le hl hb.size, fun i hi j hj => (hb.cell (by exact Nat.lt_of_lt_of_le hl hB)).trans (hc i hi j hj)⟩
theorem RecsAt.alloc {α : Type} {k : Nat} {f : α → List Value} {w : World} {a : Option Addr} {xs : List α} (h : RecsAt k f w a xs) (o : Obj) : RecsAt k f (w.alloc o) a xs := h.below ((Below.refl w.heap.size w).alloc (Nat.le_refl _) o) (Nat.le_refl _)
theorem RecsAt.at {α : Type} {k : Nat} {f : α → List Value} {w : World} {a : Option Addr} {xs : List α} (h : RecsAt k f w a xs) {i : Nat} (hi : i < xs.length) : ∃ b off, a = some ⟨b, off, none⟩ ∧ b < w.heap.size ∧ ∀ j, j < k → w.cell? ⟨b, off + i * k + j, none⟩ = (f xs[i])[j]? := by
 rcases h with h | ⟨b, off, e, hl, hc⟩
 ·subst h; simp at hi
 ·exact ⟨b, off, e, hl, hc i hi⟩
def Sta.cells (s : Sta) : List Value := [.string s.name, .int .i64 s.x]
def Par.cells (p : Par) : List Value := [.string p.name, .int .i64 p.south, .int .i64 p.wst, .int .i64 p.est]
def Vrn.cells (v : Vrn) : List Value := [.int .i64 v.year, .int .i64 v.east]
def strCells (s : ByteArray) : List Value := [.string s]
def Sta.val (s : Sta) : Value := .agg #[.string s.name, .int .i64 s.x]
def Par.val (p : Par) : Value := .agg #[.string p.name, .int .i64 p.south, .int .i64 p.wst, .int .i64 p.est]
abbrev StasAt := RecsAt 2 Sta.cells
abbrev ParsAt := RecsAt 4 Par.cells
abbrev VrnsAt := RecsAt 2 Vrn.cells
abbrev StrsAt := RecsAt 1 strCells
theorem inD_any (n a b : Int) (w : World) : Calls Tryz.prog 137 #[.int .i64 n, .int .i64 a, .int .i64 b] w fun e w' => e = .returned (.bool (inR n a b)) ∧ w = w' := by
 unfold inR
 go_enter Tryz.func137, Tryz.ntmps137
 go_wp2
 all_goals go_ret
 all_goals refine ⟨?_, rfl⟩
 all_goals simp [*]
 omega
theorem inC_any (n a b : Int) (w : World) : Calls Tryz.prog 255 #[.int .i64 n, .int .i64 a, .int .i64 b] w fun e w' => e = .returned (.bool (inR n a b)) ∧ w = w' := by
 unfold inR
 go_enter Tryz.func255, Tryz.ntmps255
 go_wp2
 all_goals go_ret
 all_goals refine ⟨?_, rfl⟩
 all_goals simp [*]
 omega
theorem inD_at {n a b : Int} {r : Bool} (h : inR n a b = r) (w : World) : Calls Tryz.prog 137 #[.int .i64 n, .int .i64 a, .int .i64 b] w fun e w' => e = .returned (.bool r) ∧ w = w' := h ▸ inD_any n a b w
theorem str_at (s : ByteArray) (k : Nat) (h : k < s.size) : s.data.toList.getD k 0 = s[k] := by
 rw [List.getD_eq_getElem?_getD, List.getElem?_eq_getElem (by simpa using h)]; rfl
theorem str_take (s : ByteArray) (k : Nat) (h : k < s.size) : s.data.toList.take (k + 1) = s.data.toList.take k ++ [s[k]] := by
 rw [List.take_succ_eq_append_getElem (by simpa using h)]; rfl
theorem nameCh_iff (c : UInt8) : nameCh c = true ↔ (97 ≤ c.toNat ∧ c.toNat ≤ 122) ∨ (48 ≤ c.toNat ∧ c.toNat ≤ 57) ∨ c.toNat = 45 := by
 unfold nameCh lowCh
 simp [or_assoc]
theorem lowCh_iff (c : UInt8) : lowCh c = true ↔ 97 ≤ c.toNat ∧ c.toNat ≤ 122 := by
 unfold lowCh
 simp
theorem all_take {α : Type} {p : α → Bool} {l : List α} {k : Nat} {x : α} (hk : k < l.length) (hx : l[k] = x) (h : p x = false) : l.all p = false := by
 rw [← Bool.not_eq_true, List.all_eq_true]
 intro hh
 have := hh l[k] (List.getElem_mem hk)
 rw [hx, h] at this
 cases this
set_option maxHeartbeats 1000000 in
theorem isName_any (s : ByteArray) (w : World) (hs : s.size ≤ 9223372036854775807) :
 Calls Tryz.prog 209 #[.string s] w fun e w' => e = .returned (.bool (isNameB s)) ∧ w = w' := by
 obtain ⟨P, hP⟩ : ∃ P, isNameB s = P := ⟨_, rfl⟩
 rw [hP]
 by_cases h1 : inR s.size 1 24 = true
 ·have hsz : 1 ≤ s.size ∧ s.size ≤ 24 := by unfold inR at h1; simp at h1; omega
  have hin := fun W => inD_at (n := s.size) (a := 1) (b := 24) h1 W
  have h0 := str_at s 0 (by omega)
  have HP : Hid ((lowCh s[0] && s.data.toList.all nameCh) = P) := hidE (by rw [← hP]; unfold isNameB; rw [h0]; simp [hsz])
  have HIN := hidE hin
  obtain ⟨hz1, hz2⟩ := hsz
  clear h1 hin hP h0
  by_cases hlow : lowCh s[0] = true
  ·have hb : 97 ≤ s[0].toNat ∧ s[0].toNat ≤ 122 := by unfold lowCh at hlow; simpa using hlow
   have d1 : decide ((s[0].toNat : Int) < 97) = false := by simp; omega
   have d2 : decide ((s[0].toNat : Int) > 122) = false := by simp; omega
   have HL := hidE hlow
   clear hlow hb
   go_enter Tryz.func209, Tryz.ntmps209
   go_wp2_with fail
   refine (HIN.out _).mono ?_
   rintro e w1 ⟨rfl, rfl⟩
   go_wp2_with fail
   go_loop [21] (fun i => ∃ k : Nat, k ≤ s.size ∧ i = .int .i64 k ∧ Hid ((s.data.toList.take k).all nameCh = true)) (fun i => s.size - (intOf i).toNat)
   case atStart => exact ⟨0, Nat.zero_le _, rfl, hidE rfl⟩
   case round =>
    obtain ⟨k, hk, rfl, HA⟩ := hrel
    by_cases hlt : k < s.size
    ·have HS := hidE (str_take s k hlt)
     clear d1 d2
     by_cases g : s[k].toNat = 45
     ·have gb : ((s[k].toNat : Int) != 45) = false := by simp; omega
      go_wp2
      all_goals first
       | (go_ret
          have hn : nameCh s[k] = false := by rw [← Bool.not_eq_true, nameCh_iff]; omega
          obtain rfl : false = P := by rw [← HP.out, all_take (l := s.data.toList) (k := k) (by simpa using hlt) rfl hn, Bool.and_false]
          exact ⟨rfl, rfl⟩)
       | (have hn : nameCh s[k] = true := by rw [nameCh_iff]; omega
          go_round
          case rel => exact ⟨k + 1, by omega, by go_num, hidE (by rw [HS.out, List.all_append, HA.out]; simp [hn])⟩
          case measure => simp [intOf]; omega)
     ·have gb : ((s[k].toNat : Int) != 45) = true := by simp; omega
      go_wp2
      all_goals first
       | (go_ret
          have hn : nameCh s[k] = false := by rw [← Bool.not_eq_true, nameCh_iff]; omega
          obtain rfl : false = P := by rw [← HP.out, all_take (l := s.data.toList) (k := k) (by simpa using hlt) rfl hn, Bool.and_false]
          exact ⟨rfl, rfl⟩)
       | (have hn : nameCh s[k] = true := by rw [nameCh_iff]; omega
          go_round
          case rel => exact ⟨k + 1, by omega, by go_num, hidE (by rw [HS.out, List.all_append, HA.out]; simp [hn])⟩
          case measure => simp [intOf]; omega)
    ·have hall : s.data.toList.all nameCh = true := by have := HA.out; rwa [List.take_of_length_le (by simp; omega)] at this
     obtain rfl : true = P := by rw [← HP.out, hall, HL.out]; rfl
     clear hall
     go_wp2_with fail
     go_ret
     exact ⟨rfl, rfl⟩
  ·obtain rfl : false = P := by rw [← HP.out]; simp [hlow]
   have hb : ¬ (97 ≤ s[0].toNat ∧ s[0].toNat ≤ 122) := by rw [← lowCh_iff]; exact hlow
   clear hlow HP
   by_cases g : s[0].toNat < 97
   ·have d1 : decide ((s[0].toNat : Int) < 97) = true := by simp; omega
    clear hb
    go_enter Tryz.func209, Tryz.ntmps209
    go_wp2_with fail
    refine (HIN.out _).mono ?_
    rintro e w1 ⟨rfl, rfl⟩
    go_wp2_with fail
    go_ret
    exact ⟨rfl, rfl⟩
   ·have d1 : decide ((s[0].toNat : Int) < 97) = false := by simp; omega
    have d2 : decide ((s[0].toNat : Int) > 122) = true := by simp; omega
    clear hb
    go_enter Tryz.func209, Tryz.ntmps209
    go_wp2_with fail
    refine (HIN.out _).mono ?_
    rintro e w1 ⟨rfl, rfl⟩
    go_wp2_with fail
    go_ret
    exact ⟨rfl, rfl⟩
 ·have h1' : inR s.size 1 24 = false := by simpa using h1
  have HIN := hidE (fun W => inD_at (n := s.size) (a := 1) (b := 24) h1' W)
  obtain rfl : false = P := by
   rw [← hP]; unfold isNameB; unfold inR at h1
   simp at h1
   by_cases g : 1 ≤ s.size
   ·simp [show ¬ s.size ≤ 24 by omega]
   ·simp [show ¬ 1 ≤ s.size by omega]
  clear h1 h1' hP
  go_enter Tryz.func209, Tryz.ntmps209
  go_wp2_with fail
  refine (HIN.out _).mono ?_
  rintro e w1 ⟨rfl, rfl⟩
  go_wp2_with fail
  go_ret
  exact ⟨rfl, rfl⟩
theorem StrsAt.cell {w : World} {a : Option Addr} {l : List ByteArray} (h : StrsAt w a l) {i : Nat} (hi : i < l.length) : ∃ b off, a = some ⟨b, off, none⟩ ∧ b < w.heap.size ∧ w.cell? ⟨b, off + i, none⟩ = some (.string l[i]) := by
 obtain ⟨b, off, e, hb, hc⟩ := RecsAt.at h hi
 have := hc 0 (by omega)
 rw [Nat.mul_one, Nat.add_zero] at this
 exact ⟨b, off, e, hb, this⟩
theorem StrsAt.all {w : World} {b off : Nat} {l : List ByteArray} (h : StrsAt w (some ⟨b, off, none⟩) l) (j : Nat) (hj : j < l.length) : w.cell? ⟨b, off + j, none⟩ = some (.string (l.getD j ByteArray.empty)) := by
 obtain ⟨b', off', e, _, hc⟩ := StrsAt.cell h hj
 cases e
 rw [hc, List.getD_eq_getElem?_getD, List.getElem?_eq_getElem hj]; rfl
theorem containsS_any (l : List ByteArray) (x : ByteArray) : Go.Lib.containsS l x = l.any (fun y => decide (y = x)) := by
 rw [Bool.eq_iff_iff, Go.Lib.containsS_iff, List.any_eq_true]
 constructor
 ·intro h; exact ⟨x, h, by simp⟩
 ·rintro ⟨y, hy, e⟩; have : y = x := by simpa using e
  rw [← this]; exact hy
theorem twiceTo_succ (l : List ByteArray) (k : Nat) : twiceTo l (k + 1) = (twiceTo l k || (l.take k).any fun y => decide (y = l.getD k default)) := by
 unfold twiceTo
 rw [List.range_succ, List.any_append]
 simp
theorem twiceTo_mono {l : List ByteArray} {k n : Nat} (h : k ≤ n) (hk : twiceTo l k = true) : twiceTo l n = true := by
 unfold twiceTo at *
 rw [List.any_eq_true] at *
 obtain ⟨x, hx, e⟩ := hk
 exact ⟨x, List.mem_range.2 (by have := List.mem_range.1 hx; omega), e⟩
set_option maxHeartbeats 1000000 in
theorem twice_any (w : World) (a : Option Addr) (cap : Nat) (l : List ByteArray) (hl : l.length ≤ cap) (hcap : cap ≤ 9223372036854775807) (h : StrsAt w a l) :
 Calls Tryz.prog 210 #[.slice a l.length cap] w fun e w' => e = .returned (.bool (twiceTo l l.length)) ∧ w = w' := by
 have H := hidE h
 clear h
 go_enter Tryz.func210, Tryz.ntmps210
 go_wp2_with fail
 go_loop [7] (fun i => ∃ k : Nat, k ≤ l.length ∧ i = .int .i64 k ∧ Hid (twiceTo l k = false)) (fun i => l.length - (intOf i).toNat)
 case atStart => exact ⟨0, Nat.zero_le _, rfl, hidE rfl⟩
 case round =>
  obtain ⟨k, hk, rfl, HT⟩ := hrel
  by_cases hlt : k < l.length
  ·obtain ⟨b, off, rfl, hbl, hc⟩ := StrsAt.cell H.out hlt
   have HCon := hidE (fun (W : World) (e : W = w) => Tryz.slices_Contains_string b off k cap l l[k] W (by omega) (by omega) (by subst e; exact fun j hj => StrsAt.all H.out j hj))
   have HS := hidE (twiceTo_succ l k)
   have hg : l.getD k default = l[k] := by simp [hlt]
   rw [hg] at HS
   rw [containsS_any] at HCon
   have hkc : k ≤ cap := by omega
   have hkd : decide (k ≤ cap) = true := by simpa using hkc
   obtain ⟨x, hx⟩ : ∃ x, l[k] = x := ⟨_, rfl⟩
   rw [hx] at hc HS HCon
   obtain ⟨q, hq⟩ : ∃ q, (l.take k).any (fun y => decide (y = x)) = q := ⟨_, rfl⟩
   rw [hq] at HS HCon
   clear hx hq hg
   cases q with
   | true =>
     have HF := hidE (twiceTo_mono (l := l) (k := k + 1) (n := l.length) (by omega) (by rw [HS.out]; simp))
     go_wp2_with fail
     refine (HCon.out _ rfl).mono ?_
     rintro e w' ⟨rfl, rfl⟩
     go_wp2_with fail
     go_ret
     exact ⟨by rw [HF.out]; rfl, rfl⟩
   | false =>
     go_wp2_with fail
     refine (HCon.out _ rfl).mono ?_
     rintro e w' ⟨rfl, rfl⟩
     go_wp2_with fail
     go_round
     case rel => exact ⟨k + 1, by omega, by go_num, hidE (by rw [HS.out, HT.out]; rfl)⟩
     case measure => simp [intOf]; omega
  ·obtain rfl : k = l.length := by omega
   go_wp2_with fail
   go_ret
   exact ⟨by rw [HT.out]; rfl, rfl⟩
theorem vrnsB_drop {l : List Vrn} {k : Nat} (hk : k < l.length) (y : Int) : vrnsB y (l.drop k) = (inR l[k].year (y + 1) 3000 && inR l[k].east (-60) 60 && vrnsB l[k].year (l.drop (k + 1))) := by
 rw [List.drop_eq_getElem_cons hk]; rfl
set_option maxHeartbeats 1000000 in
theorem checkVrns_any (w : World) (a : Option Addr) (cap : Nat) (l : List Vrn) (hl : l.length ≤ 9223372036854775807) (h : VrnsAt w a l) :
 Calls Tryz.prog 205 #[.slice a l.length cap] w fun e w' => e = .returned (.int .i64 (checkVrns l)) ∧ Below w.heap.size w w' := by
 obtain ⟨P, hP⟩ : ∃ P, checkVrns l = P := ⟨_, rfl⟩
 rw [hP]
 unfold checkVrns at hP
 by_cases h40 : 40 < l.length
 ·obtain rfl : (2 : Int) = P := by rw [if_pos h40] at hP; exact hP
  have hd : decide ((l.length : Int) > 40) = true := by simp; omega
  clear hP h
  go_enter Tryz.func205, Tryz.ntmps205
  go_wp2_with fail
  go_ret
  exact ⟨rfl, Below.refl _ _⟩
 ·rw [if_neg h40] at hP
  have hd : decide ((l.length : Int) > 40) = false := by simp; omega
  have HP := hidE hP
  have H := hidE h
  clear hP h
  go_enter Tryz.func205, Tryz.ntmps205
  go_wp2_with fail
  go_loopw [3, 11] (fun y i wr => ∃ (k : Nat) (yr : Int), k ≤ l.length ∧ i = .int .i64 k ∧ y = .int .i64 yr ∧ 0 ≤ yr ∧ yr ≤ 3000 ∧ Hid (vrnsB 0 l = vrnsB yr (l.drop k)) ∧ Below w.heap.size w wr) (fun _ i _ => l.length - (intOf i).toNat)
  case atStart => exact ⟨0, 0, Nat.zero_le _, rfl, rfl, by omega, by omega, hidE rfl, Below.refl _ _⟩
  case round =>
   obtain ⟨k, yr, hk, rfl, rfl, hy0, hy1, HV, hb⟩ := hrel
   by_cases hlt : k < l.length
   ·obtain ⟨b, off, rfl, hbl, hc⟩ := RecsAt.at H.out hlt
    have c0 := hc 0 (by omega)
    have c1 := hc 1 (by omega)
    rw [← hb.cell hbl, Nat.add_zero] at c0
    rw [← hb.cell hbl] at c1
    have HS := hidE (vrnsB_drop hlt yr)
    obtain ⟨x, hx⟩ : ∃ x, l[k] = x := ⟨_, rfl⟩
    rw [hx] at c0 c1 HS
    obtain ⟨xy, xe⟩ := x
    simp only [Vrn.cells, List.getElem?_cons_zero, List.getElem?_cons_succ] at c0 c1
    simp only at HS
    clear hx hc
    have hi1 := fun W => inC_any xy (yr + 1) 3000 W
    have hi2 := fun W => inC_any xe (-60) 60 W
    have HYB : Hid (inR xy (yr + 1) 3000 = true → yr < xy ∧ xy ≤ 3000) := hidE (by unfold inR; simp; omega)
    obtain ⟨q1, hq1⟩ : ∃ q, inR xy (yr + 1) 3000 = q := ⟨_, rfl⟩
    obtain ⟨q2, hq2⟩ : ∃ q, inR xe (-60) 60 = q := ⟨_, rfl⟩
    rw [hq1] at hi1 HS HYB
    rw [hq2] at hi2 HS
    have HI1 := hidE hi1
    have HI2 := hidE hi2
    have B := hidE hb
    have l1 := B.out.size
    clear hi1 hi2 hq1 hq2 hb
    cases q1 with
    | false =>
      obtain rfl : (1 : Int) = P := by rw [← HP.out, HV.out, HS.out]; rfl
      go_wp2_with fail
      refine (HI1.out _).mono ?_
      rintro e w1 ⟨rfl, rfl⟩
      go_wp2_with fail
      go_ret
      exact ⟨rfl, B.out.alloc B.out.size _⟩
    | true =>
      have hyb := HYB.out rfl
      cases q2 with
      | false =>
        obtain rfl : (1 : Int) = P := by rw [← HP.out, HV.out, HS.out]; rfl
        go_wp2_with fail
        refine (HI1.out _).mono ?_
        rintro e w1 ⟨rfl, rfl⟩
        go_wp2_with fail
        refine (HI2.out _).mono ?_
        rintro e w1 ⟨rfl, rfl⟩
        go_wp2_with fail
        go_ret
        exact ⟨rfl, B.out.alloc B.out.size _⟩
      | true =>
        go_wp2_with fail
        refine (HI1.out _).mono ?_
        rintro e w1 ⟨rfl, rfl⟩
        go_wp2_with fail
        refine (HI2.out _).mono ?_
        rintro e w1 ⟨rfl, rfl⟩
        go_wp2_with fail
        go_roundw
        case rel => exact ⟨k + 1, xy, by omega, by go_num, rfl, by omega, hyb.2, hidE (by rw [HV.out, HS.out]; rfl), B.out.alloc B.out.size _⟩
        case measure => simp [intOf]; omega
   ·obtain rfl : k = l.length := by omega
    obtain rfl : (0 : Int) = P := by rw [← HP.out, HV.out, List.drop_length]; rfl
    go_wp2_with fail
    go_ret
    exact ⟨rfl, hb⟩
theorem flatMap_get {α : Type} {k : Nat} {f : α → List Value} (hf : ∀ x, (f x).length = k) : ∀ (l : List α) (i : Nat) (h : i < l.length) (j : Nat), j < k → (l.flatMap f)[i * k + j]? = (f l[i])[j]?
 | [], i, h, _, _ => by simp at h
 | x :: l, 0, h, j, hj => by
   rw [List.flatMap_cons, Nat.zero_mul, Nat.zero_add, List.getElem?_append_left (by rw [hf]; exact hj)]; rfl
 | x :: l, i + 1, h, j, hj => by
   have := flatMap_get hf l i (by simpa using h) j hj
   rw [List.flatMap_cons, List.getElem?_append_right (by rw [hf, Nat.succ_mul]; omega), hf, show (i + 1) * k + j - k = i * k + j from by rw [Nat.succ_mul]; omega, this]
   rfl
theorem append_rec {w : World} {base : Nat} {tS tE : TypeId} {k bytes : Nat} {z : Value} (hu : Tryz.prog.underlying tS = some (.slice tE)) (hinfo : (Tryz.prog.info? tE).map (fun i => (i.zero, i.size, i.bytes)) = some (some z, k, bytes)) (hz : z.cells.size = k) (hk : 0 < k) (hby : bytes ≤ 1000)
 {v : Value} {n : Nat} {cs : List Value} (hown : w.ownsRow base tE k v n cs) {b : Nat} {news : List Value} (hn : news.length = k) (h : w.heap[b]? = some (.cells news.toArray tE (0,0))) (h1 : ∀ u ∈ news, u.oneCell' = true) (hx : n ≤ 100000) (hb : base ≤ w.heap.size) (ty : TypeId) :
 ∃ v' w', (Builtin.append_ #[tS, tS] ty #[v, .slice (some ⟨b, 0, none⟩) 1 1]).run Tryz.prog w = .ok v' w' ∧ w'.ownsRow base tE k v' (n + 1) (cs ++ news) ∧ Below base w w' ∧ (∀ q, q < w.heap.size → v.ownBlock ≠ some q → w'.heap[q]? = w.heap[q]?) := by
 obtain ⟨i0, hi, hz0, hz1, hz2⟩ := info_parts hinfo
 have hnews : ∀ j u, news[j]? = some u → w.cell? ((⟨b, 0, none⟩ : Addr).add j) = some u := by
  intro j u hj
  rw [show ((⟨b, 0, none⟩ : Addr).add j) = ⟨b, 0 + j, none⟩ from by unfold Addr.add; split <;> simp_all]
  rw [cell_of_row _ _ _ _ _ _ h, Nat.zero_add]
  simpa using hj
 have hm : (n + 1) * bytes ≤ 100001 * 1000 := Nat.mul_le_mul (by omega) hby
 obtain ⟨v', w', hrun, h2, h3, _, h5⟩ := run_append_own_at (P := Tryz.prog) w base tS ty tE i0 _ k bytes hu hi hz0 hz1 hz2 hz hk v _ _ hown ⟨b, 0, none⟩ 1 1 news (by rw [hn, Nat.one_mul]) hnews h1 (by unfold maxLen; omega) (by omega) hb
 refine ⟨v', w', hrun, h2, (Below.refl base w).grown h3 hb (fun q e => ?_), fun q hq hne => h3.block q hq (fun e => hne e.symm)⟩
 rcases hown.2 with ⟨e1, _⟩ | ⟨g1, cp', cu, e1, hge, hh, _⟩
 ·rw [e1] at e; simp [Value.ownBlock] at e
 ·rw [e1] at e
  simp only [Value.ownBlock, Option.some.injEq] at e
  omega
theorem recsAt_of_owns {α : Type} {k : Nat} {f : α → List Value} (hf : ∀ x, (f x).length = k) {W : World} {base : Nat} {tE : TypeId} {v : Value} {l : List α} (h : W.ownsRow base tE k v l.length (l.flatMap f)) :
 ∃ o cap, v = .slice o l.length cap ∧ RecsAt k f W o l ∧ l.length ≤ cap ∧ cap ≤ 9223372036854775807 ∧ ∀ q, o = some q → base ≤ q.block := by
 rcases h.2 with ⟨e, h0⟩ | ⟨gb, cp, cur, e, hge, hh, hn, hm, hsz, htk⟩
 ·exact ⟨none, 0, by rw [e, h0], .inl (List.length_eq_zero_iff.1 h0), by omega, by omega, fun q e => by cases e⟩
 ·refine ⟨_, _, e, .inr ⟨gb, 0, rfl, lt_of_block hh, fun i hi j hj => ?_⟩, hn, by unfold maxLen at hm; omega, fun q e => by cases e; exact hge⟩
  rw [cell_of_row _ _ _ _ _ _ hh, Nat.zero_add]
  have hlt : i * k + j < l.length * k := by
   have : (i + 1) * k ≤ l.length * k := Nat.mul_le_mul (by omega) (Nat.le_refl _)
   rw [Nat.succ_mul] at this
   omega
  have h2 : (cur.toList.take (l.length * k))[i * k + j]? = (l.flatMap f)[i * k + j]? := by rw [htk]
  rw [List.getElem?_take_of_lt hlt, flatMap_get hf l i hi j hj] at h2
  rw [← Array.getElem?_toList, h2]
theorem RecsAt.set {α : Type} {k : Nat} {f : α → List Value} {w : World} {o : Option Addr} {l : List α} (h : RecsAt k f w o l) {p : Addr} (hp : ∀ q, o = some q → q.block ≠ p.block) (v : Value) : RecsAt k f (w.setCell p v) o l := by
 rcases h with h | ⟨b, off, e, hl, hc⟩
 ·exact .inl h
 ·refine .inr ⟨b, off, e, by simpa using hl, fun i hi j hj => ?_⟩
  have hne := hp _ e
  rw [World.cell?_setCell_other _ _ _ _ (fun e2 => hne (by rw [e2]))]
  exact hc i hi j hj
theorem info9 : (Tryz.prog.info? 9).map (fun i => (i.zero, i.size, i.bytes)) = some (some (.string ⟨#[]⟩), 1, 16) := by kernel_rfl
end Go.Proofs.YtkhemfnlflbniaaGreatDoor
