/- Merged text 4 of the base: Ff, Fg, Fh, Fi. No conditions beyond those stated. -/
import Derived.Test.YthjmkmjojlfejaaGreatB03
namespace Go.Proofs.YthjmkmjojlfejaaGreat
open Go Go.RowKit Go.Shelf
def Fld.chkC (F : Fld) : Int := if stasTo F.sts F.sts.length = false then 30 else if parsTo F.prs F.prs.length = false then 30 else 0
def Fld.chkB (F : Fld) : Int := if F.sts.any (fun s => !inR s.x 0 100000) then 1 else if F.prs.any (fun p => !parRange F.lms.length F.sts.length p) then 1 else F.chkC
def Fld.chkA (F : Fld) : Int := if F.names.any (fun l => l.any fun s => !isNameB s) then 4 else if F.names.any (fun l => twiceTo l l.length) then 6 else F.chkB
theorem Fld.check_eq (F : Fld) : F.check = if 12 < F.sts.length ∨ 10 < F.lms.length ∨ 40 < F.prs.length then 2 else if F.sts.length < 2 ∨ F.lms.length < 1 then 5 else if checkVrns F.vrs ≠ 0 then checkVrns F.vrs else F.chkA := rfl
theorem idxN0 (a b c : Option Addr) (l m n i j k : Nat) (w : World) : (Instr.index 203 (.agg #[.slice a l i, .slice b m j, .slice c n k]) (.int .i64 0)).run Tryz.prog w = .ok (.slice a l i) w := by kernel_rfl
theorem idxN1 (a b c : Option Addr) (l m n i j k : Nat) (w : World) : (Instr.index 203 (.agg #[.slice a l i, .slice b m j, .slice c n k]) (.int .i64 1)).run Tryz.prog w = .ok (.slice b m j) w := by kernel_rfl
theorem idxN2 (a b c : Option Addr) (l m n i j k : Nat) (w : World) : (Instr.index 203 (.agg #[.slice a l i, .slice b m j, .slice c n k]) (.int .i64 2)).run Tryz.prog w = .ok (.slice c n k) w := by kernel_rfl
theorem stasTo_succ (l : List Sta) (k : Nat) : stasTo l (k + 1) = (stasTo l k && (k == 0 || decide ((l.getD (k - 1) sta0).x < (l.getD k sta0).x))) := by
 unfold stasTo
 rw [List.range_succ, List.all_append]
 simp
theorem stasTo_mono {l : List Sta} {k n : Nat} (h : k ≤ n) (hk : stasTo l k = false) : stasTo l n = false := by
 unfold stasTo at *
 rw [← Bool.not_eq_true, List.all_eq_true] at *
 intro hh
 exact hk fun x hx => hh x (List.mem_range.2 (by have := List.mem_range.1 hx; omega))
theorem parsTo_succ (l : List Par) (k : Nat) : parsTo l (k + 1) = (parsTo l k && (decide ((l.getD k par0).wst < (l.getD k par0).est) && !(l.take k).any (overB (l.getD k par0)))) := by
 unfold parsTo
 rw [List.range_succ, List.all_append]
 simp
theorem parsTo_mono {l : List Par} {k n : Nat} (h : k ≤ n) (hk : parsTo l k = false) : parsTo l n = false := by
 unfold parsTo at *
 rw [← Bool.not_eq_true, List.all_eq_true] at *
 intro hh
 exact hk fun x hx => hh x (List.mem_range.2 (by have := List.mem_range.1 hx; omega))
theorem parRange_small {nL nS : Nat} {p : Par} (h : parRange nL nS p = true) (h1 : nL ≤ 1000) (h2 : nS ≤ 1000) : p.small := by
 unfold parRange inR at h
 simp at h
 unfold Par.small
 omega
set_option maxRecDepth 100000 in
set_option maxHeartbeats 8000000 in
theorem checkField_any (w : World) (x : FV) (F : Fld) (h : FldAt w x F) : Calls Tryz.prog 160 #[x.val F] w fun e w' => e = .returned (.int .i64 F.check) ∧ Below w.heap.size w w' := by
 have H := hidE h
 obtain ⟨Q, hQ⟩ : ∃ Q, F.check = Q := ⟨_, rfl⟩
 rw [hQ]
 rw [Fld.check_eq] at hQ
 obtain ⟨aS, cS, aL, cL, aP, cP, aV, cV⟩ := x
 obtain ⟨st, lm, pr, vr⟩ := F
 unfold FV.val FV.arr
 dsimp only at hQ ⊢
 clear h
 have b0 : Below w.heap.size w (w.alloc (.cells #[.slice aS st.length cS, .slice aL lm.length cL, .slice aP pr.length cP, .slice aV vr.length cV] 46)) := (Below.refl _ _).alloc (Nat.le_refl _) _
 have B0 := hidE b0
 clear b0
 by_cases h2 : 12 < st.length ∨ 10 < lm.length ∨ 40 < pr.length
 ·obtain rfl : (2 : Int) = Q := by rw [if_pos h2] at hQ; exact hQ
  clear hQ H
  go_enter Tryz.func160, Tryz.ntmps160
  go_wp2_with fail
  all_goals first | (exfalso; omega) | (go_ret; exact ⟨rfl, B0.out⟩)
 rw [if_neg h2] at hQ
 have s1 : st.length ≤ 12 := by omega
 have s2 : lm.length ≤ 10 := by omega
 have s3 : pr.length ≤ 40 := by omega
 have d1 : decide ((st.length : Int) > 12) = false := by simp; omega
 have d2 : decide ((lm.length : Int) > 10) = false := by simp; omega
 have d3 : decide ((pr.length : Int) > 40) = false := by simp; omega
 clear h2
 by_cases h5 : st.length < 2 ∨ lm.length < 1
 ·obtain rfl : (5 : Int) = Q := by rw [if_pos h5] at hQ; exact hQ
  clear hQ H
  go_enter Tryz.func160, Tryz.ntmps160
  go_wp2_with fail
  all_goals first | (exfalso; omega) | (go_ret; exact ⟨rfl, B0.out⟩)
 rw [if_neg h5] at hQ
 have s4 : 2 ≤ st.length := by omega
 have s5 : 1 ≤ lm.length := by omega
 have d4 : decide ((st.length : Int) < 2) = false := by simp; omega
 have d5 : decide ((lm.length : Int) < 1) = false := by simp; omega
 clear h5
 have hvr := checkVrns_any (w.alloc (.cells #[.slice aS st.length cS, .slice aL lm.length cL, .slice aP pr.length cP, .slice aV vr.length cV] 46)) aV cV vr (by have := H.out.lv; dsimp only at this; omega) (H.out.vr.alloc _)
 obtain ⟨c, hc⟩ : ∃ c, checkVrns vr = c := ⟨_, rfl⟩
 rw [hc] at hvr hQ
 have HVR := hidE hvr
 clear hvr hc
 by_cases hz : c = 0
 ·subst hz
  have HQ : Hid ((Fld.mk st lm pr vr).chkA = Q) := hidE (by simpa using hQ)
  clear hQ
  have HN := hidE (fun (W : World) (hb : Below w.heap.size w W) => names_any W ⟨aS, cS, aL, cL, aP, cP, aV, cV⟩ ⟨st, lm, pr, vr⟩ (by show st.length ≤ 4000; omega) (by show pr.length ≤ 4000; omega) (H.out.below hb))
  unfold FV.val FV.arr at HN
  dsimp only at HN
  go_enter Tryz.func160, Tryz.ntmps160
  go_wp2_with fail
  refine HVR.out.mono ?_
  rintro e w1 ⟨rfl, hb1⟩
  have x1 := blk_below hb1 (by simp) (heap_alloc_new w (.cells #[.slice aS st.length cS, .slice aL lm.length cL, .slice aP pr.length cP, .slice aV vr.length cV] 46))
  have c0 : w1.cell? ⟨w.heap.size, 0, none⟩ = some (.slice aS st.length cS) := c_e x1 rfl
  have c1 : w1.cell? ⟨w.heap.size, 1, none⟩ = some (.slice aL lm.length cL) := c_e x1 rfl
  have c2 : w1.cell? ⟨w.heap.size, 2, none⟩ = some (.slice aP pr.length cP) := c_e x1 rfl
  have c3 : w1.cell? ⟨w.heap.size, 3, none⟩ = some (.slice aV vr.length cV) := c_e x1 rfl
  have B1 := hidE (B0.out.trans (hb1.mono B0.out.size))
  have X1 := hidE x1
  have l1 := lt_of_block x1
  clear hb1 x1
  go_wp2_with fail
  refine (HN.out _ B1.out).mono ?_
  rintro e w2 ⟨⟨p0, q0, p2, q2, rfl, n0, m0, n2, m2⟩, hb2⟩
  dsimp only at n0 m0 n2 m2
  have x2 := blk_below hb2 l1 X1.out
  have B2 := hidE (B1.out.trans (hb2.mono B1.out.size))
  have X2 := hidE x2
  have l2 := lt_of_block x2
  have HCF0 := hidE (fun (W : World) (hb : Below w2.heap.size w2 W) => containsFuncStrs_any W p0 q0 (st.map Sta.name) 204 #[] (fun s => !isNameB s) (by rw [List.length_map]; omega) (n0.below hb (Nat.le_refl _)) (fun k hk W' _ => (isNot_any _ W' (H.out.nm (st.map Sta.name) (by simp [Fld.names]) _ (List.getElem_mem hk))).mono fun _ _ ⟨he, hw⟩ => ⟨he, hw ▸ Below.refl _ _⟩) (enters_of Tryz.func204 (by kernel_rfl) rfl))
  have HCF1 := hidE (fun (W : World) (hb : Below w2.heap.size w2 W) => containsFuncStrs_any W aL cL lm 204 #[] (fun s => !isNameB s) (by omega) (H.out.lm.below (B2.out.trans (hb.mono B2.out.size)) (Nat.le_refl _)) (fun k hk W' _ => (isNot_any _ W' (H.out.nm lm (by simp [Fld.names]) _ (List.getElem_mem hk))).mono fun _ _ ⟨he, hw⟩ => ⟨he, hw ▸ Below.refl _ _⟩) (enters_of Tryz.func204 (by kernel_rfl) rfl))
  have HCF2 := hidE (fun (W : World) (hb : Below w2.heap.size w2 W) => containsFuncStrs_any W p2 q2 (pr.map Par.name) 204 #[] (fun s => !isNameB s) (by rw [List.length_map]; omega) (n2.below hb (Nat.le_refl _)) (fun k hk W' _ => (isNot_any _ W' (H.out.nm (pr.map Par.name) (by simp [Fld.names]) _ (List.getElem_mem hk))).mono fun _ _ ⟨he, hw⟩ => ⟨he, hw ▸ Below.refl _ _⟩) (enters_of Tryz.func204 (by kernel_rfl) rfl))
  rw [List.length_map] at HCF0 HCF2
  obtain ⟨r0, hr0⟩ : ∃ r, ((st.map Sta.name).any fun s => !isNameB s) = r := ⟨_, rfl⟩
  obtain ⟨r1, hr1⟩ : ∃ r, (lm.any fun s => !isNameB s) = r := ⟨_, rfl⟩
  obtain ⟨r2, hr2⟩ : ∃ r, ((pr.map Par.name).any fun s => !isNameB s) = r := ⟨_, rfl⟩
  rw [hr0] at HCF0
  rw [hr1] at HCF1
  rw [hr2] at HCF2
  have HR := hidE (show ((Fld.mk st lm pr vr).names.any fun l => l.any fun s => !isNameB s) = (r0 || (r1 || r2)) by simp only [Fld.names, List.any_cons, List.any_nil, hr0, hr1, hr2, Bool.or_false])
  have B2s := hidE (Below.refl w2.heap.size w2)
  clear hb2 x2 n0 m0 n2 m2 hr0 hr1 hr2 c0 c1 c2 c3 d1 d2 d3 d4 d5
  go_wp2_with fail
  go_loopw [52] (fun i wr => ∃ k : Nat, k ≤ 3 ∧ i = .int .i64 k ∧ Hid (0 < k → r0 = false) ∧ Hid (1 < k → r1 = false) ∧ Hid (2 < k → r2 = false) ∧ Below w2.heap.size w2 wr) (fun i _ => 3 - (intOf i).toNat)
  case atStart => exact ⟨0, by omega, rfl, hidE (fun h => absurd h (by omega)), hidE (fun h => absurd h (by omega)), hidE (fun h => absurd h (by omega)), Below.refl _ _⟩
  case round =>
   obtain ⟨k, hk, rfl, k0, k1, k2, hb⟩ := hrel
   have hk4 : k = 0 ∨ k = 1 ∨ k = 2 ∨ k = 3 := by omega
   rcases hk4 with rfl | rfl | rfl | rfl
   ·have hix := idxN0 p0 aL p2 st.length lm.length pr.length q0 cL q2
    cases r0 with
    | true =>
      obtain rfl : (4 : Int) = Q := by rw [← HQ.out]; unfold Fld.chkA; rw [HR.out]; simp
      go_wp2_with fail
      refine (HCF0.out _ hb).mono ?_
      rintro e w3 ⟨rfl, hb3⟩
      go_wp2_with fail
      go_ret
      exact ⟨rfl, B2.out.trans ((hb.trans (hb3.mono hb.size)).mono B2.out.size)⟩
    | false =>
      go_wp2_with fail
      refine (HCF0.out _ hb).mono ?_
      rintro e w3 ⟨rfl, hb3⟩
      go_wp2_with fail
      go_roundw
      case rel => exact ⟨1, by omega, (by first | trivial | rfl), (by first | exact hidE (fun _ => rfl) | trivial | exact hidE (fun _ => trivial)), hidE (fun h => absurd h (by omega)), hidE (fun h => absurd h (by omega)), hb.trans (hb3.mono hb.size)⟩
      case measure => simp [intOf]
   ·have hix := idxN1 p0 aL p2 st.length lm.length pr.length q0 cL q2
    cases r1 with
    | true =>
      obtain rfl : (4 : Int) = Q := by rw [← HQ.out]; unfold Fld.chkA; rw [HR.out]; simp
      go_wp2_with fail
      refine (HCF1.out _ hb).mono ?_
      rintro e w3 ⟨rfl, hb3⟩
      go_wp2_with fail
      go_ret
      exact ⟨rfl, B2.out.trans ((hb.trans (hb3.mono hb.size)).mono B2.out.size)⟩
    | false =>
      go_wp2_with fail
      refine (HCF1.out _ hb).mono ?_
      rintro e w3 ⟨rfl, hb3⟩
      go_wp2_with fail
      go_roundw
      case rel => exact ⟨2, by omega, (by first | trivial | rfl), hidE (fun _ => k0.out (by omega)), (by first | exact hidE (fun _ => rfl) | trivial | exact hidE (fun _ => trivial)), hidE (fun h => absurd h (by omega)), hb.trans (hb3.mono hb.size)⟩
      case measure => simp [intOf]
   ·have hix := idxN2 p0 aL p2 st.length lm.length pr.length q0 cL q2
    cases r2 with
    | true =>
      obtain rfl : (4 : Int) = Q := by rw [← HQ.out]; unfold Fld.chkA; rw [HR.out]; simp
      go_wp2_with fail
      refine (HCF2.out _ hb).mono ?_
      rintro e w3 ⟨rfl, hb3⟩
      go_wp2_with fail
      go_ret
      exact ⟨rfl, B2.out.trans ((hb.trans (hb3.mono hb.size)).mono B2.out.size)⟩
    | false =>
      go_wp2_with fail
      refine (HCF2.out _ hb).mono ?_
      rintro e w3 ⟨rfl, hb3⟩
      go_wp2_with fail
      go_roundw
      case rel => exact ⟨3, by omega, (by first | trivial | rfl), hidE (fun _ => k0.out (by omega)), hidE (fun _ => k1.out (by omega)), (by first | exact hidE (fun _ => rfl) | trivial | exact hidE (fun _ => trivial)), hb.trans (hb3.mono hb.size)⟩
      case measure => simp [intOf]
   ·have hn : ((Fld.mk st lm pr vr).names.any fun l => l.any fun s => !isNameB s) = false := by rw [HR.out, k0.out (by omega), k1.out (by omega), k2.out (by omega)]; rfl
    have HQ2 : Hid ((if (Fld.mk st lm pr vr).names.any (fun l => twiceTo l l.length) then 6 else (Fld.mk st lm pr vr).chkB) = Q) := hidE (by rw [← HQ.out]; unfold Fld.chkA; rw [hn]; rfl)
    have B3 := hidE (B2.out.trans (hb.mono B2.out.size))
    have x3 := blk_below hb l2 X2.out
    have c0 : wr.cell? ⟨w.heap.size, 0, none⟩ = some (.slice aS st.length cS) := c_e x3 rfl
    have c1 : wr.cell? ⟨w.heap.size, 1, none⟩ = some (.slice aL lm.length cL) := c_e x3 rfl
    have c2 : wr.cell? ⟨w.heap.size, 2, none⟩ = some (.slice aP pr.length cP) := c_e x3 rfl
    have c3 : wr.cell? ⟨w.heap.size, 3, none⟩ = some (.slice aV vr.length cV) := c_e x3 rfl
    have X3 := hidE x3
    have l3 := lt_of_block x3
    obtain ⟨w3, rfl⟩ : ∃ X : World, X = wr := ⟨wr, rfl⟩
    clear hn HQ HR HCF0 HCF1 HCF2 k0 k1 k2 hb x3 B2s
    go_wp2_with fail
    refine (HN.out _ B3.out).mono ?_
    rintro e w4 ⟨⟨p4, q4, p6, q6, rfl, n0, m0, n2, m2⟩, hb4⟩
    dsimp only at n0 m0 n2 m2
    have x4 := blk_below hb4 l3 X3.out
    have B4 := hidE (B3.out.trans (hb4.mono B3.out.size))
    have X4 := hidE x4
    have l4 := lt_of_block x4
    have HTW0 := hidE (twice_any w4 p4 q4 (st.map Sta.name) (by rw [List.length_map]; exact m0.1) m0.2 n0)
    have HTW1 := hidE (twice_any w4 aL cL lm H.out.ll.1 H.out.ll.2 (H.out.lm.below B4.out (Nat.le_refl _)))
    have HTW2 := hidE (twice_any w4 p6 q6 (pr.map Par.name) (by rw [List.length_map]; exact m2.1) m2.2 n2)
    obtain ⟨t0, ht0⟩ : ∃ r, twiceTo (st.map Sta.name) (st.map Sta.name).length = r := ⟨_, rfl⟩
    obtain ⟨t1, ht1⟩ : ∃ r, twiceTo lm lm.length = r := ⟨_, rfl⟩
    obtain ⟨t2, ht2⟩ : ∃ r, twiceTo (pr.map Par.name) (pr.map Par.name).length = r := ⟨_, rfl⟩
    have HR := hidE (show ((Fld.mk st lm pr vr).names.any fun l => twiceTo l l.length) = (t0 || (t1 || t2)) by simp only [Fld.names, List.any_cons, List.any_nil, ht0, ht1, ht2, Bool.or_false])
    rw [ht0] at HTW0
    rw [ht1] at HTW1
    rw [ht2] at HTW2
    rw [List.length_map] at HTW0 HTW2
    clear hb4 x4 n0 m0 n2 m2 ht0 ht1 ht2 c0 c1 c2 c3
    go_wp2_with fail
    go_loopw [60] (fun i wr => ∃ k : Nat, k ≤ 3 ∧ i = .int .i64 k ∧ Hid (0 < k → t0 = false) ∧ Hid (1 < k → t1 = false) ∧ Hid (2 < k → t2 = false) ∧ wr = w4) (fun i _ => 3 - (intOf i).toNat)
    case atStart => exact ⟨0, by omega, rfl, hidE (fun h => absurd h (by omega)), hidE (fun h => absurd h (by omega)), hidE (fun h => absurd h (by omega)), rfl⟩
    case round =>
     obtain ⟨k, hk, rfl, k0, k1, k2, rfl⟩ := hrel
     obtain ⟨w4, rfl⟩ : ∃ X : World, X = wr := ⟨wr, rfl⟩
     have hk4 : k = 0 ∨ k = 1 ∨ k = 2 ∨ k = 3 := by omega
     rcases hk4 with rfl | rfl | rfl | rfl
     ·have hix := idxN0 p4 aL p6 st.length lm.length pr.length q4 cL q6
      cases t0 with
      | true =>
        obtain rfl : (6 : Int) = Q := by rw [← HQ2.out, HR.out]; simp
        go_wp2_with fail
        refine HTW0.out.mono ?_
        rintro e w5 ⟨rfl, rfl⟩
        go_wp2_with fail
        go_ret
        exact ⟨rfl, B4.out⟩
      | false =>
        go_wp2_with fail
        refine HTW0.out.mono ?_
        rintro e w5 ⟨rfl, rfl⟩
        go_wp2_with fail
        go_roundw
        case rel => exact ⟨1, by omega, (by first | trivial | rfl), (by first | exact hidE (fun _ => rfl) | trivial | exact hidE (fun _ => trivial)), hidE (fun h => absurd h (by omega)), hidE (fun h => absurd h (by omega)), (by first | trivial | rfl)⟩
        case measure => simp [intOf]
     ·have hix := idxN1 p4 aL p6 st.length lm.length pr.length q4 cL q6
      cases t1 with
      | true =>
        obtain rfl : (6 : Int) = Q := by rw [← HQ2.out, HR.out]; simp
        go_wp2_with fail
        refine HTW1.out.mono ?_
        rintro e w5 ⟨rfl, rfl⟩
        go_wp2_with fail
        go_ret
        exact ⟨rfl, B4.out⟩
      | false =>
        go_wp2_with fail
        refine HTW1.out.mono ?_
        rintro e w5 ⟨rfl, rfl⟩
        go_wp2_with fail
        go_roundw
        case rel => exact ⟨2, by omega, (by first | trivial | rfl), hidE (fun _ => k0.out (by omega)), (by first | exact hidE (fun _ => rfl) | trivial | exact hidE (fun _ => trivial)), hidE (fun h => absurd h (by omega)), (by first | trivial | rfl)⟩
        case measure => simp [intOf]
     ·have hix := idxN2 p4 aL p6 st.length lm.length pr.length q4 cL q6
      cases t2 with
      | true =>
        obtain rfl : (6 : Int) = Q := by rw [← HQ2.out, HR.out]; simp
        go_wp2_with fail
        refine HTW2.out.mono ?_
        rintro e w5 ⟨rfl, rfl⟩
        go_wp2_with fail
        go_ret
        exact ⟨rfl, B4.out⟩
      | false =>
        go_wp2_with fail
        refine HTW2.out.mono ?_
        rintro e w5 ⟨rfl, rfl⟩
        go_wp2_with fail
        go_roundw
        case rel => exact ⟨3, by omega, (by first | trivial | rfl), hidE (fun _ => k0.out (by omega)), hidE (fun _ => k1.out (by omega)), (by first | exact hidE (fun _ => rfl) | trivial | exact hidE (fun _ => trivial)), (by first | trivial | rfl)⟩
        case measure => simp [intOf]
     ·have hn : ((Fld.mk st lm pr vr).names.any fun l => twiceTo l l.length) = false := by rw [HR.out, k0.out (by omega), k1.out (by omega), k2.out (by omega)]; rfl
      have HQ3 : Hid ((Fld.mk st lm pr vr).chkB = Q) := hidE (by rw [← HQ2.out, hn]; rfl)
      have c0 : w4.cell? ⟨w.heap.size, 0, none⟩ = some (.slice aS st.length cS) := c_e X4.out rfl
      have c1 : w4.cell? ⟨w.heap.size, 1, none⟩ = some (.slice aL lm.length cL) := c_e X4.out rfl
      have c2 : w4.cell? ⟨w.heap.size, 2, none⟩ = some (.slice aP pr.length cP) := c_e X4.out rfl
      have c3 : w4.cell? ⟨w.heap.size, 3, none⟩ = some (.slice aV vr.length cV) := c_e X4.out rfl
      clear hn HQ2 HR HTW0 HTW1 HTW2 k0 k1 k2
      go_wp2_with fail
      go_loopw [69] (fun i wr => ∃ k : Nat, k ≤ st.length ∧ i = .int .i64 k ∧ Hid ((st.take k).any (fun s => !inR s.x 0 100000) = false) ∧ Below w4.heap.size w4 wr) (fun i _ => st.length - (intOf i).toNat)
      case atStart => exact ⟨0, by omega, rfl, hidE rfl, Below.refl _ _⟩
      case round =>
       obtain ⟨k, hk, rfl, HA, hb⟩ := hrel
       by_cases hlt : k < st.length
       ·obtain ⟨b, off, rfl, hbl, hcc⟩ := RecsAt.at H.out.st hlt
        have e0 := hcc 0 (by omega)
        have e1 := hcc 1 (by omega)
        rw [← (B4.out.trans (hb.mono B4.out.size)).cell hbl, Nat.add_zero] at e0
        rw [← (B4.out.trans (hb.mono B4.out.size)).cell hbl] at e1
        obtain ⟨y, hy⟩ : ∃ y, st[k] = y := ⟨_, rfl⟩
        dsimp only at e0 e1
        rw [hy] at e0 e1
        simp only [Sta.cells, List.getElem?_cons_zero, List.getElem?_cons_succ] at e0 e1
        have HY := hidE hy
        have BB := hidE hb
        have BW := hidE (B4.out.trans (hb.mono B4.out.size))
        have hsz := BB.out.size
        clear hy hcc hb c0 c1 c2 c3
        cases hi : inR y.x 0 100000 with
        | false =>
          obtain rfl : (1 : Int) = Q := by
           rw [← HQ3.out]; unfold Fld.chkB
           rw [if_pos (any_of_at (l := st) (p := fun s => !inR s.x 0 100000) hlt (by rw [HY.out, hi]; rfl))]
          have HI := hidE (fun W => inD_at hi W)
          clear hi
          go_wp2_with fail
          refine (HI.out _).mono ?_
          rintro e w5 ⟨rfl, rfl⟩
          go_wp2_with fail
          go_ret
          exact ⟨rfl, BW.out.alloc BW.out.size _⟩
        | true =>
          have HI := hidE (fun W => inD_at hi W)
          have HA2 := hidE (take_any_succ (p := fun s : Sta => !inR s.x 0 100000) hlt HA.out (by rw [HY.out, hi]; rfl))
          clear hi
          go_wp2_with fail
          refine (HI.out _).mono ?_
          rintro e w5 ⟨rfl, rfl⟩
          go_wp2_with fail
          go_roundw
          case rel => first | exact ⟨k + 1, by omega, by go_num, HA2, BB.out.alloc hsz _⟩ | ((repeat apply Exists.intro); exact ⟨⟨k + 1, by omega, by go_num, HA2, BB.out.alloc hsz _⟩, rfl⟩)
          case measure => simp [intOf]; omega
       ·obtain rfl : k = st.length := by omega
        have hn := any_of_take (Nat.le_refl _) HA.out
        have HQ4 : Hid ((if pr.any (fun p => !parRange lm.length st.length p) then 1 else (Fld.mk st lm pr vr).chkC) = Q) := hidE (by have h3 := HQ3.out; unfold Fld.chkB at h3; dsimp only at h3; rw [hn, if_neg (by simp)] at h3; exact h3)
        have B5 := hidE (B4.out.trans (hb.mono B4.out.size))
        have x5 := blk_below hb l4 X4.out
        have X5 := hidE x5
        have l5 := lt_of_block x5
        obtain ⟨w5, rfl⟩ : ∃ X : World, X = wr := ⟨wr, rfl⟩
        clear hn HQ3 HA c0 c1 c2 c3
        have c0 : w5.cell? ⟨w.heap.size, 0, none⟩ = some (.slice aS st.length cS) := c_e x5 rfl
        have c1 : w5.cell? ⟨w.heap.size, 1, none⟩ = some (.slice aL lm.length cL) := c_e x5 rfl
        have c2 : w5.cell? ⟨w.heap.size, 2, none⟩ = some (.slice aP pr.length cP) := c_e x5 rfl
        have c3 : w5.cell? ⟨w.heap.size, 3, none⟩ = some (.slice aV vr.length cV) := c_e x5 rfl
        clear x5 hb
        go_wp2_with fail
        go_loopw [81] (fun i wr => ∃ k : Nat, k ≤ pr.length ∧ i = .int .i64 k ∧ Hid ((pr.take k).any (fun p : Par => !parRange lm.length st.length p) = false) ∧ Below w5.heap.size w5 wr) (fun i _ => pr.length - (intOf i).toNat)
        case atStart => exact ⟨0, by omega, rfl, hidE rfl, Below.refl _ _⟩
        case round =>
         obtain ⟨k, hk, rfl, HA, hb⟩ := hrel
         by_cases hlt : k < pr.length
         ·obtain ⟨b, off, rfl, hbl, hcc⟩ := RecsAt.at H.out.pr hlt
          have e0 := hcc 0 (by omega)
          have e1 := hcc 1 (by omega)
          have e2 := hcc 2 (by omega)
          have e3 := hcc 3 (by omega)
          rw [← (B5.out.trans (hb.mono B5.out.size)).cell hbl, Nat.add_zero] at e0
          rw [← (B5.out.trans (hb.mono B5.out.size)).cell hbl] at e1 e2 e3
          obtain ⟨y, hy⟩ : ∃ y, pr[k] = y := ⟨_, rfl⟩
          dsimp only at e0 e1 e2 e3
          rw [hy] at e0 e1 e2 e3
          simp only [Par.cells, List.getElem?_cons_zero, List.getElem?_cons_succ] at e0 e1 e2 e3
          have HY := hidE hy
          have BB := hidE hb
          have BW := hidE (B5.out.trans (hb.mono B5.out.size))
          have hsz := BB.out.size
          have xr := blk_below hb l5 X5.out
          have lr := lt_of_block xr
          clear hy hcc hb c0 c1 c2 c3
          have g0 : wr.cell? ⟨w.heap.size, 0, none⟩ = some (.slice aS st.length cS) := c_e xr rfl
          have g1 : wr.cell? ⟨w.heap.size, 1, none⟩ = some (.slice aL lm.length cL) := c_e xr rfl
          have g2 : wr.cell? ⟨w.heap.size, 2, none⟩ = some (.slice (some ⟨b, off, none⟩) pr.length cP) := c_e xr rfl
          have g3 : wr.cell? ⟨w.heap.size, 3, none⟩ = some (.slice aV vr.length cV) := c_e xr rfl
          have HPR : Hid (parRange lm.length st.length y = (inR y.south 0 ((lm.length : Int) - 2) && inR y.wst 0 ((st.length : Int) - 1) && inR y.est 0 ((st.length : Int) - 1))) := hidE rfl
          clear xr
          obtain ⟨ys, y0, y1, y2⟩ := y
          dsimp only at e0 e1 e2 e3 HPR
          cases hi1 : inR y0 0 ((lm.length : Int) - 2) with
          | false =>
            obtain rfl : (1 : Int) = Q := by
             rw [← HQ4.out, if_pos (any_of_at (l := pr) (p := fun p : Par => !parRange lm.length st.length p) hlt (by rw [HY.out, HPR.out, hi1]; rfl))]
            have HI1 := hidE (fun W => inD_at hi1 W)
            clear hi1
            go_wp2_with fail
            refine (HI1.out _).mono ?_
            rintro e w6 ⟨rfl, rfl⟩
            go_wp2_with fail
            go_ret
            exact ⟨rfl, BW.out.alloc BW.out.size _⟩
          | true =>
            have HI1 := hidE (fun W => inD_at hi1 W)
            cases hi2 : inR y1 0 ((st.length : Int) - 1) with
            | false =>
              obtain rfl : (1 : Int) = Q := by
               rw [← HQ4.out, if_pos (any_of_at (l := pr) (p := fun p : Par => !parRange lm.length st.length p) hlt (by rw [HY.out, HPR.out, hi1, hi2]; rfl))]
              have HI2 := hidE (fun W => inD_at hi2 W)
              clear hi1 hi2
              go_wp2_with fail
              refine (HI1.out _).mono ?_
              rintro e w6 ⟨rfl, rfl⟩
              go_wp2_with fail
              refine (HI2.out _).mono ?_
              rintro e w6 ⟨rfl, rfl⟩
              go_wp2_with fail
              go_ret
              exact ⟨rfl, BW.out.alloc BW.out.size _⟩
            | true =>
              have HI2 := hidE (fun W => inD_at hi2 W)
              cases hi3 : inR y2 0 ((st.length : Int) - 1) with
              | false =>
                obtain rfl : (1 : Int) = Q := by
                 rw [← HQ4.out, if_pos (any_of_at (l := pr) (p := fun p : Par => !parRange lm.length st.length p) hlt (by rw [HY.out, HPR.out, hi1, hi2, hi3]; rfl))]
                have HI3 := hidE (fun W => inD_at hi3 W)
                clear hi1 hi2 hi3
                go_wp2_with fail
                refine (HI1.out _).mono ?_
                rintro e w6 ⟨rfl, rfl⟩
                go_wp2_with fail
                refine (HI2.out _).mono ?_
                rintro e w6 ⟨rfl, rfl⟩
                go_wp2_with fail
                refine (HI3.out _).mono ?_
                rintro e w6 ⟨rfl, rfl⟩
                go_wp2_with fail
                go_ret
                exact ⟨rfl, BW.out.alloc BW.out.size _⟩
              | true =>
                have HI3 := hidE (fun W => inD_at hi3 W)
                have HA2 := hidE (take_any_succ (p := fun p : Par => !parRange lm.length st.length p) hlt HA.out (by rw [HY.out, HPR.out, hi1, hi2, hi3]; rfl))
                clear hi1 hi2 hi3
                go_wp2_with fail
                refine (HI1.out _).mono ?_
                rintro e w6 ⟨rfl, rfl⟩
                go_wp2_with fail
                refine (HI2.out _).mono ?_
                rintro e w6 ⟨rfl, rfl⟩
                go_wp2_with fail
                refine (HI3.out _).mono ?_
                rintro e w6 ⟨rfl, rfl⟩
                go_wp2_with fail
                go_roundw
                case rel => first | exact ⟨k + 1, by omega, by go_num, HA2, BB.out.alloc hsz _⟩ | ((repeat apply Exists.intro); exact ⟨⟨k + 1, by omega, by go_num, HA2, BB.out.alloc hsz _⟩, rfl⟩)
                case measure => simp [intOf]; omega
         ·obtain rfl : k = pr.length := by omega
          have hn := any_of_take (Nat.le_refl _) HA.out
          have HSM := hidE (fun p (hp : p ∈ pr) => parRange_small (nL := lm.length) (nS := st.length) (p := p) (by have := hn; rw [List.any_eq_false] at this; simpa using this p hp) (by omega) (by omega))
          have HQ5 : Hid ((Fld.mk st lm pr vr).chkC = Q) := hidE (by have h3 := HQ4.out; rw [hn, if_neg (by simp)] at h3; exact h3)
          have B6 := hidE (B5.out.trans (hb.mono B5.out.size))
          have x6 := blk_below hb l5 X5.out
          have X6 := hidE x6
          have l6 := lt_of_block x6
          obtain ⟨w6, rfl⟩ : ∃ X : World, X = wr := ⟨wr, rfl⟩
          clear hn HQ4 HA c0 c1 c2 c3
          clear x6 hb
          go_wp2_with fail
          go_loopw [12] (fun i wr => ∃ k nd : Nat, 1 ≤ k ∧ k ≤ st.length ∧ i = .int .i64 k ∧ Hid (stasTo st k = true) ∧ wr = w6.drewN nd) (fun i _ => st.length - (intOf i).toNat)
          case atStart => exact ⟨1, 0, by omega, by omega, rfl, hidE (by simp [stasTo, List.range_succ]), rfl⟩
          case round =>
           obtain ⟨k, nd, hk1, hk, rfl, HA, rfl⟩ := hrel
           have c0 : w6.cell? ⟨w.heap.size, 0, none⟩ = some (.slice aS st.length cS) := c_e X6.out rfl
           have c1 : w6.cell? ⟨w.heap.size, 1, none⟩ = some (.slice aL lm.length cL) := c_e X6.out rfl
           have c2 : w6.cell? ⟨w.heap.size, 2, none⟩ = some (.slice aP pr.length cP) := c_e X6.out rfl
           have c3 : w6.cell? ⟨w.heap.size, 3, none⟩ = some (.slice aV vr.length cV) := c_e X6.out rfl
           by_cases hlt : k < st.length
           ·obtain ⟨b, off, rfl, hbl, hcc⟩ := RecsAt.at H.out.st hlt
            have e1 := hcc 1 (by omega)
            obtain ⟨b', off', eq', _, hcc'⟩ := RecsAt.at H.out.st (show k - 1 < st.length by omega)
            cases eq'
            have f1 := hcc' 1 (by omega)
            rw [← B6.out.cell hbl] at e1 f1
            dsimp only at e1 f1
            simp only [Sta.cells, List.getElem?_cons_zero, List.getElem?_cons_succ] at e1 f1
            have HSUC := hidE (stasTo_succ st k)
            rw [show (st.getD (k - 1) sta0) = st[k - 1] from by simp [show k - 1 < st.length by omega], show st.getD k sta0 = st[k] from by simp [hlt]] at HSUC
            obtain ⟨u, hu⟩ : ∃ u, st[k - 1].x = u := ⟨_, rfl⟩
            obtain ⟨v, hv⟩ : ∃ v, st[k].x = v := ⟨_, rfl⟩
            rw [hu] at f1 HSUC
            rw [hv] at e1 HSUC
            obtain ⟨j, rfl⟩ : ∃ j, k = j + 1 := ⟨k - 1, by omega⟩
            simp only [Nat.add_sub_cancel] at f1
            have hj1 : (((j + 1 : Nat) : Int) - 1) = (j : Int) := by omega
            have hjw : IntKind.i64.wrap (j : Int) = (j : Int) := IntWalk.i64_in _ (by omega)
            have hdl : decide (((j + 1 : Nat) : Int) < (st.length : Int)) = true := by simp; omega
            have hjl : j < st.length := by omega
            clear hu hv hcc hcc'
            by_cases huv : u < v
            ·have hd : decide (u ≥ v) = false := by simp; omega
             have HS : Hid (stasTo st (j + 1 + 1) = true) := hidE (by rw [HSUC.out, HA.out]; simp [huv])
             clear huv
             go_wp2_with fail
             go_quiet (fail)
             go_wp2_with fail
             go_roundw
             case rel => exact ⟨j + 1 + 1, _, by omega, by omega, by go_num, HS, rfl⟩
             case measure => simp [intOf]; omega
            ·have hd : decide (u ≥ v) = true := by simp; omega
             obtain rfl : (30 : Int) = Q := by
              rw [← HQ5.out]; unfold Fld.chkC
              rw [if_pos (stasTo_mono (n := st.length) (k := j + 1 + 1) (by omega) (by rw [HSUC.out]; simp [huv]))]
             clear huv
             go_wp2_with fail
             go_quiet (fail)
             go_wp2_with fail
             go_ret
             exact ⟨rfl, (B6.out.trans (below_drewN' _ _)).trans (below_drewN' _ _)⟩
           ·obtain rfl : k = st.length := by omega
            have HQ6 : Hid ((if parsTo pr pr.length = false then 30 else 0) = Q) := hidE (by have h3 := HQ5.out; unfold Fld.chkC at h3; dsimp only at h3; rw [HA.out, if_neg (by simp)] at h3; exact h3)
            have hdl : decide ((st.length : Int) < (st.length : Int)) = false := by simp
            clear HQ5 HA
            go_wp2_with fail
            clear c0 c1 c2 c3
            obtain ⟨w7, hw7⟩ : ∃ X : World, X = w6.drewN nd := ⟨_, rfl⟩
            rw [← hw7]
            have B7 := hidE (show Below w.heap.size w w7 by rw [hw7]; exact B6.out.trans (below_drewN' _ _))
            have X7 := hidE (show w7.heap[w.heap.size]? = some (.cells #[.slice aS st.length cS, .slice aL lm.length cL, .slice aP pr.length cP, .slice aV vr.length cV] 46 (0,0)) by rw [hw7]; exact X6.out)
            have l7 := lt_of_block X7.out
            clear hw7
            go_loopw [138] (fun i wr => ∃ k : Nat, k ≤ pr.length ∧ i = .int .i64 k ∧ Hid (parsTo pr k = true) ∧ Below w7.heap.size w7 wr) (fun i _ => pr.length - (intOf i).toNat)
            case atStart => exact ⟨0, by omega, rfl, hidE rfl, Below.refl _ _⟩
            case round =>
             obtain ⟨k, hk, rfl, HA, hb⟩ := hrel
             by_cases hlt : k < pr.length
             ·obtain ⟨b, off, rfl, hbl, hcc⟩ := RecsAt.at H.out.pr hlt
              have e0 := hcc 0 (by omega)
              have e1 := hcc 1 (by omega)
              have e2 := hcc 2 (by omega)
              have e3 := hcc 3 (by omega)
              rw [← (B7.out.trans (hb.mono B7.out.size)).cell hbl, Nat.add_zero] at e0
              rw [← (B7.out.trans (hb.mono B7.out.size)).cell hbl] at e1 e2 e3
              obtain ⟨y, hy⟩ : ∃ y, pr[k] = y := ⟨_, rfl⟩
              dsimp only at e0 e1 e2 e3
              rw [hy] at e0 e1 e2 e3
              simp only [Par.cells, List.getElem?_cons_zero, List.getElem?_cons_succ] at e0 e1 e2 e3
              have HSUC := hidE (parsTo_succ pr k)
              rw [show pr.getD k par0 = y from by rw [← hy]; simp [hlt]] at HSUC
              have HYS := hidE (HSM.out y (by rw [← hy]; exact List.getElem_mem hlt))
              have HY := hidE hy
              have BB := hidE hb
              have BW := hidE (B7.out.trans (hb.mono B7.out.size))
              have hsz := BB.out.size
              have xr := blk_below hb l7 X7.out
              have lr := lt_of_block xr
              have lr2 : w.heap.size < wr.heap.size + 1 := by omega
              clear hy hcc hb
              have g0 : wr.cell? ⟨w.heap.size, 0, none⟩ = some (.slice aS st.length cS) := c_e xr rfl
              have g1 : wr.cell? ⟨w.heap.size, 1, none⟩ = some (.slice aL lm.length cL) := c_e xr rfl
              have g2 : wr.cell? ⟨w.heap.size, 2, none⟩ = some (.slice (some ⟨b, off, none⟩) pr.length cP) := c_e xr rfl
              have g3 : wr.cell? ⟨w.heap.size, 3, none⟩ = some (.slice aV vr.length cV) := c_e xr rfl
              clear xr
              have hkc : k ≤ cP := by have := H.out.lp.1; dsimp only at this; omega
              have hkd : decide (k ≤ cP) = true := by simpa using hkc
              have HCF := hidE (containsFuncPars_any (wr.alloc (.cells #[.string y.name, .int .i64 y.south, .int .i64 y.wst, .int .i64 y.est] 53)) (some ⟨b, off, none⟩) cP (pr.take k) 208 #[.pointer (some ⟨wr.heap.size, 0, none⟩)] (overB y) (by simp; omega)
               (.inr ⟨b, off, rfl, by have := BW.out.size; simp; omega, fun i hi j hj => by
                have hi2 : i < pr.length := by simp at hi; omega
                obtain ⟨b', off', eq', _, hcc'⟩ := RecsAt.at H.out.pr hi2
                cases eq'
                rw [(BW.out.alloc BW.out.size _).cell hbl, hcc' j hj]
                simp⟩)
               (fun i hi W hW => by
                have hi2 : i < pr.length := by simp at hi; omega
                have hv : (pr.take k)[i] = pr[i] := by simp
                rw [hv]
                exact over_any y pr[i] W wr.heap.size HYS.out (HSM.out _ (List.getElem_mem hi2)) (blk_below hW (by simp) (heap_alloc_new wr _))) (enters_of Tryz.func208 (by kernel_rfl) rfl))
              have htl : (pr.take k).length = k := by simp; omega
              rw [htl] at HCF
              obtain ⟨q, hq⟩ : ∃ q, (pr.take k).any (overB y) = q := ⟨_, rfl⟩
              rw [hq] at HCF HSUC
              obtain ⟨yn, y0, y1, y2⟩ := y
              dsimp only at e0 e1 e2 e3 HCF HSUC
              clear hq htl
              by_cases hge : y1 < y2
              ·have hd : decide (y1 ≥ y2) = false := by simp; omega
               have hd2 : decide (y1 < y2) = true := by simpa using hge
               cases q with
               | true =>
                 obtain rfl : (30 : Int) = Q := by rw [← HQ6.out, if_pos (parsTo_mono (k := k + 1) (by omega) (by rw [HSUC.out]; simp))]
                 clear hge
                 go_wp2_with fail
                 refine HCF.out.mono ?_
                 rintro e w8 ⟨rfl, hb8⟩
                 go_wp2_with fail
                 go_ret
                 exact ⟨rfl, (BW.out.alloc BW.out.size _).trans (hb8.mono (by have := BW.out.size; simp; omega))⟩
               | false =>
                 have HA2 : Hid (parsTo pr (k + 1) = true) := hidE (by rw [HSUC.out, HA.out, hd2]; rfl)
                 clear hge
                 go_wp2_with fail
                 refine HCF.out.mono ?_
                 rintro e w8 ⟨rfl, hb8⟩
                 go_wp2_with fail
                 go_roundw
                 case rel => first | exact ⟨k + 1, by omega, by go_num, HA2, (BB.out.alloc hsz _).trans (hb8.mono (by simp; omega))⟩ | ((repeat apply Exists.intro); exact ⟨⟨k + 1, by omega, by go_num, HA2, (BB.out.alloc hsz _).trans (hb8.mono (by simp; omega))⟩, rfl⟩)
                 case measure => simp [intOf]; omega
              ·have hd : decide (y1 ≥ y2) = true := by simp; omega
               have hd2 : decide (y1 < y2) = false := by simpa using hge
               obtain rfl : (30 : Int) = Q := by rw [← HQ6.out, if_pos (parsTo_mono (k := k + 1) (by omega) (by rw [HSUC.out, hd2]; simp))]
               clear hge
               go_wp2_with fail
               go_ret
               exact ⟨rfl, BW.out.alloc BW.out.size _⟩
             ·obtain rfl : k = pr.length := by omega
              obtain rfl : (0 : Int) = Q := by rw [← HQ6.out, if_neg (by rw [HA.out]; simp)]
              go_wp2_with fail
              go_ret
              exact ⟨rfl, B7.out.trans (hb.mono B7.out.size)⟩
 ·obtain rfl : c = Q := by rw [if_pos hz] at hQ; exact hQ
  have hzb : (c != 0) = true := by simpa using hz
  clear hQ hz
  go_enter Tryz.func160, Tryz.ntmps160
  go_wp2_with fail
  refine HVR.out.mono ?_
  rintro e w1 ⟨rfl, hb1⟩
  have B1 := hidE (B0.out.trans (hb1.mono B0.out.size))
  clear hb1
  go_wp2_with fail
  go_ret
  exact ⟨rfl, B1.out⟩
abbrev fldO (x : FV) (F : Fld) : Obj := .cells (x.arr F) 46 (0,0)
theorem fielded1_any (w : World) (v : Int) (b : Nat) (x : FV) (F : Fld) (hl : F.prs.length ≤ 4000) (h : w.heap[b]? = some (fldO x F)) :
 Calls Tryz.prog 162 #[.int .i64 v, .pointer (some ⟨b, 0, none⟩)] w fun e w' => e = .returned (.bool (inR v 0 ((F.prs.length : Int) - 1))) ∧ w = w' := by
 have c : w.cell? ⟨b, 2, none⟩ = some (.slice x.aP F.prs.length x.cP) := c_e h rfl
 clear h
 go_enter Tryz.func162, Tryz.ntmps162
 go_wp2_with fail
 refine (in_any _ _ _ _).mono ?_
 rintro e w1 ⟨rfl, rfl⟩
 go_wp2_with fail
 go_ret
 exact ⟨rfl, rfl⟩
def fieldedE (F : Fld) (ps : List Int) : Int := if F.check ≠ 0 then F.check else if ps.all (fun p => inR p 0 ((F.prs.length : Int) - 1)) then 0 else 1
theorem check0_len {F : Fld} (h : F.check = 0) : (2 ≤ F.sts.length ∧ F.sts.length ≤ 12) ∧ (1 ≤ F.lms.length ∧ F.lms.length ≤ 10) ∧ F.prs.length ≤ 40 := by
 rw [Fld.check_eq] at h
 split at h
 ·omega
 ·split at h
  ·omega
  ·omega
set_option maxHeartbeats 1000000 in
theorem fielded_any (w : World) (x : FV) (F : Fld) (a : Option Addr) (cap : Nat) (ps : List Int) (hps : ps.length ≤ 4000) (h : FldAt w x F) (h2 : IntsAt w a ps) :
 Calls Tryz.prog 104 #[x.val F, .slice a ps.length cap] w fun e w' => e = .returned (.int .i64 (fieldedE F ps)) ∧ Below w.heap.size w w' := by
 have hch := checkField_any (w.alloc (.cells (x.arr F) 46)) x F (h.alloc _)
 have b0 : Below w.heap.size w (w.alloc (.cells (x.arr F) 46)) := (Below.refl _ _).alloc (Nat.le_refl _) _
 obtain ⟨Q, hQ⟩ : ∃ Q, fieldedE F ps = Q := ⟨_, rfl⟩
 rw [hQ]
 unfold fieldedE at hQ
 by_cases hz : F.check = 0
 ·have hlen := (check0_len hz).2.2
  rw [if_neg (by omega)] at hQ
  rw [hz] at hch
  have hal := fun (W : World) (hb : Below (w.alloc (.cells (x.arr F) 46)).heap.size (w.alloc (.cells (x.arr F) 46)) W) =>
   all_any W a cap ps 162 #[.pointer (some ⟨w.heap.size, 0, none⟩)] (fun p => inR p 0 ((F.prs.length : Int) - 1)) (by omega) ((h2.alloc _).below hb (Nat.le_refl _))
    (fun k hk W' hW' => (fielded1_any W' ps[k] w.heap.size x F (by omega) (blk_below hW' (Nat.lt_of_lt_of_le (by simp) hb.size) (blk_below hb (by simp) (heap_alloc_new w _)))).mono fun _ _ ⟨he, hw⟩ => ⟨he, hw ▸ Below.refl _ _⟩)
    (enters_of Tryz.func162 (by kernel_rfl) rfl)
  obtain ⟨r, hr⟩ : ∃ r, (ps.all fun p => inR p 0 ((F.prs.length : Int) - 1)) = r := ⟨_, rfl⟩
  rw [hr] at hal hQ
  have HCH := hidE hch
  have HAL := hidE hal
  have HR := hidE (fun W => right_any r W)
  rw [hQ] at HR
  have B0 := hidE b0
  clear hch hal hr hz hQ h h2 b0
  unfold FV.val FV.arr at *
  go_enter Tryz.func104, Tryz.ntmps104
  go_wp2_with fail
  refine HCH.out.mono ?_
  rintro e w1 ⟨rfl, hb1⟩
  go_wp2_with fail
  refine (HAL.out _ hb1).mono ?_
  rintro e w2 ⟨rfl, hb2⟩
  go_wp2_with fail
  refine (HR.out _).mono ?_
  rintro e w3 ⟨rfl, rfl⟩
  go_wp2_with fail
  go_ret
  exact ⟨rfl, (B0.out.trans (hb1.mono B0.out.size)).trans (hb2.mono (Nat.le_trans B0.out.size hb1.size))⟩
 ·rw [if_pos hz] at hQ
  rw [hQ] at hch
  have hzb : (Q != 0) = true := by rw [← hQ]; simpa using hz
  have HCH := hidE hch
  have B0 := hidE b0
  clear hch hz hQ h h2 b0
  unfold FV.val FV.arr at *
  go_enter Tryz.func104, Tryz.ntmps104
  go_wp2_with fail
  refine HCH.out.mono ?_
  rintro e w1 ⟨rfl, hb1⟩
  go_wp2_with fail
  go_ret
  exact ⟨rfl, B0.out.trans (hb1.mono B0.out.size)⟩
def Fld.points (F : Fld) : Int := 1 + (F.lms.length : Int) * (F.sts.length : Int)
theorem points_bd {F : Fld} (hl : F.lms.length ≤ 1000) (hs : F.sts.length ≤ 1000) : 0 ≤ (F.lms.length : Int) * (F.sts.length : Int) ∧ (F.lms.length : Int) * (F.sts.length : Int) ≤ 1000000 := by
 have := mul_bd (A := 1000) (B := 1000) (a := (F.lms.length : Int)) (b := (F.sts.length : Int)) (by omega) (by omega) (by omega) (by omega)
 have h2 : 0 ≤ (F.lms.length : Int) * (F.sts.length : Int) := Int.mul_nonneg (by omega) (by omega)
 omega
theorem points_any (w : World) (x : FV) (F : Fld) (hl : F.lms.length ≤ 1000) (hs : F.sts.length ≤ 1000) :
 Calls Tryz.prog 164 #[x.val F] w fun e w' => e = .returned (.int .i64 F.points) ∧ Below w.heap.size w w' := by
 obtain ⟨h1, h2⟩ := points_bd hl hs
 unfold Fld.points FV.val FV.arr
 obtain ⟨st, lm, pr, vr⟩ := F
 dsimp only at *
 go_enter Tryz.func164, Tryz.ntmps164
 go_wp2_with fail
 go_ret
 exact ⟨rfl, by go_grown⟩
def pointsE (F : Fld) : Int := if F.check ≠ 0 then 0 else F.points
theorem pointsE_any (w : World) (x : FV) (F : Fld) (h : FldAt w x F) : Calls Tryz.prog 106 #[x.val F] w fun e w' => e = .returned (.int .i64 (pointsE F)) ∧ Below w.heap.size w w' := by
 have hch := checkField_any (w.alloc (.cells (x.arr F) 46)) x F (h.alloc _)
 have b0 : Below w.heap.size w (w.alloc (.cells (x.arr F) 46)) := (Below.refl _ _).alloc (Nat.le_refl _) _
 obtain ⟨Q, hQ⟩ : ∃ Q, pointsE F = Q := ⟨_, rfl⟩
 rw [hQ]
 unfold pointsE at hQ
 by_cases hz : F.check = 0
 ·have hlen := check0_len hz
  rw [if_neg (by omega)] at hQ
  rw [hz] at hch
  have hpo := fun W => points_any W x F (by omega) (by omega)
  rw [hQ] at hpo
  have HCH := hidE hch
  have HPO := hidE hpo
  have B0 := hidE b0
  clear hch hpo hz hQ h b0 hlen
  have hx0 := heap_alloc_new w (.cells (x.arr F) 46)
  have HX0 := hidE hx0
  clear hx0
  unfold FV.val FV.arr at *
  go_enter Tryz.func106, Tryz.ntmps106
  go_wp2_with fail
  refine HCH.out.mono ?_
  rintro e w1 ⟨rfl, hb1⟩
  have x1 := blk_below hb1 (by simp) HX0.out
  have c0 : w1.cell? ⟨w.heap.size, 0, none⟩ = some (.slice x.aS F.sts.length x.cS) := c_e x1 rfl
  have c1 : w1.cell? ⟨w.heap.size, 1, none⟩ = some (.slice x.aL F.lms.length x.cL) := c_e x1 rfl
  have c2 : w1.cell? ⟨w.heap.size, 2, none⟩ = some (.slice x.aP F.prs.length x.cP) := c_e x1 rfl
  have c3 : w1.cell? ⟨w.heap.size, 3, none⟩ = some (.slice x.aV F.vrs.length x.cV) := c_e x1 rfl
  have B1 := hidE (B0.out.trans (hb1.mono B0.out.size))
  clear x1 hb1
  go_wp2_with fail
  refine (HPO.out _).mono ?_
  rintro e w2 ⟨rfl, hb2⟩
  go_wp2_with fail
  go_ret
  exact ⟨rfl, B1.out.trans (hb2.mono B1.out.size)⟩
 ·rw [if_pos hz] at hQ
  subst hQ
  obtain ⟨c, hc⟩ : ∃ c, F.check = c := ⟨_, rfl⟩
  rw [hc] at hch hz
  have hzb : (c != 0) = true := by simpa using hz
  have HCH := hidE hch
  have B0 := hidE b0
  clear hch hz hc h b0
  unfold FV.val FV.arr at *
  go_enter Tryz.func106, Tryz.ntmps106
  go_wp2_with fail
  refine HCH.out.mono ?_
  rintro e w1 ⟨rfl, hb1⟩
  go_wp2_with fail
  go_ret
  exact ⟨rfl, B0.out.trans (hb1.mono B0.out.size)⟩
theorem at_any (w : World) (l s : Int) (b : Nat) (x : FV) (F : Fld) (hs : F.sts.length ≤ 1000) (hl0 : 0 ≤ l) (hl1 : l ≤ 1000) (h0 : 0 ≤ s) (h1 : s ≤ 1000) (h : w.heap[b]? = some (fldO x F)) :
 Calls Tryz.prog 200 #[.int .i64 l, .int .i64 s, .pointer (some ⟨b, 0, none⟩)] w fun e w' => e = .returned (.int .i64 (1 + l * (F.sts.length : Int) + s)) ∧ w = w' := by
 have c : w.cell? ⟨b, 0, none⟩ = some (.slice x.aS F.sts.length x.cS) := c_e h rfl
 have hm := mul_bd (A := 1000) (B := 1000) (a := l) (b := (F.sts.length : Int)) (by omega) (by omega) (by omega) (by omega)
 have m0 : 0 ≤ l * (F.sts.length : Int) := Int.mul_nonneg hl0 (by omega)
 have m1 : l * (F.sts.length : Int) ≤ 1000000 := by omega
 clear h hm
 go_enter Tryz.func200, Tryz.ntmps200
 go_wp2_with fail
 go_ret
 exact ⟨rfl, rfl⟩
theorem wpAnyF_takeD {P : Program} {ops : Array Oper} {Q : Exit → Act → World → Prop} {md : Region.Mode} {S : World → Prop} {last : Nat} {i d : Nat} {oi : Oper} {v : Value} {fuel : Nat} {listed : Array Bool} {a : Act} {w : World} (hl : waitsAll md ops last = true) (hil : i ≠ last) (hi : ops[i]? = some oi) (hd : oi.dst = some d)
 (hs : Region.noSelect ops = true) (hf : Region.free md ops listed i = true) (hr : (Region.ready md ops listed).contains i = true)
 (hQ : ∀ c a w, Q (.panic c) (a.put oi.dst v) w → Q (.panic c) a w) (hy : YieldsIf P ops S oi v a) (hS : S w)
 (h : wpAnyF P md ops Q S last fuel (listed.setIfInBounds i true) { a with tmps := a.tmps.setIfInBounds d v } w) : wpAnyF P md ops Q S last (fuel + 1) listed a w :=
 wpAnyF_take hl hil hi hs hf hr hQ hy hS (by rw [hd]; exact h)
def t_B (md : Region.Mode) (ops : Array Oper) (listed : Array Bool) (i d : Nat) : Bool := Region.noSelect ops && Region.free md ops listed i && (Region.ready md ops listed).contains i && (match ops[i]? with | some o => o.dst == some d | none => false)
theorem t_B_spec {md : Region.Mode} {ops : Array Oper} {listed : Array Bool} {i d : Nat} {oi : Oper} (hi : ops[i]? = some oi) (h : t_B md ops listed i d = true) : oi.dst = some d ∧ Region.noSelect ops = true ∧ Region.free md ops listed i = true ∧ (Region.ready md ops listed).contains i = true := by
 unfold t_B at h; rw [hi] at h; simp only [Bool.and_eq_true, beq_iff_eq] at h; exact ⟨h.2, h.1.1.1, h.1.1.2, h.1.2⟩
theorem t_f {P : Program} {ops : Array Oper} {Q : Exit → Act → World → Prop} {md : Region.Mode} {oi : Oper} {fuel : Nat} {listed : Array Bool} {a : Act} {w : World} {S : World → Prop} {last : Nat} (i d : Nat) (v : Value) (hi : ops[i]? = some oi) (hB : (waitsAll md ops last && decide (i ≠ last) && t_B md ops listed i d) = true) (hw : Region.wanted oi (yielded ops a.tmps) = true) (hQ : ∀ c a w, Q (.panic c) (a.put oi.dst v) w → Q (.panic c) a w) (hy : ∀ V, S V → (execOp a.eval oi).run P V = .ok (.value v) V) (hS : S w) (h : wpAnyF P md ops Q S last fuel (listed.setIfInBounds i true) { a with tmps := a.tmps.setIfInBounds d v } w) : wpAnyF P md ops Q S last (fuel + 1) listed a w := by
 simp only [Bool.and_eq_true, decide_eq_true_eq] at hB
 obtain ⟨h1, h2, h3, h4⟩ := t_B_spec hi hB.2
 exact wpAnyF_takeD hB.1.1 hB.1.2 hi h1 h2 h3 h4 hQ (.inl ⟨hw, hy⟩) hS h
structure Str where
 west : Int
 east : Int
 so : Int
 no : Int
 fso : Int
 fno : Int
def Str.cells (s : Str) : List Value := [.int .i64 s.west, .int .i64 s.east, .int .i64 s.so, .int .i64 s.no, .int .i64 s.fso, .int .i64 s.fno]
def ptP (F : Fld) (l s : Int) : Int := 1 + l * (F.sts.length : Int) + s
def stX (F : Fld) (s : Nat) : Int := (F.sts.getD s sta0).x
def stripP (F : Fld) (p : Par) (s : Nat) : Str := ⟨stX F s, stX F (s + 1), ptP F p.south s, ptP F (p.south + 1) s, ptP F p.south (s + 1 : Nat), ptP F (p.south + 1) (s + 1 : Nat)⟩
def stripsTo (F : Fld) (p : Par) (k : Nat) : List Str := (List.range k).map fun i => stripP F p (p.wst.toNat + i)
def stripsP (F : Fld) (p : Par) : List Str := stripsTo F p (p.est - p.wst).toNat
theorem stripsTo_succ (F : Fld) (p : Par) (k : Nat) : stripsTo F p (k + 1) = stripsTo F p k ++ [stripP F p (p.wst.toNat + k)] := by
 unfold stripsTo
 rw [List.range_succ, List.map_append]
 rfl
theorem stripsTo_len (F : Fld) (p : Par) (k : Nat) : (stripsTo F p k).length = k := by simp [stripsTo]
theorem info179 : (Tryz.prog.info? 179).map (fun i => (i.zero, i.size, i.bytes)) = some (some (.agg #[.int .i64 0, .int .i64 0, .int .i64 0, .int .i64 0, .int .i64 0, .int .i64 0]), 6, 48) := by kernel_rfl
def Par.inside (p : Par) (F : Fld) : Prop := 0 ≤ p.south ∧ p.south + 1 < F.lms.length ∧ 0 ≤ p.wst ∧ p.wst < p.est ∧ p.est < F.sts.length
set_option maxRecDepth 100000 in
set_option maxHeartbeats 8000000 in
theorem strips_any (w : World) (x : FV) (F : Fld) (p : Par) (hs : F.sts.length ≤ 12) (hl : F.lms.length ≤ 10) (hp : p.inside F) (h : FldAt w x F) :
 Calls Tryz.prog 158 #[x.val F, p.val] w fun e w' => ∃ v, e = .returned v ∧ w'.ownsRow w.heap.size 179 6 v (stripsP F p).length ((stripsP F p).flatMap Str.cells) ∧ Below w.heap.size w w' := by
 obtain ⟨s0, s1, s2, s3, s4⟩ := hp
 have HAT := hidE (fun (W : World) (l s : Int) (a1 : 0 ≤ l) (a2 : l ≤ 1000) (a3 : 0 ≤ s) (a4 : s ≤ 1000) (hx : W.heap[w.heap.size]? = some (fldO x F)) => at_any W l s w.heap.size x F (by omega) a1 a2 a3 a4 hx)
 obtain ⟨wn, hwn⟩ := Int.eq_ofNat_of_zero_le s2
 obtain ⟨en, hen⟩ := Int.eq_ofNat_of_zero_le (show 0 ≤ p.est by omega)
 have hX0 : (((w.alloc (.cells (x.arr F) 46)).alloc (.cells p.cells.toArray 53))).heap[w.heap.size]? = some (fldO x F) := heap_alloc2_old _ _ _
 have hX1 : (((w.alloc (.cells (x.arr F) 46)).alloc (.cells p.cells.toArray 53))).heap[w.heap.size + 1]? = some (.cells p.cells.toArray 53 (0,0)) := heap_alloc2_new _ _ _
 have hst := h.st
 have HST := hidE (fun (k : Nat) (hk : k < F.sts.length) => show stX F k = F.sts[k].x by unfold stX; simp [hk])
 have HSTR := hidE (fun (k : Nat) => stripsTo_succ F p k)
 have HSP : Hid (∀ k, stripP F p (p.wst.toNat + k) = ⟨stX F (wn + k), stX F (wn + k + 1), ptP F p.south (wn + k : Nat), ptP F (p.south + 1) (wn + k : Nat), ptP F p.south (wn + k + 1 : Nat), ptP F (p.south + 1) (wn + k + 1 : Nat)⟩) := hidE (fun k => by unfold stripP; rw [hwn]; rfl)
 have HPT : Hid (∀ l s : Int, ptP F l s = 1 + l * (F.sts.length : Int) + s) := hidE (fun _ _ => rfl)
 have HEND : Hid (stripsP F p = stripsTo F p (en - wn)) := hidE (by unfold stripsP; congr 1; omega)
 obtain ⟨aS, cS, aL, cL, aP, cP, aV, cV⟩ := x
 unfold fldO at *
 obtain ⟨ST, hSTe⟩ : ∃ ST, stripsTo F p = ST := ⟨_, rfl⟩
 rw [hSTe] at HSTR HEND
 obtain ⟨SS, hSS⟩ : ∃ SS, stripsP F p = SS := ⟨_, rfl⟩
 rw [hSS] at HEND ⊢
 have HL : Hid (∀ k, (ST k).length = k) := hidE (by intro k; rw [← hSTe]; exact stripsTo_len _ _ _)
 have H00 : Hid (ST 0 = []) := hidE (by rw [← hSTe]; rfl)
 obtain ⟨SP, hSPe⟩ : ∃ SP, (fun k => stripP F p (p.wst.toNat + k)) = SP := ⟨_, rfl⟩
 have HSTR2 : Hid (∀ k, ST (k + 1) = ST k ++ [SP k]) := hidE (fun k => by rw [HSTR.out k, ← hSPe])
 have HSP2 : Hid (∀ k, SP k = ⟨stX F (wn + k), stX F (wn + k + 1), ptP F p.south (wn + k : Nat), ptP F (p.south + 1) (wn + k : Nat), ptP F p.south (wn + k + 1 : Nat), ptP F (p.south + 1) (wn + k + 1 : Nat)⟩) := hidE (fun k => by rw [← hSPe]; exact HSP.out k)
 obtain ⟨X, hXe⟩ : ∃ X : Nat → Int, stX F = X := ⟨_, rfl⟩
 obtain ⟨T, hTe⟩ : ∃ T : Int → Int → Int, ptP F = T := ⟨_, rfl⟩
 rw [hXe, hTe] at HSP2
 rw [hXe] at HST
 rw [hTe] at HPT
 clear hSTe hSS hSPe HSTR HSP hXe hTe h
 obtain ⟨st, lm, pr, vr⟩ := F
 obtain ⟨pn, ps, pw, pe⟩ := p
 unfold FV.arr Par.cells at hX0
 unfold FV.arr at HAT
 unfold Par.cells FV.arr at hX1
 unfold FV.val FV.arr Par.val
 dsimp only at *
 subst hwn hen
 have B0 := hidE (show Below w.heap.size w ((w.alloc (.cells #[.slice aS st.length cS, .slice aL lm.length cL, .slice aP pr.length cP, .slice aV vr.length cV] 46)).alloc (.cells #[.string pn, .int .i64 ps, .int .i64 (wn : Int), .int .i64 (en : Int)] 53)) from ((Below.refl _ _).alloc (Nat.le_refl _) _).alloc (by simp) _)
 have HX0 := hidE hX0
 have HX1 := hidE hX1
 have HS := hidE hst
 clear hX0 hX1 hst
 go_enter Tryz.func158, Tryz.ntmps158
 go_wp2_with fail
 go_loopw [5, 7] (fun v i wr => ∃ k : Nat, wn + k ≤ en ∧ i = .int .i64 ((wn + k : Nat) : Int) ∧ Hid (wr.ownsRow (w.heap.size + 2) 179 6 v k ((ST k).flatMap Str.cells)) ∧
  Hid (wr.heap[w.heap.size]? = some (.cells #[.slice aS st.length cS, .slice aL lm.length cL, .slice aP pr.length cP, .slice aV vr.length cV] 46 (0,0))) ∧ Hid (wr.heap[w.heap.size + 1]? = some (.cells #[.string pn, .int .i64 ps, .int .i64 (wn : Int), .int .i64 (en : Int)] 53 (0,0))) ∧ Below w.heap.size w wr)
  (fun _ i _ => en - (intOf i).toNat)
 case atStart => exact ⟨0, by omega, rfl, hidE (by rw [H00.out]; exact World.ownsRow_nil _ _ _ _), hidE HX0.out, hidE HX1.out, B0.out⟩
 case round =>
  obtain ⟨k, hk, rfl, hown, h0, h1, hb⟩ := hrel
  have e3 : wr.cell? ⟨w.heap.size + 1, 3, none⟩ = some (.int .i64 (en : Int)) := c_e h1.out rfl
  obtain ⟨s, hse⟩ : ∃ s, s = wn + k := ⟨_, rfl⟩
  rw [← hse] at hk ⊢
  by_cases hlt : s < en
  ·have hdl : decide ((s : Int) < (en : Int)) = true := by simp; omega
   obtain ⟨t, hte⟩ : ∃ t, t = s + 1 := ⟨_, rfl⟩
   have hsl : s < st.length := by omega
   have htl : t < st.length := by omega
   obtain ⟨bS, oS, rfl, hbS, hcS⟩ := RecsAt.at HS.out hsl
   obtain ⟨b', o', eq', _, hcT⟩ := RecsAt.at HS.out htl
   cases eq'
   have f1 := hcS 1 (by omega)
   have f2 := hcT 1 (by omega)
   rw [← hb.cell hbS] at f1 f2
   simp only [Sta.cells, List.getElem?_cons_zero, List.getElem?_cons_succ] at f1 f2
   have hxs := HST.out s hsl
   have hxt := HST.out t htl
   obtain ⟨xs, hxse⟩ : ∃ xs, st[s].x = xs := ⟨_, rfl⟩
   obtain ⟨xt, hxte⟩ : ∃ xt, st[t].x = xt := ⟨_, rfl⟩
   rw [hxse] at f1 hxs
   rw [hxte] at f2 hxt
   have e0 : wr.cell? ⟨w.heap.size, 0, none⟩ = some (.slice (some ⟨bS, oS, none⟩) st.length cS) := c_e h0.out rfl
   have e1 : wr.cell? ⟨w.heap.size + 1, 1, none⟩ = some (.int .i64 ps) := c_e h1.out rfl
   have hw1 : IntKind.i64.wrap ((s : Int) + 1) = (t : Int) := by rw [IntWalk.i64_in _ (by omega)]; omega
   have hw2 : IntKind.i64.wrap (ps + 1) = ps + 1 := IntWalk.i64_in _ (by omega)
   have HA1 := hidE (fun (W : World) hx => HAT.out W ps s (by omega) (by omega) (by omega) (by omega) hx)
   have HA2 := hidE (fun (W : World) hx => HAT.out W (ps + 1) s (by omega) (by omega) (by omega) (by omega) hx)
   have HA3 := hidE (fun (W : World) hx => HAT.out W ps t (by omega) (by omega) (by omega) (by omega) hx)
   have HA4 := hidE (fun (W : World) hx => HAT.out W (ps + 1) t (by omega) (by omega) (by omega) (by omega) hx)
   obtain ⟨q1, hq1⟩ : ∃ q, 1 + ps * (st.length : Int) + s = q := ⟨_, rfl⟩
   obtain ⟨q2, hq2⟩ : ∃ q, 1 + (ps + 1) * (st.length : Int) + s = q := ⟨_, rfl⟩
   obtain ⟨q3, hq3⟩ : ∃ q, 1 + ps * (st.length : Int) + t = q := ⟨_, rfl⟩
   obtain ⟨q4, hq4⟩ : ∃ q, 1 + (ps + 1) * (st.length : Int) + t = q := ⟨_, rfl⟩
   rw [hq1] at HA1
   rw [hq2] at HA2
   rw [hq3] at HA3
   rw [hq4] at HA4
   have HNEW : Hid (SP k = ⟨xs, xt, q1, q2, q3, q4⟩) := hidE (by rw [HSP2.out k, ← hse, ← hte, hxs, hxt, HPT.out, HPT.out, HPT.out, HPT.out, hq1, hq2, hq3, hq4])
   have BB := hidE hb
   have hbS2 : bS < wr.heap.size := Nat.lt_of_lt_of_le hbS BB.out.size
   have l1 := lt_of_block h1.out
   have l0 : w.heap.size < wr.heap.size := by omega
   have HTE := hidE hte
   have HSE := hidE hse
   have hown2 := hown.out
   have hk12 : k ≤ 12 := by omega
   clear hq1 hq2 hq3 hq4 hxs hxt hxse hxte hcS hcT hb hte hse
   go_upto_region 6 with fail
   clear e3
   refine wp_region_F (S := fun V => V.cell? ⟨w.heap.size, 0, none⟩ = some (.slice (some ⟨bS, oS, none⟩) st.length cS) ∧ V.cell? ⟨w.heap.size + 1, 1, none⟩ = some (.int .i64 ps) ∧ V.cell? ⟨bS, oS + s * 2 + 1, none⟩ = some (.int .i64 xs) ∧ V.cell? ⟨bS, oS + t * 2 + 1, none⟩ = some (.int .i64 xt)) (last := 41) (by kernel_rfl) ?_
   have hS0 : wr.drew.cell? ⟨w.heap.size, 0, none⟩ = some (.slice (some ⟨bS, oS, none⟩) st.length cS) ∧ wr.drew.cell? ⟨w.heap.size + 1, 1, none⟩ = some (.int .i64 ps) ∧ wr.drew.cell? ⟨bS, oS + s * 2 + 1, none⟩ = some (.int .i64 xs) ∧ wr.drew.cell? ⟨bS, oS + t * 2 + 1, none⟩ = some (.int .i64 xt) := ⟨e0, e1, f1, f2⟩
   refine t_f 0 17 u5 rfl (by kernel_rfl) rfl (fun _ _ _ h => h) (fun V hV => ?_) hS0 ?_
   ·simp [go_sem, execOp]
   try simp only [s_a, s_b, s_c]
   refine t_f 1 18 (.pointer (some ⟨w.heap.size, 0, none⟩)) rfl (by kernel_rfl) rfl (fun _ _ _ h => h) (fun V hV => ?_) hS0 ?_
   ·simp [go_sem, execOp]
   try simp only [s_a, s_b, s_c]
   refine t_f 2 19 (.slice (some ⟨bS, oS, none⟩) st.length cS) rfl (by kernel_rfl) rfl (fun _ _ _ h => h) (fun V hV => ?_) hS0 ?_
   ·obtain ⟨z0, z1, z2, z3⟩ := hV
    simp [go_sem, execOp, z0]
   try simp only [s_a, s_b, s_c]
   refine t_f 3 20 (.int .i64 (s : Int)) rfl (by kernel_rfl) rfl (fun _ _ _ h => h) (fun V hV => ?_) hS0 ?_
   ·simp [go_sem, execOp]
   try simp only [s_a, s_b, s_c]
   refine t_f 4 21 (.pointer (some ⟨bS, oS + s * 2, none⟩)) rfl (by kernel_rfl) rfl (fun _ _ _ h => h) (fun V hV => ?_) hS0 ?_
   ·simp [go_sem, execOp, hsl]
   try simp only [s_a, s_b, s_c]
   refine t_f 5 22 (.pointer (some ⟨bS, oS + s * 2 + 1, none⟩)) rfl (by kernel_rfl) rfl (fun _ _ _ h => h) (fun V hV => ?_) hS0 ?_
   ·simp [go_sem, execOp]
   try simp only [s_a, s_b, s_c]
   refine t_f 6 23 (.int .i64 xs) rfl (by kernel_rfl) rfl (fun _ _ _ h => h) (fun V hV => ?_) hS0 ?_
   ·obtain ⟨z0, z1, z2, z3⟩ := hV
    simp [go_sem, execOp, z2]
   try simp only [s_a, s_b, s_c]
   refine t_f 7 24 (.pointer (some ⟨w.heap.size, 0, none⟩)) rfl (by kernel_rfl) rfl (fun _ _ _ h => h) (fun V hV => ?_) hS0 ?_
   ·simp [go_sem, execOp]
   try simp only [s_a, s_b, s_c]
   refine t_f 8 25 (.slice (some ⟨bS, oS, none⟩) st.length cS) rfl (by kernel_rfl) rfl (fun _ _ _ h => h) (fun V hV => ?_) hS0 ?_
   ·obtain ⟨z0, z1, z2, z3⟩ := hV
    simp [go_sem, execOp, z0]
   try simp only [s_a, s_b, s_c]
   refine t_f 9 26 (.int .i64 (s : Int)) rfl (by kernel_rfl) rfl (fun _ _ _ h => h) (fun V hV => ?_) hS0 ?_
   ·simp [go_sem, execOp]
   try simp only [s_a, s_b, s_c]
   refine t_f 10 27 (.int .i64 (t : Int)) rfl (by kernel_rfl) rfl (fun _ _ _ h => h) (fun V hV => ?_) hS0 ?_
   ·simp [go_sem, execOp, hw1]
   try simp only [s_a, s_b, s_c]
   refine t_f 11 28 (.pointer (some ⟨bS, oS + t * 2, none⟩)) rfl (by kernel_rfl) rfl (fun _ _ _ h => h) (fun V hV => ?_) hS0 ?_
   ·simp [go_sem, execOp, htl]
   try simp only [s_a, s_b, s_c]
   refine t_f 12 29 (.pointer (some ⟨bS, oS + t * 2 + 1, none⟩)) rfl (by kernel_rfl) rfl (fun _ _ _ h => h) (fun V hV => ?_) hS0 ?_
   ·simp [go_sem, execOp]
   try simp only [s_a, s_b, s_c]
   refine t_f 13 30 (.int .i64 xt) rfl (by kernel_rfl) rfl (fun _ _ _ h => h) (fun V hV => ?_) hS0 ?_
   ·obtain ⟨z0, z1, z2, z3⟩ := hV
    simp [go_sem, execOp, z3]
   try simp only [s_a, s_b, s_c]
   refine t_f 14 31 (.func (.func 200) #[] #[.pointer (some ⟨w.heap.size, 0, none⟩)]) rfl (by kernel_rfl) rfl (fun _ _ _ h => h) (fun V hV => ?_) hS0 ?_
   ·simp [go_sem, execOp]
   try simp only [s_a, s_b, s_c]
   refine t_f 15 32 (.pointer (some ⟨w.heap.size + 1, 1, none⟩)) rfl (by kernel_rfl) rfl (fun _ _ _ h => h) (fun V hV => ?_) hS0 ?_
   ·simp [go_sem, execOp]
   try simp only [s_a, s_b, s_c]
   refine t_f 16 33 (.int .i64 ps) rfl (by kernel_rfl) rfl (fun _ _ _ h => h) (fun V hV => ?_) hS0 ?_
   ·obtain ⟨z0, z1, z2, z3⟩ := hV
    simp [go_sem, execOp, z1]
   try simp only [s_a, s_b, s_c]
   refine t_f 17 34 (.int .i64 (s : Int)) rfl (by kernel_rfl) rfl (fun _ _ _ h => h) (fun V hV => ?_) hS0 ?_
   ·simp [go_sem, execOp]
   try simp only [s_a, s_b, s_c]
   refine t_f 19 36 (.func (.func 200) #[] #[.pointer (some ⟨w.heap.size, 0, none⟩)]) rfl (by kernel_rfl) rfl (fun _ _ _ h => h) (fun V hV => ?_) hS0 ?_
   ·simp [go_sem, execOp]
   try simp only [s_a, s_b, s_c]
   refine t_f 20 37 (.pointer (some ⟨w.heap.size + 1, 1, none⟩)) rfl (by kernel_rfl) rfl (fun _ _ _ h => h) (fun V hV => ?_) hS0 ?_
   ·simp [go_sem, execOp]
   try simp only [s_a, s_b, s_c]
   refine t_f 21 38 (.int .i64 ps) rfl (by kernel_rfl) rfl (fun _ _ _ h => h) (fun V hV => ?_) hS0 ?_
   ·obtain ⟨z0, z1, z2, z3⟩ := hV
    simp [go_sem, execOp, z1]
   try simp only [s_a, s_b, s_c]
   refine t_f 22 39 (.int .i64 (ps + 1)) rfl (by kernel_rfl) rfl (fun _ _ _ h => h) (fun V hV => ?_) hS0 ?_
   ·simp [go_sem, execOp, hw2]
   try simp only [s_a, s_b, s_c]
   refine t_f 23 40 (.int .i64 (s : Int)) rfl (by kernel_rfl) rfl (fun _ _ _ h => h) (fun V hV => ?_) hS0 ?_
   ·simp [go_sem, execOp]
   try simp only [s_a, s_b, s_c]
   refine t_f 25 42 (.func (.func 200) #[] #[.pointer (some ⟨w.heap.size, 0, none⟩)]) rfl (by kernel_rfl) rfl (fun _ _ _ h => h) (fun V hV => ?_) hS0 ?_
   ·simp [go_sem, execOp]
   try simp only [s_a, s_b, s_c]
   refine t_f 26 43 (.pointer (some ⟨w.heap.size + 1, 1, none⟩)) rfl (by kernel_rfl) rfl (fun _ _ _ h => h) (fun V hV => ?_) hS0 ?_
   ·simp [go_sem, execOp]
   try simp only [s_a, s_b, s_c]
   refine t_f 27 44 (.int .i64 ps) rfl (by kernel_rfl) rfl (fun _ _ _ h => h) (fun V hV => ?_) hS0 ?_
   ·obtain ⟨z0, z1, z2, z3⟩ := hV
    simp [go_sem, execOp, z1]
   try simp only [s_a, s_b, s_c]
   refine t_f 28 45 (.int .i64 (s : Int)) rfl (by kernel_rfl) rfl (fun _ _ _ h => h) (fun V hV => ?_) hS0 ?_
   ·simp [go_sem, execOp]
   try simp only [s_a, s_b, s_c]
   refine t_f 29 46 (.int .i64 (t : Int)) rfl (by kernel_rfl) rfl (fun _ _ _ h => h) (fun V hV => ?_) hS0 ?_
   ·simp [go_sem, execOp, hw1]
   try simp only [s_a, s_b, s_c]
   refine t_f 31 48 (.func (.func 200) #[] #[.pointer (some ⟨w.heap.size, 0, none⟩)]) rfl (by kernel_rfl) rfl (fun _ _ _ h => h) (fun V hV => ?_) hS0 ?_
   ·simp [go_sem, execOp]
   try simp only [s_a, s_b, s_c]
   refine t_f 32 49 (.pointer (some ⟨w.heap.size + 1, 1, none⟩)) rfl (by kernel_rfl) rfl (fun _ _ _ h => h) (fun V hV => ?_) hS0 ?_
   ·simp [go_sem, execOp]
   try simp only [s_a, s_b, s_c]
   refine t_f 33 50 (.int .i64 ps) rfl (by kernel_rfl) rfl (fun _ _ _ h => h) (fun V hV => ?_) hS0 ?_
   ·obtain ⟨z0, z1, z2, z3⟩ := hV
    simp [go_sem, execOp, z1]
   try simp only [s_a, s_b, s_c]
   refine t_f 34 51 (.int .i64 (ps + 1)) rfl (by kernel_rfl) rfl (fun _ _ _ h => h) (fun V hV => ?_) hS0 ?_
   ·simp [go_sem, execOp, hw2]
   try simp only [s_a, s_b, s_c]
   refine t_f 35 52 (.int .i64 (s : Int)) rfl (by kernel_rfl) rfl (fun _ _ _ h => h) (fun V hV => ?_) hS0 ?_
   ·simp [go_sem, execOp]
   try simp only [s_a, s_b, s_c]
   refine t_f 36 53 (.int .i64 (t : Int)) rfl (by kernel_rfl) rfl (fun _ _ _ h => h) (fun V hV => ?_) hS0 ?_
   ·simp [go_sem, execOp, hw1]
   try simp only [s_a, s_b, s_c]
   refine wpAnyF_step 18 rfl (by kernel_rfl) (fun K hK => ?_)
   go_simp
   refine (HA1.out wr.drew h0.out).mono ?_
   rintro e w2 ⟨rfl, rfl⟩
   go_wp2_with fail
   refine hK.out _ _ (.inr hS0) ?_
   clear hK K
   try simp only [Act.put, s_a, s_b, s_c]
   refine wpAnyF_step 24 rfl (by kernel_rfl) (fun K hK => ?_)
   go_simp
   refine (HA2.out wr.drew h0.out).mono ?_
   rintro e w3 ⟨rfl, rfl⟩
   go_wp2_with fail
   refine hK.out _ _ (.inr hS0) ?_
   clear hK K
   try simp only [Act.put, s_a, s_b, s_c]
   refine wpAnyF_step 30 rfl (by kernel_rfl) (fun K hK => ?_)
   go_simp
   refine (HA3.out wr.drew h0.out).mono ?_
   rintro e w4 ⟨rfl, rfl⟩
   go_wp2_with fail
   refine hK.out _ _ (.inr hS0) ?_
   clear hK K
   try simp only [Act.put, s_a, s_b, s_c]
   refine wpAnyF_step 37 rfl (by kernel_rfl) (fun K hK => ?_)
   go_simp
   refine (HA4.out wr.drew h0.out).mono ?_
   rintro e w5 ⟨rfl, rfl⟩
   go_wp2_with fail
   refine hK.out _ _ (.inr hS0) ?_
   clear hK K
   try simp only [Act.put, s_a, s_b, s_c]
   refine wpAnyF_step 38 rfl (by kernel_rfl) (fun K hK => ?_)
   go_simp
   refine hK.out _ _ (.inr hS0) ?_
   clear hK K
   try simp only [Act.put, s_a, s_b, s_c]
   refine wpAnyF_step 39 rfl (by kernel_rfl) (fun K hK => ?_)
   go_simp
   have ba : Below wr.heap.size wr (wr.drew.alloc (.cells #[.int .i64 xs, .int .i64 xt, .int .i64 q1, .int .i64 q2, .int .i64 q3, .int .i64 q4] 179)) := ((Below.refl _ _).drew).alloc (Nat.le_refl _) _
   have hS1 : (wr.drew.alloc (.cells #[.int .i64 xs, .int .i64 xt, .int .i64 q1, .int .i64 q2, .int .i64 q3, .int .i64 q4] 179)).cell? ⟨w.heap.size, 0, none⟩ = some (.slice (some ⟨bS, oS, none⟩) st.length cS) ∧ (wr.drew.alloc (.cells #[.int .i64 xs, .int .i64 xt, .int .i64 q1, .int .i64 q2, .int .i64 q3, .int .i64 q4] 179)).cell? ⟨w.heap.size + 1, 1, none⟩ = some (.int .i64 ps) ∧ (wr.drew.alloc (.cells #[.int .i64 xs, .int .i64 xt, .int .i64 q1, .int .i64 q2, .int .i64 q3, .int .i64 q4] 179)).cell? ⟨bS, oS + s * 2 + 1, none⟩ = some (.int .i64 xs) ∧ (wr.drew.alloc (.cells #[.int .i64 xs, .int .i64 xt, .int .i64 q1, .int .i64 q2, .int .i64 q3, .int .i64 q4] 179)).cell? ⟨bS, oS + t * 2 + 1, none⟩ = some (.int .i64 xt) := ⟨(ba.cell (p := ⟨w.heap.size, 0, none⟩) l0).trans e0, (ba.cell (p := ⟨w.heap.size + 1, 1, none⟩) l1).trans e1, (ba.cell (p := ⟨bS, oS + s * 2 + 1, none⟩) hbS2).trans f1, (ba.cell (p := ⟨bS, oS + t * 2 + 1, none⟩) hbS2).trans f2⟩
   refine hK.out _ _ (.inr hS1) ?_
   clear hK K
   try simp only [Act.put, s_a, s_b, s_c]
   have own3 : ((wr.drew.alloc (.cells #[.int .i64 xs, .int .i64 xt, .int .i64 q1, .int .i64 q2, .int .i64 q3, .int .i64 q4] 179))).ownsRow (w.heap.size + 2) 179 6 u5 k ((ST k).flatMap Str.cells) := (show wr.drew.ownsRow (w.heap.size + 2) 179 6 u5 k ((ST k).flatMap Str.cells) from hown2).alloc _
   obtain ⟨v', wa, hrun, hown', hbl2, _⟩ := append_rec (w := (wr.drew.alloc (.cells #[.int .i64 xs, .int .i64 xt, .int .i64 q1, .int .i64 q2, .int .i64 q3, .int .i64 q4] 179))) (tS := 174) Tryz.underlying174 info179 rfl (by decide) (by decide) own3 (b := wr.heap.size) (news := Str.cells ⟨xs, xt, q1, q2, q3, q4⟩) rfl (heap_alloc_new _ _) (by intro u hu; simp [Str.cells] at hu; rcases hu with rfl | rfl | rfl | rfl | rfl | rfl <;> rfl) (by omega) (by simp; omega) 174
   have B2 := hidE (((BB.out.drew).alloc BB.out.size (.cells #[.int .i64 xs, .int .i64 xt, .int .i64 q1, .int .i64 q2, .int .i64 q3, .int .i64 q4] 179)).trans (hbl2.mono (by omega)))
   have HOW := hidE hown'
   have hS2 : wa.cell? ⟨w.heap.size, 0, none⟩ = some (.slice (some ⟨bS, oS, none⟩) st.length cS) ∧ wa.cell? ⟨w.heap.size + 1, 1, none⟩ = some (.int .i64 ps) ∧ wa.cell? ⟨bS, oS + s * 2 + 1, none⟩ = some (.int .i64 xs) ∧ wa.cell? ⟨bS, oS + t * 2 + 1, none⟩ = some (.int .i64 xt) := ⟨(hbl2.cell (p := ⟨w.heap.size, 0, none⟩) (by show w.heap.size < w.heap.size + 2; omega)).trans hS1.1, (hbl2.cell (p := ⟨w.heap.size + 1, 1, none⟩) (by show w.heap.size + 1 < w.heap.size + 2; omega)).trans hS1.2.1, (hbl2.cell (p := ⟨bS, oS + s * 2 + 1, none⟩) (by show bS < w.heap.size + 2; omega)).trans hS1.2.2.1, (hbl2.cell (p := ⟨bS, oS + t * 2 + 1, none⟩) (by show bS < w.heap.size + 2; omega)).trans hS1.2.2.2⟩
   have H0 := hidE (blk_below hbl2 (by omega) (blk_below ba l0 h0.out))
   have H1 := hidE (blk_below hbl2 (by omega) (blk_below ba l1 h1.out))
   have HRUN := hidE hrun
   clear hrun hown' hbl2 own3 hown2 hown
   refine wpAnyF_step 40 rfl (by kernel_rfl) (fun K hK => ?_)
   refine step_op_append rfl (s := .tmp 17) (x := .tmp 56) (t := 174) rfl rfl rfl HRUN.out ?_
   refine hK.out _ _ (.inr hS2) ?_
   clear hK K
   try simp only [Act.put, List.setIfInBounds_toArray]
   refine wpAnyF_step 41 rfl (by kernel_rfl) (fun K hK => ?_)
   go_simp
   refine hK.out _ _ (.inl rfl) ?_
   clear hK K
   refine wpAnyF_done (by kernel_rfl) ?_ _
   clear hS0 hS1 hS2 ba e0 e1 f1 f2 hw2
   go_wp2_with fail
   go_roundw
   case rel => exact ⟨k + 1, by have := HSE.out; omega, by have h1 := HSE.out; have h2 := HTE.out; rw [show wn + (k + 1) = t from by omega], hidE (by rw [HSTR2.out k, HNEW.out, List.flatMap_append]; simpa using HOW.out), H0, H1, B2.out⟩
   case measure => simp [intOf]; have := HTE.out; omega
  ·have hdl : decide ((s : Int) < (en : Int)) = false := by simp; omega
   have hkk : k = en - wn := by omega
   subst hkk
   have HF : Hid (wr.ownsRow w.heap.size 179 6 u5 SS.length (SS.flatMap Str.cells)) := hidE (by
    rw [HEND.out, HL.out]
    exact ownsRow_base hown.out (by omega))
   clear hown hse
   go_wp2_with fail
   go_ret
   exact ⟨_, rfl, HF.out, hb⟩
theorem check0_parts {F : Fld} (h : F.check = 0) : (∀ s ∈ F.sts, 0 ≤ s.x ∧ s.x ≤ 100000) ∧ (∀ p ∈ F.prs, parRange F.lms.length F.sts.length p = true) ∧ stasTo F.sts F.sts.length = true ∧ parsTo F.prs F.prs.length = true ∧ checkVrns F.vrs = 0 := by
 have hl := check0_len h
 rw [Fld.check_eq, if_neg (by omega), if_neg (by omega)] at h
 split at h
 ·omega
 ·rename_i hv
  unfold Fld.chkA at h
  split at h
  ·omega
  ·split at h
   ·omega
   ·unfold Fld.chkB at h
    split at h
    ·omega
    ·rename_i h1
     split at h
     ·omega
     ·rename_i h2
      unfold Fld.chkC at h
      split at h
      ·omega
      ·rename_i h3
       split at h
       ·omega
       ·rename_i h4
        refine ⟨fun s hs => ?_, fun p hp => ?_, by simpa using h3, by simpa using h4, by omega⟩
        ·simp only [List.any_eq_true, not_exists, not_and] at h1
         have := h1 s hs
         unfold inR at this
         simp at this
         exact this
        ·simp only [List.any_eq_true, not_exists, not_and] at h2
         simpa using h2 p hp
theorem check0_inside {F : Fld} (h : F.check = 0) {p : Par} (hp : p ∈ F.prs) : p.inside F := by
 obtain ⟨_, h2, _, h4, _⟩ := check0_parts h
 have hr := h2 p hp
 unfold parRange inR at hr
 simp at hr
 obtain ⟨i, hi, e⟩ := List.getElem_of_mem hp
 unfold parsTo at h4
 rw [List.all_eq_true] at h4
 have := h4 i (List.mem_range.2 hi)
 simp only [List.getD_eq_getElem?_getD, List.getElem?_eq_getElem hi, Option.getD_some, e, Bool.and_eq_true, decide_eq_true_eq] at this
 unfold Par.inside
 omega
theorem stX_get {F : Fld} {k : Nat} (hk : k < F.sts.length) : stX F k = F.sts[k].x := by unfold stX; simp [hk]
theorem check0_x {F : Fld} (h : F.check = 0) {k : Nat} (hk : k < F.sts.length) : 0 ≤ stX F k ∧ stX F k ≤ 100000 := by
 rw [stX_get hk]
 exact (check0_parts h).1 _ (List.getElem_mem hk)
theorem check0_up {F : Fld} (h : F.check = 0) {k : Nat} (hk : k + 1 < F.sts.length) : stX F k < stX F (k + 1) := by
 have h3 := (check0_parts h).2.2.1
 unfold stasTo at h3
 rw [List.all_eq_true] at h3
 have := h3 (k + 1) (List.mem_range.2 hk)
 simpa [stX] using this
def Str.run (s : Str) : Int := s.east - s.west
def wStep (l : List Int) (s : Str) : List Int := addAt (addAt (addAt (addAt l s.so.toNat (-s.run)) s.fso.toNat (-s.run)) s.no.toNat s.run) s.fno.toNat s.run
def wtsTo (F : Fld) (p : Par) (k : Nat) : List Int := (stripsTo F p k).foldl wStep (List.replicate F.points.toNat 0)
def weightsOf (F : Fld) (p : Par) : List Int := (stripsP F p).foldl wStep (List.replicate F.points.toNat 0)
theorem addAt_len (l : List Int) (p : Nat) (d : Int) : (addAt l p d).length = l.length := by simp [addAt]
theorem addAt_get (l : List Int) (p : Nat) (d : Int) (j : Nat) : (addAt l p d).getD j 0 = l.getD j 0 + if p = j ∧ p < l.length then d else 0 := by
 unfold addAt
 simp only [List.getD_eq_getElem?_getD, List.getElem?_set]
 by_cases e : p = j
 ·subst e
  by_cases h : p < l.length
  ·simp [h]
  ·simp [h]
 ·simp [e]
theorem wStep_len (l : List Int) (s : Str) : (wStep l s).length = l.length := by simp [wStep, addAt_len]
theorem wtsTo_len (F : Fld) (p : Par) (k : Nat) : (wtsTo F p k).length = F.points.toNat := by
 unfold wtsTo
 have : ∀ (ss : List Str) (l : List Int), (ss.foldl wStep l).length = l.length := by
  intro ss
  induction ss with
  | nil => intro l; rfl
  | cons s ss ih => intro l; rw [List.foldl_cons, ih, wStep_len]
 rw [this, List.length_replicate]
theorem wtsTo_succ (F : Fld) (p : Par) (k : Nat) : wtsTo F p (k + 1) = wStep (wtsTo F p k) (stripP F p (p.wst.toNat + k)) := by
 unfold wtsTo
 rw [stripsTo_succ, List.foldl_append]
 rfl
theorem weightsOf_eq (F : Fld) (p : Par) : weightsOf F p = wtsTo F p (p.est - p.wst).toNat := rfl
theorem addAt_bd {l : List Int} {c d r : Int} (h : ∀ j : Nat, -c ≤ l.getD j 0 ∧ l.getD j 0 ≤ c) (h1 : -r ≤ d) (h2 : d ≤ r) (p : Nat) : ∀ j : Nat, -(c + r) ≤ (addAt l p d).getD j 0 ∧ (addAt l p d).getD j 0 ≤ c + r := by
 intro j
 rw [addAt_get]
 have := h j
 split <;> omega
theorem wtsTo_bd {F : Fld} {p : Par} (h : F.check = 0) (hp : p.inside F) : ∀ k : Nat, p.wst.toNat + k < F.sts.length → ∀ j : Nat, -(4 * (stX F (p.wst.toNat + k) - stX F p.wst.toNat)) ≤ (wtsTo F p k).getD j 0 ∧ (wtsTo F p k).getD j 0 ≤ 4 * (stX F (p.wst.toNat + k) - stX F p.wst.toNat)
 | 0, _, j => by
   have : (wtsTo F p 0).getD j 0 = 0 := by
    show (List.replicate F.points.toNat (0 : Int)).getD j 0 = 0
    simp only [List.getD_eq_getElem?_getD, List.getElem?_replicate]
    split <;> rfl
   rw [this, Nat.add_zero]; omega
 | k + 1, hk, j => by
   have ih := wtsTo_bd h hp k (by omega)
   have hu := check0_up h (k := p.wst.toNat + k) (by omega)
   rw [wtsTo_succ]
   obtain ⟨r, hr⟩ : ∃ r, stX F (p.wst.toNat + k + 1) - stX F (p.wst.toNat + k) = r := ⟨_, rfl⟩
   have hrun : (stripP F p (p.wst.toNat + k)).run = r := hr
   obtain ⟨c, hc⟩ : ∃ c, 4 * (stX F (p.wst.toNat + k) - stX F p.wst.toNat) = c := ⟨_, rfl⟩
   rw [hc] at ih
   unfold wStep
   rw [hrun]
   have := addAt_bd (r := r) (addAt_bd (r := r) (addAt_bd (r := r) (addAt_bd (r := r) ih (d := -r) (by omega) (by omega) (stripP F p (p.wst.toNat + k)).so.toNat) (d := -r) (by omega) (by omega) (stripP F p (p.wst.toNat + k)).fso.toNat) (d := r) (by omega) (by omega) (stripP F p (p.wst.toNat + k)).no.toNat) (d := r) (by omega) (by omega) (stripP F p (p.wst.toNat + k)).fno.toNat j
   rw [show p.wst.toNat + (k + 1) = p.wst.toNat + k + 1 from by omega]
   omega
theorem weightsOf_bd {F : Fld} {p : Par} (h : F.check = 0) (hp : p.inside F) (j : Nat) : -400000 ≤ (weightsOf F p).getD j 0 ∧ (weightsOf F p).getD j 0 ≤ 400000 := by
 obtain ⟨_, _, h3, h4, h5⟩ := hp
 have h1 := wtsTo_bd h ⟨by omega, by omega, h3, h4, h5⟩ (p.est - p.wst).toNat (by omega) j
 rw [weightsOf_eq]
 have h6 := check0_x h (k := p.wst.toNat + (p.est - p.wst).toNat) (by omega)
 have h7 := check0_x h (k := p.wst.toNat) (by omega)
 omega
theorem weightsOf_len (F : Fld) (p : Par) : (weightsOf F p).length = F.points.toNat := by rw [weightsOf_eq, wtsTo_len]
theorem strip_pts {F : Fld} {p : Par} (hp : p.inside F) {s : Nat} (hs : s + 1 < F.sts.length) : let t := stripP F p s
 (0 ≤ t.so ∧ t.so < F.points) ∧ (0 ≤ t.no ∧ t.no < F.points) ∧ (0 ≤ t.fso ∧ t.fso < F.points) ∧ (0 ≤ t.fno ∧ t.fno < F.points) := by
 obtain ⟨h1, h2, _, _, _⟩ := hp
 have key : ∀ l s : Int, 0 ≤ l → l < F.lms.length → 0 ≤ s → s < F.sts.length → 0 ≤ ptP F l s ∧ ptP F l s < F.points := by
  intro l s l0 l1 s0 s1
  unfold ptP Fld.points
  have e1 : 0 ≤ l * (F.sts.length : Int) := Int.mul_nonneg l0 (by omega)
  have e2 : (l + 1) * (F.sts.length : Int) ≤ (F.lms.length : Int) * (F.sts.length : Int) := Int.mul_le_mul_of_nonneg_right (by omega) (by omega)
  rw [Int.add_mul] at e2
  omega
 exact ⟨key _ _ h1 (by omega) (by omega) (by omega), key _ _ (by omega) (by omega) (by omega) (by omega), key _ _ h1 (by omega) (by omega) (by omega), key _ _ (by omega) (by omega) (by omega) (by omega)⟩
section
variable {P : Program} {ops : Array Oper} {Q : Exit → Act → World → Prop} {md : Region.Mode} {S : World → Prop} {last : Nat}
theorem wpAnyN_first {i : Nat} {oi : Oper} {v : Value} (hl : ops.size ≤ last) (hi : ops[i]? = some oi) (hsel : ∀ (j : Nat) (o : Oper) cs b, ops[j]? = some o → o.op ≠ .select cs b)
 (hQ : ∀ c a w, Q (.panic c) (a.put oi.dst v) w → Q (.panic c) a w) :
 ∀ (fuel : Nat) (listed : Array Bool) (a : Act) (w : World),
  (∀ j oj, ops[j]? = some oj → j ≠ i → listed.getD j true = false → (∀ e ∈ oj.after, Region.binds md e = true → e.on ≠ i) → oi.apart ops oj = true) →
  i ∈ Region.ready md ops listed → YieldsIf P ops S oi v a → S w →
  wpAnyF P md ops Q S last fuel (listed.setIfInBounds i true) (a.put oi.dst v) w → wpAnyF P md ops Q S last (fuel + 1) listed a w := by
 intro fuel
 induction fuel with
 | zero =>
   intro listed a w _ hr hy hS H
   refine ⟨fun h => (by rw [h] at hr; cases hr), fun j hj => ?_⟩
   by_cases hji : j = i
   ·subst hji; exact hy.wpOp hi hS ⟨.inr hS, H⟩
   ·have := ready_mono hj hji
    rw [H.1] at this
    cases this
 | succ fuel ih =>
   intro listed a w hfree hr hy hS H
   refine ⟨fun h => (by rw [h] at hr; cases hr), fun j hj => ?_⟩
   by_cases hji : j = i
   ·subst hji; exact hy.wpOp hi hS ⟨.inr hS, H⟩
   ·have h1 := H.2 j (ready_mono hj hji)
    obtain ⟨hjun, oj, hoj, hall⟩ := mem_ready.1 hj
    have hjl : j ≠ last := by
     have := (Array.getElem?_eq_some_iff.1 hoj).1
     omega
    have hnot : ∀ e ∈ oj.after, Region.binds md e = true → e.on ≠ i := fun e he hb heq => by
     have h1 := hall e he hb
     have h0 := (mem_ready.1 hr).1
     rw [heq] at h1
     rcases Nat.lt_or_ge i listed.size with h' | h'
     ·simp [h'] at h0 h1; rw [h0] at h1; cases h1
     ·simp [Array.getElem?_eq_none h'] at h1
    have h2 := wpOp_putIf hoj (hfree j oj hoj hji hjun hnot) (fun cs b => hsel i oi cs b hi) (fun cs b => hsel j oj cs b hoj) hQ hy h1
    have hfree' : ∀ k ok, ops[k]? = some ok → k ≠ i → (listed.setIfInBounds j true).getD k true = false →
     (∀ e ∈ ok.after, Region.binds md e = true → e.on ≠ i) → oi.apart ops ok = true := fun k ok hk hki hun hno => by
     refine hfree k ok hk hki ?_ hno
     by_cases hjk : j = k
     ·subst hjk; exact hjun
     ·rw [getD_set_ne true hjk] at hun; exact hun
    refine wpOp_mono (fun a' w' h3 => ?_) h2
    have hSw : S w' := h3.2.1.resolve_left hjl
    refine ⟨.inr hSw, ih (listed.setIfInBounds j true) a' w' hfree' (ready_mono hr (Ne.symm hji)) h3.1 hSw ?_⟩
    rw [Array.setIfInBounds_comm _ _ hji]
    exact h3.2.2
theorem wpAnyN_takeD {i d : Nat} {oi : Oper} {v : Value} {fuel : Nat} {listed : Array Bool} {a : Act} {w : World} (hl : ops.size ≤ last) (hi : ops[i]? = some oi) (hd : oi.dst = some d)
 (hs : Region.noSelect ops = true) (hf : Region.free md ops listed i = true) (hr : (Region.ready md ops listed).contains i = true)
 (hQ : ∀ c a w, Q (.panic c) (a.put oi.dst v) w → Q (.panic c) a w) (hy : YieldsIf P ops S oi v a) (hS : S w)
 (h : wpAnyF P md ops Q S last fuel (listed.setIfInBounds i true) { a with tmps := a.tmps.setIfInBounds d v } w) : wpAnyF P md ops Q S last (fuel + 1) listed a w :=
 wpAnyN_first hl hi (Region.noSelect_spec hs) hQ fuel listed a w (Region.free_spec hi hf) (by simpa using hr) hy hS (by rw [hd]; exact h)
theorem t_n {P : Program} {ops : Array Oper} {Q : Exit → Act → World → Prop} {md : Region.Mode} {oi : Oper} {fuel : Nat} {listed : Array Bool} {a : Act} {w : World} {S : World → Prop} {last : Nat} (i d : Nat) (v : Value) (hi : ops[i]? = some oi) (hB : (decide (ops.size ≤ last) && t_B md ops listed i d) = true) (hw : Region.wanted oi (yielded ops a.tmps) = true) (hQ : ∀ c a w, Q (.panic c) (a.put oi.dst v) w → Q (.panic c) a w) (hy : ∀ V, S V → (execOp a.eval oi).run P V = .ok (.value v) V) (hS : S w) (h : wpAnyF P md ops Q S last fuel (listed.setIfInBounds i true) { a with tmps := a.tmps.setIfInBounds d v } w) : wpAnyF P md ops Q S last (fuel + 1) listed a w := by
 simp only [Bool.and_eq_true, decide_eq_true_eq] at hB
 obtain ⟨h1, h2, h3, h4⟩ := t_B_spec hi hB.2
 exact wpAnyN_takeD hB.1 hi h1 h2 h3 h4 hQ (.inl ⟨hw, hy⟩) hS h
end
end Go.Proofs.YthjmkmjojlfejaaGreat
