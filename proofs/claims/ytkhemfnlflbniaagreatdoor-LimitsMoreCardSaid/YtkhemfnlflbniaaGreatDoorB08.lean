/- Merged text 8 of the base: Ff, Fg, Fh, Fi, Tk, Kc, E20, Yf, Co1, Co2, Co3, Co4. No conditions beyond those stated. -/
import Derived.Test.YtkhemfnlflbniaaGreatDoorB07
import Derived.Test.YtkhemfnlflbniaaGreatDoorB02
import Derived.Test.YtkhemfnlflbniaaGreatDoorB03
import Derived.Laws.Rows
import Derived.Laws.Tables
import Derived.Laws.CopyOwn
import Derived.Test.YtkhemfnlflbniaaGreatDoorB05
import Derived.Test.YtkhemfnlflbniaaGreatDoorB06
import Derived.Test.YtkhemfnlflbniaaGreatDoorB04
namespace Go.Proofs.YtkhemfnlflbniaaGreatDoor
open Go Go.RowKit Go.Shelf
def Fld.chkC (F : Fld) : Int := if stasTo F.sts F.sts.length = false then 30 else if parsTo F.prs F.prs.length = false then 30 else 0
def Fld.chkB (F : Fld) : Int := if F.sts.any (fun s => !inR s.x 0 100000) then 1 else if F.prs.any (fun p => !parRange F.lms.length F.sts.length p) then 1 else F.chkC
def Fld.chkA (F : Fld) : Int := if F.names.any (fun l => l.any fun s => !isNameB s) then 4 else if F.names.any (fun l => twiceTo l l.length) then 6 else F.chkB
theorem Fld.check_eq (F : Fld) : F.check = if 12 < F.sts.length ∨ 10 < F.lms.length ∨ 40 < F.prs.length then 2 else if F.sts.length < 2 ∨ F.lms.length < 1 then 5 else if checkVrns F.vrs ≠ 0 then checkVrns F.vrs else F.chkA := rfl
theorem idxN0 (a b c : Option Addr) (l m n i j k : Nat) (w : World) : (Instr.index 225 (.agg #[.slice a l i, .slice b m j, .slice c n k]) (.int .i64 0)).run Tryz.prog w = .ok (.slice a l i) w := by kernel_rfl
theorem idxN1 (a b c : Option Addr) (l m n i j k : Nat) (w : World) : (Instr.index 225 (.agg #[.slice a l i, .slice b m j, .slice c n k]) (.int .i64 1)).run Tryz.prog w = .ok (.slice b m j) w := by kernel_rfl
theorem idxN2 (a b c : Option Addr) (l m n i j k : Nat) (w : World) : (Instr.index 225 (.agg #[.slice a l i, .slice b m j, .slice c n k]) (.int .i64 2)).run Tryz.prog w = .ok (.slice c n k) w := by kernel_rfl
theorem stasTo_succ (l : List Sta) (k : Nat) : stasTo l (k + 1) = (stasTo l k && (k == 0 || decide ((l.getD (k - 1) sta0).x < (l.getD k sta0).x))) := by
 unfold stasTo
 rw [List.range_succ, List.all_append]
 simp
theorem stasTo_mono {l : List Sta} {k n : Nat} (h : k ≤ n) (hk : stasTo l k = false) : stasTo l n = false := by
 unfold stasTo at *
 rw [← Bool.not_eq_true, List.all_eq_true] at *
 intro hh
 exact hk fun x hx => hh x (List.mem_range.2 (by have := List.mem_range.1 hx; omega))
theorem parsTo_succ (l : List Par) (k : Nat) : parsTo l (k + 1) = (parsTo l k && (decide ((l.getD k par0).wst < (l.getD k par0).est) && !(l.take k).any (overB (l.getD k par0)))) := by
 unfold parsTo
 rw [List.range_succ, List.all_append]
 simp
theorem parsTo_mono {l : List Par} {k n : Nat} (h : k ≤ n) (hk : parsTo l k = false) : parsTo l n = false := by
 unfold parsTo at *
 rw [← Bool.not_eq_true, List.all_eq_true] at *
 intro hh
 exact hk fun x hx => hh x (List.mem_range.2 (by have := List.mem_range.1 hx; omega))
theorem parRange_small {nL nS : Nat} {p : Par} (h : parRange nL nS p = true) (h1 : nL ≤ 1000) (h2 : nS ≤ 1000) : p.small := by
 unfold parRange inR at h
 simp at h
 unfold Par.small
 omega
set_option maxRecDepth 100000 in
set_option maxHeartbeats 8000000 in
theorem checkField_any (w : World) (x : FV) (F : Fld) (h : FldAt w x F) : Calls Tryz.prog 136 #[x.val F] w fun e w' => e = .returned (.int .i64 F.check) ∧ Below w.heap.size w w' := by
 have H := hidE h
 obtain ⟨Q, hQ⟩ : ∃ Q, F.check = Q := ⟨_, rfl⟩
 rw [hQ]
 rw [Fld.check_eq] at hQ
 obtain ⟨aS, cS, aL, cL, aP, cP, aV, cV⟩ := x
 obtain ⟨st, lm, pr, vr⟩ := F
 unfold FV.val FV.arr
 dsimp only at hQ ⊢
 clear h
 have b0 : Below w.heap.size w (w.alloc (.cells #[.slice aS st.length cS, .slice aL lm.length cL, .slice aP pr.length cP, .slice aV vr.length cV] 27)) := (Below.refl _ _).alloc (Nat.le_refl _) _
 have B0 := hidE b0
 clear b0
 by_cases h2 : 12 < st.length ∨ 10 < lm.length ∨ 40 < pr.length
 ·obtain rfl : (2 : Int) = Q := by rw [if_pos h2] at hQ; exact hQ
  clear hQ H
  go_enter Tryz.func136, Tryz.ntmps136
  go_wp2_with fail
  all_goals first | (exfalso; omega) | (go_ret; exact ⟨rfl, B0.out⟩)
 rw [if_neg h2] at hQ
 have s1 : st.length ≤ 12 := by omega
 have s2 : lm.length ≤ 10 := by omega
 have s3 : pr.length ≤ 40 := by omega
 have d1 : decide ((st.length : Int) > 12) = false := by simp; omega
 have d2 : decide ((lm.length : Int) > 10) = false := by simp; omega
 have d3 : decide ((pr.length : Int) > 40) = false := by simp; omega
 clear h2
 by_cases h5 : st.length < 2 ∨ lm.length < 1
 ·obtain rfl : (5 : Int) = Q := by rw [if_pos h5] at hQ; exact hQ
  clear hQ H
  go_enter Tryz.func136, Tryz.ntmps136
  go_wp2_with fail
  all_goals first | (exfalso; omega) | (go_ret; exact ⟨rfl, B0.out⟩)
 rw [if_neg h5] at hQ
 have s4 : 2 ≤ st.length := by omega
 have s5 : 1 ≤ lm.length := by omega
 have d4 : decide ((st.length : Int) < 2) = false := by simp; omega
 have d5 : decide ((lm.length : Int) < 1) = false := by simp; omega
 clear h5
 have hvr := checkVrns_any (w.alloc (.cells #[.slice aS st.length cS, .slice aL lm.length cL, .slice aP pr.length cP, .slice aV vr.length cV] 27)) aV cV vr (by have := H.out.lv; dsimp only at this; omega) (H.out.vr.alloc _)
 obtain ⟨c, hc⟩ : ∃ c, checkVrns vr = c := ⟨_, rfl⟩
 rw [hc] at hvr hQ
 have HVR := hidE hvr
 clear hvr hc
 by_cases hz : c = 0
 ·subst hz
  have HQ : Hid ((Fld.mk st lm pr vr).chkA = Q) := hidE (by simpa using hQ)
  clear hQ
  have HN := hidE (fun (W : World) (hb : Below w.heap.size w W) => names_any W ⟨aS, cS, aL, cL, aP, cP, aV, cV⟩ ⟨st, lm, pr, vr⟩ (by show st.length ≤ 4000; omega) (by show pr.length ≤ 4000; omega) (H.out.below hb))
  unfold FV.val FV.arr at HN
  dsimp only at HN
  go_enter Tryz.func136, Tryz.ntmps136
  go_wp2_with fail
  refine HVR.out.mono ?_
  rintro e w1 ⟨rfl, hb1⟩
  have x1 := blk_below hb1 (by simp) (heap_alloc_new w (.cells #[.slice aS st.length cS, .slice aL lm.length cL, .slice aP pr.length cP, .slice aV vr.length cV] 27))
  have c0 : w1.cell? ⟨w.heap.size, 0, none⟩ = some (.slice aS st.length cS) := c_e x1 rfl
  have c1 : w1.cell? ⟨w.heap.size, 1, none⟩ = some (.slice aL lm.length cL) := c_e x1 rfl
  have c2 : w1.cell? ⟨w.heap.size, 2, none⟩ = some (.slice aP pr.length cP) := c_e x1 rfl
  have c3 : w1.cell? ⟨w.heap.size, 3, none⟩ = some (.slice aV vr.length cV) := c_e x1 rfl
  have B1 := hidE (B0.out.trans (hb1.mono B0.out.size))
  have X1 := hidE x1
  have l1 := lt_of_block x1
  clear hb1 x1
  go_wp2_with fail
  refine (HN.out _ B1.out).mono ?_
  rintro e w2 ⟨⟨p0, q0, p2, q2, rfl, n0, m0, n2, m2⟩, hb2⟩
  dsimp only at n0 m0 n2 m2
  have x2 := blk_below hb2 l1 X1.out
  have B2 := hidE (B1.out.trans (hb2.mono B1.out.size))
  have X2 := hidE x2
  have l2 := lt_of_block x2
  have HCF0 := hidE (fun (W : World) (hb : Below w2.heap.size w2 W) => containsFuncStrs_any W p0 q0 (st.map Sta.name) 208 #[] (fun s => !isNameB s) (by rw [List.length_map]; omega) (n0.below hb (Nat.le_refl _)) (fun k hk W' _ => (isNot_any _ W' (H.out.nm (st.map Sta.name) (by simp [Fld.names]) _ (List.getElem_mem hk))).mono fun _ _ ⟨he, hw⟩ => ⟨he, hw ▸ Below.refl _ _⟩) (enters_of Tryz.func208 (by kernel_rfl) rfl))
  have HCF1 := hidE (fun (W : World) (hb : Below w2.heap.size w2 W) => containsFuncStrs_any W aL cL lm 208 #[] (fun s => !isNameB s) (by omega) (H.out.lm.below (B2.out.trans (hb.mono B2.out.size)) (Nat.le_refl _)) (fun k hk W' _ => (isNot_any _ W' (H.out.nm lm (by simp [Fld.names]) _ (List.getElem_mem hk))).mono fun _ _ ⟨he, hw⟩ => ⟨he, hw ▸ Below.refl _ _⟩) (enters_of Tryz.func208 (by kernel_rfl) rfl))
  have HCF2 := hidE (fun (W : World) (hb : Below w2.heap.size w2 W) => containsFuncStrs_any W p2 q2 (pr.map Par.name) 208 #[] (fun s => !isNameB s) (by rw [List.length_map]; omega) (n2.below hb (Nat.le_refl _)) (fun k hk W' _ => (isNot_any _ W' (H.out.nm (pr.map Par.name) (by simp [Fld.names]) _ (List.getElem_mem hk))).mono fun _ _ ⟨he, hw⟩ => ⟨he, hw ▸ Below.refl _ _⟩) (enters_of Tryz.func208 (by kernel_rfl) rfl))
  rw [List.length_map] at HCF0 HCF2
  obtain ⟨r0, hr0⟩ : ∃ r, ((st.map Sta.name).any fun s => !isNameB s) = r := ⟨_, rfl⟩
  obtain ⟨r1, hr1⟩ : ∃ r, (lm.any fun s => !isNameB s) = r := ⟨_, rfl⟩
  obtain ⟨r2, hr2⟩ : ∃ r, ((pr.map Par.name).any fun s => !isNameB s) = r := ⟨_, rfl⟩
  rw [hr0] at HCF0
  rw [hr1] at HCF1
  rw [hr2] at HCF2
  have HR := hidE (show ((Fld.mk st lm pr vr).names.any fun l => l.any fun s => !isNameB s) = (r0 || (r1 || r2)) by simp only [Fld.names, List.any_cons, List.any_nil, hr0, hr1, hr2, Bool.or_false])
  have B2s := hidE (Below.refl w2.heap.size w2)
  clear hb2 x2 n0 m0 n2 m2 hr0 hr1 hr2 c0 c1 c2 c3 d1 d2 d3 d4 d5
  go_wp2_with fail
  go_loopw [52] (fun i wr => ∃ k : Nat, k ≤ 3 ∧ i = .int .i64 k ∧ Hid (0 < k → r0 = false) ∧ Hid (1 < k → r1 = false) ∧ Hid (2 < k → r2 = false) ∧ Below w2.heap.size w2 wr) (fun i _ => 3 - (intOf i).toNat)
  case atStart => exact ⟨0, by omega, rfl, hidE (fun h => absurd h (by omega)), hidE (fun h => absurd h (by omega)), hidE (fun h => absurd h (by omega)), Below.refl _ _⟩
  case round =>
   obtain ⟨k, hk, rfl, k0, k1, k2, hb⟩ := hrel
   have hk4 : k = 0 ∨ k = 1 ∨ k = 2 ∨ k = 3 := by omega
   rcases hk4 with rfl | rfl | rfl | rfl
   ·have hix := idxN0 p0 aL p2 st.length lm.length pr.length q0 cL q2
    cases r0 with
    | true =>
      obtain rfl : (4 : Int) = Q := by rw [← HQ.out]; unfold Fld.chkA; rw [HR.out]; simp
      go_wp2_with fail
      refine (HCF0.out _ hb).mono ?_
      rintro e w3 ⟨rfl, hb3⟩
      go_wp2_with fail
      go_ret
      exact ⟨rfl, B2.out.trans ((hb.trans (hb3.mono hb.size)).mono B2.out.size)⟩
    | false =>
      go_wp2_with fail
      refine (HCF0.out _ hb).mono ?_
      rintro e w3 ⟨rfl, hb3⟩
      go_wp2_with fail
      go_roundw
      case rel => exact ⟨1, by omega, (by first | trivial | rfl), (by first | exact hidE (fun _ => rfl) | trivial | exact hidE (fun _ => trivial)), hidE (fun h => absurd h (by omega)), hidE (fun h => absurd h (by omega)), hb.trans (hb3.mono hb.size)⟩
      case measure => simp [intOf]
   ·have hix := idxN1 p0 aL p2 st.length lm.length pr.length q0 cL q2
    cases r1 with
    | true =>
      obtain rfl : (4 : Int) = Q := by rw [← HQ.out]; unfold Fld.chkA; rw [HR.out]; simp
      go_wp2_with fail
      refine (HCF1.out _ hb).mono ?_
      rintro e w3 ⟨rfl, hb3⟩
      go_wp2_with fail
      go_ret
      exact ⟨rfl, B2.out.trans ((hb.trans (hb3.mono hb.size)).mono B2.out.size)⟩
    | false =>
      go_wp2_with fail
      refine (HCF1.out _ hb).mono ?_
      rintro e w3 ⟨rfl, hb3⟩
      go_wp2_with fail
      go_roundw
      case rel => exact ⟨2, by omega, (by first | trivial | rfl), hidE (fun _ => k0.out (by omega)), (by first | exact hidE (fun _ => rfl) | trivial | exact hidE (fun _ => trivial)), hidE (fun h => absurd h (by omega)), hb.trans (hb3.mono hb.size)⟩
      case measure => simp [intOf]
   ·have hix := idxN2 p0 aL p2 st.length lm.length pr.length q0 cL q2
    cases r2 with
    | true =>
      obtain rfl : (4 : Int) = Q := by rw [← HQ.out]; unfold Fld.chkA; rw [HR.out]; simp
      go_wp2_with fail
      refine (HCF2.out _ hb).mono ?_
      rintro e w3 ⟨rfl, hb3⟩
      go_wp2_with fail
      go_ret
      exact ⟨rfl, B2.out.trans ((hb.trans (hb3.mono hb.size)).mono B2.out.size)⟩
    | false =>
      go_wp2_with fail
      refine (HCF2.out _ hb).mono ?_
      rintro e w3 ⟨rfl, hb3⟩
      go_wp2_with fail
      go_roundw
      case rel => exact ⟨3, by omega, (by first | trivial | rfl), hidE (fun _ => k0.out (by omega)), hidE (fun _ => k1.out (by omega)), (by first | exact hidE (fun _ => rfl) | trivial | exact hidE (fun _ => trivial)), hb.trans (hb3.mono hb.size)⟩
      case measure => simp [intOf]
   ·have hn : ((Fld.mk st lm pr vr).names.any fun l => l.any fun s => !isNameB s) = false := by rw [HR.out, k0.out (by omega), k1.out (by omega), k2.out (by omega)]; rfl
    have HQ2 : Hid ((if (Fld.mk st lm pr vr).names.any (fun l => twiceTo l l.length) then 6 else (Fld.mk st lm pr vr).chkB) = Q) := hidE (by rw [← HQ.out]; unfold Fld.chkA; rw [hn]; rfl)
    have B3 := hidE (B2.out.trans (hb.mono B2.out.size))
    have x3 := blk_below hb l2 X2.out
    have c0 : wr.cell? ⟨w.heap.size, 0, none⟩ = some (.slice aS st.length cS) := c_e x3 rfl
    have c1 : wr.cell? ⟨w.heap.size, 1, none⟩ = some (.slice aL lm.length cL) := c_e x3 rfl
    have c2 : wr.cell? ⟨w.heap.size, 2, none⟩ = some (.slice aP pr.length cP) := c_e x3 rfl
    have c3 : wr.cell? ⟨w.heap.size, 3, none⟩ = some (.slice aV vr.length cV) := c_e x3 rfl
    have X3 := hidE x3
    have l3 := lt_of_block x3
    obtain ⟨w3, rfl⟩ : ∃ X : World, X = wr := ⟨wr, rfl⟩
    clear hn HQ HR HCF0 HCF1 HCF2 k0 k1 k2 hb x3 B2s
    go_wp2_with fail
    refine (HN.out _ B3.out).mono ?_
    rintro e w4 ⟨⟨p4, q4, p6, q6, rfl, n0, m0, n2, m2⟩, hb4⟩
    dsimp only at n0 m0 n2 m2
    have x4 := blk_below hb4 l3 X3.out
    have B4 := hidE (B3.out.trans (hb4.mono B3.out.size))
    have X4 := hidE x4
    have l4 := lt_of_block x4
    have HTW0 := hidE (twice_any w4 p4 q4 (st.map Sta.name) (by rw [List.length_map]; exact m0.1) m0.2 n0)
    have HTW1 := hidE (twice_any w4 aL cL lm H.out.ll.1 H.out.ll.2 (H.out.lm.below B4.out (Nat.le_refl _)))
    have HTW2 := hidE (twice_any w4 p6 q6 (pr.map Par.name) (by rw [List.length_map]; exact m2.1) m2.2 n2)
    obtain ⟨t0, ht0⟩ : ∃ r, twiceTo (st.map Sta.name) (st.map Sta.name).length = r := ⟨_, rfl⟩
    obtain ⟨t1, ht1⟩ : ∃ r, twiceTo lm lm.length = r := ⟨_, rfl⟩
    obtain ⟨t2, ht2⟩ : ∃ r, twiceTo (pr.map Par.name) (pr.map Par.name).length = r := ⟨_, rfl⟩
    have HR := hidE (show ((Fld.mk st lm pr vr).names.any fun l => twiceTo l l.length) = (t0 || (t1 || t2)) by simp only [Fld.names, List.any_cons, List.any_nil, ht0, ht1, ht2, Bool.or_false])
    rw [ht0] at HTW0
    rw [ht1] at HTW1
    rw [ht2] at HTW2
    rw [List.length_map] at HTW0 HTW2
    clear hb4 x4 n0 m0 n2 m2 ht0 ht1 ht2 c0 c1 c2 c3
    go_wp2_with fail
    go_loopw [60] (fun i wr => ∃ k : Nat, k ≤ 3 ∧ i = .int .i64 k ∧ Hid (0 < k → t0 = false) ∧ Hid (1 < k → t1 = false) ∧ Hid (2 < k → t2 = false) ∧ wr = w4) (fun i _ => 3 - (intOf i).toNat)
    case atStart => exact ⟨0, by omega, rfl, hidE (fun h => absurd h (by omega)), hidE (fun h => absurd h (by omega)), hidE (fun h => absurd h (by omega)), rfl⟩
    case round =>
     obtain ⟨k, hk, rfl, k0, k1, k2, rfl⟩ := hrel
     obtain ⟨w4, rfl⟩ : ∃ X : World, X = wr := ⟨wr, rfl⟩
     have hk4 : k = 0 ∨ k = 1 ∨ k = 2 ∨ k = 3 := by omega
     rcases hk4 with rfl | rfl | rfl | rfl
     ·have hix := idxN0 p4 aL p6 st.length lm.length pr.length q4 cL q6
      cases t0 with
      | true =>
        obtain rfl : (6 : Int) = Q := by rw [← HQ2.out, HR.out]; simp
        go_wp2_with fail
        refine HTW0.out.mono ?_
        rintro e w5 ⟨rfl, rfl⟩
        go_wp2_with fail
        go_ret
        exact ⟨rfl, B4.out⟩
      | false =>
        go_wp2_with fail
        refine HTW0.out.mono ?_
        rintro e w5 ⟨rfl, rfl⟩
        go_wp2_with fail
        go_roundw
        case rel => exact ⟨1, by omega, (by first | trivial | rfl), (by first | exact hidE (fun _ => rfl) | trivial | exact hidE (fun _ => trivial)), hidE (fun h => absurd h (by omega)), hidE (fun h => absurd h (by omega)), (by first | trivial | rfl)⟩
        case measure => simp [intOf]
     ·have hix := idxN1 p4 aL p6 st.length lm.length pr.length q4 cL q6
      cases t1 with
      | true =>
        obtain rfl : (6 : Int) = Q := by rw [← HQ2.out, HR.out]; simp
        go_wp2_with fail
        refine HTW1.out.mono ?_
        rintro e w5 ⟨rfl, rfl⟩
        go_wp2_with fail
        go_ret
        exact ⟨rfl, B4.out⟩
      | false =>
        go_wp2_with fail
        refine HTW1.out.mono ?_
        rintro e w5 ⟨rfl, rfl⟩
        go_wp2_with fail
        go_roundw
        case rel => exact ⟨2, by omega, (by first | trivial | rfl), hidE (fun _ => k0.out (by omega)), (by first | exact hidE (fun _ => rfl) | trivial | exact hidE (fun _ => trivial)), hidE (fun h => absurd h (by omega)), (by first | trivial | rfl)⟩
        case measure => simp [intOf]
     ·have hix := idxN2 p4 aL p6 st.length lm.length pr.length q4 cL q6
      cases t2 with
      | true =>
        obtain rfl : (6 : Int) = Q := by rw [← HQ2.out, HR.out]; simp
        go_wp2_with fail
        refine HTW2.out.mono ?_
        rintro e w5 ⟨rfl, rfl⟩
        go_wp2_with fail
        go_ret
        exact ⟨rfl, B4.out⟩
      | false =>
        go_wp2_with fail
        refine HTW2.out.mono ?_
        rintro e w5 ⟨rfl, rfl⟩
        go_wp2_with fail
        go_roundw
        case rel => exact ⟨3, by omega, (by first | trivial | rfl), hidE (fun _ => k0.out (by omega)), hidE (fun _ => k1.out (by omega)), (by first | exact hidE (fun _ => rfl) | trivial | exact hidE (fun _ => trivial)), (by first | trivial | rfl)⟩
        case measure => simp [intOf]
     ·have hn : ((Fld.mk st lm pr vr).names.any fun l => twiceTo l l.length) = false := by rw [HR.out, k0.out (by omega), k1.out (by omega), k2.out (by omega)]; rfl
      have HQ3 : Hid ((Fld.mk st lm pr vr).chkB = Q) := hidE (by rw [← HQ2.out, hn]; rfl)
      have c0 : w4.cell? ⟨w.heap.size, 0, none⟩ = some (.slice aS st.length cS) := c_e X4.out rfl
      have c1 : w4.cell? ⟨w.heap.size, 1, none⟩ = some (.slice aL lm.length cL) := c_e X4.out rfl
      have c2 : w4.cell? ⟨w.heap.size, 2, none⟩ = some (.slice aP pr.length cP) := c_e X4.out rfl
      have c3 : w4.cell? ⟨w.heap.size, 3, none⟩ = some (.slice aV vr.length cV) := c_e X4.out rfl
      clear hn HQ2 HR HTW0 HTW1 HTW2 k0 k1 k2
      go_wp2_with fail
      go_loopw [69] (fun i wr => ∃ k : Nat, k ≤ st.length ∧ i = .int .i64 k ∧ Hid ((st.take k).any (fun s => !inR s.x 0 100000) = false) ∧ Below w4.heap.size w4 wr) (fun i _ => st.length - (intOf i).toNat)
      case atStart => exact ⟨0, by omega, rfl, hidE rfl, Below.refl _ _⟩
      case round =>
       obtain ⟨k, hk, rfl, HA, hb⟩ := hrel
       by_cases hlt : k < st.length
       ·obtain ⟨b, off, rfl, hbl, hcc⟩ := RecsAt.at H.out.st hlt
        have e0 := hcc 0 (by omega)
        have e1 := hcc 1 (by omega)
        rw [← (B4.out.trans (hb.mono B4.out.size)).cell hbl, Nat.add_zero] at e0
        rw [← (B4.out.trans (hb.mono B4.out.size)).cell hbl] at e1
        obtain ⟨y, hy⟩ : ∃ y, st[k] = y := ⟨_, rfl⟩
        dsimp only at e0 e1
        rw [hy] at e0 e1
        simp only [Sta.cells, List.getElem?_cons_zero, List.getElem?_cons_succ] at e0 e1
        have HY := hidE hy
        have BB := hidE hb
        have BW := hidE (B4.out.trans (hb.mono B4.out.size))
        have hsz := BB.out.size
        clear hy hcc hb c0 c1 c2 c3
        cases hi : inR y.x 0 100000 with
        | false =>
          obtain rfl : (1 : Int) = Q := by
           rw [← HQ3.out]; unfold Fld.chkB
           rw [if_pos (any_of_at (l := st) (p := fun s => !inR s.x 0 100000) hlt (by rw [HY.out, hi]; rfl))]
          have HI := hidE (fun W => inD_at hi W)
          clear hi
          go_wp2_with fail
          refine (HI.out _).mono ?_
          rintro e w5 ⟨rfl, rfl⟩
          go_wp2_with fail
          go_ret
          exact ⟨rfl, BW.out.alloc BW.out.size _⟩
        | true =>
          have HI := hidE (fun W => inD_at hi W)
          have HA2 := hidE (take_any_succ (p := fun s : Sta => !inR s.x 0 100000) hlt HA.out (by rw [HY.out, hi]; rfl))
          clear hi
          go_wp2_with fail
          refine (HI.out _).mono ?_
          rintro e w5 ⟨rfl, rfl⟩
          go_wp2_with fail
          go_roundw
          case rel => first | exact ⟨k + 1, by omega, by go_num, HA2, BB.out.alloc hsz _⟩ | ((repeat apply Exists.intro); exact ⟨⟨k + 1, by omega, by go_num, HA2, BB.out.alloc hsz _⟩, rfl⟩)
          case measure => simp [intOf]; omega
       ·obtain rfl : k = st.length := by omega
        have hn := any_of_take (Nat.le_refl _) HA.out
        have HQ4 : Hid ((if pr.any (fun p => !parRange lm.length st.length p) then 1 else (Fld.mk st lm pr vr).chkC) = Q) := hidE (by have h3 := HQ3.out; unfold Fld.chkB at h3; dsimp only at h3; rw [hn, if_neg (by simp)] at h3; exact h3)
        have B5 := hidE (B4.out.trans (hb.mono B4.out.size))
        have x5 := blk_below hb l4 X4.out
        have X5 := hidE x5
        have l5 := lt_of_block x5
        obtain ⟨w5, rfl⟩ : ∃ X : World, X = wr := ⟨wr, rfl⟩
        clear hn HQ3 HA c0 c1 c2 c3
        have c0 : w5.cell? ⟨w.heap.size, 0, none⟩ = some (.slice aS st.length cS) := c_e x5 rfl
        have c1 : w5.cell? ⟨w.heap.size, 1, none⟩ = some (.slice aL lm.length cL) := c_e x5 rfl
        have c2 : w5.cell? ⟨w.heap.size, 2, none⟩ = some (.slice aP pr.length cP) := c_e x5 rfl
        have c3 : w5.cell? ⟨w.heap.size, 3, none⟩ = some (.slice aV vr.length cV) := c_e x5 rfl
        clear x5 hb
        go_wp2_with fail
        go_loopw [81] (fun i wr => ∃ k : Nat, k ≤ pr.length ∧ i = .int .i64 k ∧ Hid ((pr.take k).any (fun p : Par => !parRange lm.length st.length p) = false) ∧ Below w5.heap.size w5 wr) (fun i _ => pr.length - (intOf i).toNat)
        case atStart => exact ⟨0, by omega, rfl, hidE rfl, Below.refl _ _⟩
        case round =>
         obtain ⟨k, hk, rfl, HA, hb⟩ := hrel
         by_cases hlt : k < pr.length
         ·obtain ⟨b, off, rfl, hbl, hcc⟩ := RecsAt.at H.out.pr hlt
          have e0 := hcc 0 (by omega)
          have e1 := hcc 1 (by omega)
          have e2 := hcc 2 (by omega)
          have e3 := hcc 3 (by omega)
          rw [← (B5.out.trans (hb.mono B5.out.size)).cell hbl, Nat.add_zero] at e0
          rw [← (B5.out.trans (hb.mono B5.out.size)).cell hbl] at e1 e2 e3
          obtain ⟨y, hy⟩ : ∃ y, pr[k] = y := ⟨_, rfl⟩
          dsimp only at e0 e1 e2 e3
          rw [hy] at e0 e1 e2 e3
          simp only [Par.cells, List.getElem?_cons_zero, List.getElem?_cons_succ] at e0 e1 e2 e3
          have HY := hidE hy
          have BB := hidE hb
          have BW := hidE (B5.out.trans (hb.mono B5.out.size))
          have hsz := BB.out.size
          have xr := blk_below hb l5 X5.out
          have lr := lt_of_block xr
          clear hy hcc hb c0 c1 c2 c3
          have g0 : wr.cell? ⟨w.heap.size, 0, none⟩ = some (.slice aS st.length cS) := c_e xr rfl
          have g1 : wr.cell? ⟨w.heap.size, 1, none⟩ = some (.slice aL lm.length cL) := c_e xr rfl
          have g2 : wr.cell? ⟨w.heap.size, 2, none⟩ = some (.slice (some ⟨b, off, none⟩) pr.length cP) := c_e xr rfl
          have g3 : wr.cell? ⟨w.heap.size, 3, none⟩ = some (.slice aV vr.length cV) := c_e xr rfl
          have HPR : Hid (parRange lm.length st.length y = (inR y.south 0 ((lm.length : Int) - 2) && inR y.wst 0 ((st.length : Int) - 1) && inR y.est 0 ((st.length : Int) - 1))) := hidE rfl
          clear xr
          obtain ⟨ys, y0, y1, y2⟩ := y
          dsimp only at e0 e1 e2 e3 HPR
          cases hi1 : inR y0 0 ((lm.length : Int) - 2) with
          | false =>
            obtain rfl : (1 : Int) = Q := by
             rw [← HQ4.out, if_pos (any_of_at (l := pr) (p := fun p : Par => !parRange lm.length st.length p) hlt (by rw [HY.out, HPR.out, hi1]; rfl))]
            have HI1 := hidE (fun W => inD_at hi1 W)
            clear hi1
            go_wp2_with fail
            refine (HI1.out _).mono ?_
            rintro e w6 ⟨rfl, rfl⟩
            go_wp2_with fail
            go_ret
            exact ⟨rfl, BW.out.alloc BW.out.size _⟩
          | true =>
            have HI1 := hidE (fun W => inD_at hi1 W)
            cases hi2 : inR y1 0 ((st.length : Int) - 1) with
            | false =>
              obtain rfl : (1 : Int) = Q := by
               rw [← HQ4.out, if_pos (any_of_at (l := pr) (p := fun p : Par => !parRange lm.length st.length p) hlt (by rw [HY.out, HPR.out, hi1, hi2]; rfl))]
              have HI2 := hidE (fun W => inD_at hi2 W)
              clear hi1 hi2
              go_wp2_with fail
              refine (HI1.out _).mono ?_
              rintro e w6 ⟨rfl, rfl⟩
              go_wp2_with fail
              refine (HI2.out _).mono ?_
              rintro e w6 ⟨rfl, rfl⟩
              go_wp2_with fail
              go_ret
              exact ⟨rfl, BW.out.alloc BW.out.size _⟩
            | true =>
              have HI2 := hidE (fun W => inD_at hi2 W)
              cases hi3 : inR y2 0 ((st.length : Int) - 1) with
              | false =>
                obtain rfl : (1 : Int) = Q := by
                 rw [← HQ4.out, if_pos (any_of_at (l := pr) (p := fun p : Par => !parRange lm.length st.length p) hlt (by rw [HY.out, HPR.out, hi1, hi2, hi3]; rfl))]
                have HI3 := hidE (fun W => inD_at hi3 W)
                clear hi1 hi2 hi3
                go_wp2_with fail
                refine (HI1.out _).mono ?_
                rintro e w6 ⟨rfl, rfl⟩
                go_wp2_with fail
                refine (HI2.out _).mono ?_
                rintro e w6 ⟨rfl, rfl⟩
                go_wp2_with fail
                refine (HI3.out _).mono ?_
                rintro e w6 ⟨rfl, rfl⟩
                go_wp2_with fail
                go_ret
                exact ⟨rfl, BW.out.alloc BW.out.size _⟩
              | true =>
                have HI3 := hidE (fun W => inD_at hi3 W)
                have HA2 := hidE (take_any_succ (p := fun p : Par => !parRange lm.length st.length p) hlt HA.out (by rw [HY.out, HPR.out, hi1, hi2, hi3]; rfl))
                clear hi1 hi2 hi3
                go_wp2_with fail
                refine (HI1.out _).mono ?_
                rintro e w6 ⟨rfl, rfl⟩
                go_wp2_with fail
                refine (HI2.out _).mono ?_
                rintro e w6 ⟨rfl, rfl⟩
                go_wp2_with fail
                refine (HI3.out _).mono ?_
                rintro e w6 ⟨rfl, rfl⟩
                go_wp2_with fail
                go_roundw
                case rel => first | exact ⟨k + 1, by omega, by go_num, HA2, BB.out.alloc hsz _⟩ | ((repeat apply Exists.intro); exact ⟨⟨k + 1, by omega, by go_num, HA2, BB.out.alloc hsz _⟩, rfl⟩)
                case measure => simp [intOf]; omega
         ·obtain rfl : k = pr.length := by omega
          have hn := any_of_take (Nat.le_refl _) HA.out
          have HSM := hidE (fun p (hp : p ∈ pr) => parRange_small (nL := lm.length) (nS := st.length) (p := p) (by have := hn; rw [List.any_eq_false] at this; simpa using this p hp) (by omega) (by omega))
          have HQ5 : Hid ((Fld.mk st lm pr vr).chkC = Q) := hidE (by have h3 := HQ4.out; rw [hn, if_neg (by simp)] at h3; exact h3)
          have B6 := hidE (B5.out.trans (hb.mono B5.out.size))
          have x6 := blk_below hb l5 X5.out
          have X6 := hidE x6
          have l6 := lt_of_block x6
          obtain ⟨w6, rfl⟩ : ∃ X : World, X = wr := ⟨wr, rfl⟩
          clear hn HQ4 HA c0 c1 c2 c3
          clear x6 hb
          go_wp2_with fail
          go_loopw [12] (fun i wr => ∃ k nd : Nat, 1 ≤ k ∧ k ≤ st.length ∧ i = .int .i64 k ∧ Hid (stasTo st k = true) ∧ wr = w6.drewN nd) (fun i _ => st.length - (intOf i).toNat)
          case atStart => exact ⟨1, 0, by omega, by omega, rfl, hidE (by simp [stasTo, List.range_succ]), rfl⟩
          case round =>
           obtain ⟨k, nd, hk1, hk, rfl, HA, rfl⟩ := hrel
           have c0 : w6.cell? ⟨w.heap.size, 0, none⟩ = some (.slice aS st.length cS) := c_e X6.out rfl
           have c1 : w6.cell? ⟨w.heap.size, 1, none⟩ = some (.slice aL lm.length cL) := c_e X6.out rfl
           have c2 : w6.cell? ⟨w.heap.size, 2, none⟩ = some (.slice aP pr.length cP) := c_e X6.out rfl
           have c3 : w6.cell? ⟨w.heap.size, 3, none⟩ = some (.slice aV vr.length cV) := c_e X6.out rfl
           by_cases hlt : k < st.length
           ·obtain ⟨b, off, rfl, hbl, hcc⟩ := RecsAt.at H.out.st hlt
            have e1 := hcc 1 (by omega)
            obtain ⟨b', off', eq', _, hcc'⟩ := RecsAt.at H.out.st (show k - 1 < st.length by omega)
            cases eq'
            have f1 := hcc' 1 (by omega)
            rw [← B6.out.cell hbl] at e1 f1
            dsimp only at e1 f1
            simp only [Sta.cells, List.getElem?_cons_zero, List.getElem?_cons_succ] at e1 f1
            have HSUC := hidE (stasTo_succ st k)
            rw [show (st.getD (k - 1) sta0) = st[k - 1] from by simp [show k - 1 < st.length by omega], show st.getD k sta0 = st[k] from by simp [hlt]] at HSUC
            obtain ⟨u, hu⟩ : ∃ u, st[k - 1].x = u := ⟨_, rfl⟩
            obtain ⟨v, hv⟩ : ∃ v, st[k].x = v := ⟨_, rfl⟩
            rw [hu] at f1 HSUC
            rw [hv] at e1 HSUC
            obtain ⟨j, rfl⟩ : ∃ j, k = j + 1 := ⟨k - 1, by omega⟩
            simp only [Nat.add_sub_cancel] at f1
            have hj1 : (((j + 1 : Nat) : Int) - 1) = (j : Int) := by omega
            have hjw : IntKind.i64.wrap (j : Int) = (j : Int) := IntWalk.i64_in _ (by omega)
            have hdl : decide (((j + 1 : Nat) : Int) < (st.length : Int)) = true := by simp; omega
            have hjl : j < st.length := by omega
            clear hu hv hcc hcc'
            by_cases huv : u < v
            ·have hd : decide (u ≥ v) = false := by simp; omega
             have HS : Hid (stasTo st (j + 1 + 1) = true) := hidE (by rw [HSUC.out, HA.out]; simp [huv])
             clear huv
             go_wp2_with fail
             go_quiet (fail)
             go_wp2_with fail
             go_roundw
             case rel => exact ⟨j + 1 + 1, _, by omega, by omega, by go_num, HS, rfl⟩
             case measure => simp [intOf]; omega
            ·have hd : decide (u ≥ v) = true := by simp; omega
             obtain rfl : (30 : Int) = Q := by
              rw [← HQ5.out]; unfold Fld.chkC
              rw [if_pos (stasTo_mono (n := st.length) (k := j + 1 + 1) (by omega) (by rw [HSUC.out]; simp [huv]))]
             clear huv
             go_wp2_with fail
             go_quiet (fail)
             go_wp2_with fail
             go_ret
             exact ⟨rfl, (B6.out.trans (below_drewN' _ _)).trans (below_drewN' _ _)⟩
           ·obtain rfl : k = st.length := by omega
            have HQ6 : Hid ((if parsTo pr pr.length = false then 30 else 0) = Q) := hidE (by have h3 := HQ5.out; unfold Fld.chkC at h3; dsimp only at h3; rw [HA.out, if_neg (by simp)] at h3; exact h3)
            have hdl : decide ((st.length : Int) < (st.length : Int)) = false := by simp
            clear HQ5 HA
            go_wp2_with fail
            clear c0 c1 c2 c3
            obtain ⟨w7, hw7⟩ : ∃ X : World, X = w6.drewN nd := ⟨_, rfl⟩
            rw [← hw7]
            have B7 := hidE (show Below w.heap.size w w7 by rw [hw7]; exact B6.out.trans (below_drewN' _ _))
            have X7 := hidE (show w7.heap[w.heap.size]? = some (.cells #[.slice aS st.length cS, .slice aL lm.length cL, .slice aP pr.length cP, .slice aV vr.length cV] 27 (0,0)) by rw [hw7]; exact X6.out)
            have l7 := lt_of_block X7.out
            clear hw7
            go_loopw [138] (fun i wr => ∃ k : Nat, k ≤ pr.length ∧ i = .int .i64 k ∧ Hid (parsTo pr k = true) ∧ Below w7.heap.size w7 wr) (fun i _ => pr.length - (intOf i).toNat)
            case atStart => exact ⟨0, by omega, rfl, hidE rfl, Below.refl _ _⟩
            case round =>
             obtain ⟨k, hk, rfl, HA, hb⟩ := hrel
             by_cases hlt : k < pr.length
             ·obtain ⟨b, off, rfl, hbl, hcc⟩ := RecsAt.at H.out.pr hlt
              have e0 := hcc 0 (by omega)
              have e1 := hcc 1 (by omega)
              have e2 := hcc 2 (by omega)
              have e3 := hcc 3 (by omega)
              rw [← (B7.out.trans (hb.mono B7.out.size)).cell hbl, Nat.add_zero] at e0
              rw [← (B7.out.trans (hb.mono B7.out.size)).cell hbl] at e1 e2 e3
              obtain ⟨y, hy⟩ : ∃ y, pr[k] = y := ⟨_, rfl⟩
              dsimp only at e0 e1 e2 e3
              rw [hy] at e0 e1 e2 e3
              simp only [Par.cells, List.getElem?_cons_zero, List.getElem?_cons_succ] at e0 e1 e2 e3
              have HSUC := hidE (parsTo_succ pr k)
              rw [show pr.getD k par0 = y from by rw [← hy]; simp [hlt]] at HSUC
              have HYS := hidE (HSM.out y (by rw [← hy]; exact List.getElem_mem hlt))
              have HY := hidE hy
              have BB := hidE hb
              have BW := hidE (B7.out.trans (hb.mono B7.out.size))
              have hsz := BB.out.size
              have xr := blk_below hb l7 X7.out
              have lr := lt_of_block xr
              have lr2 : w.heap.size < wr.heap.size + 1 := by omega
              clear hy hcc hb
              have g0 : wr.cell? ⟨w.heap.size, 0, none⟩ = some (.slice aS st.length cS) := c_e xr rfl
              have g1 : wr.cell? ⟨w.heap.size, 1, none⟩ = some (.slice aL lm.length cL) := c_e xr rfl
              have g2 : wr.cell? ⟨w.heap.size, 2, none⟩ = some (.slice (some ⟨b, off, none⟩) pr.length cP) := c_e xr rfl
              have g3 : wr.cell? ⟨w.heap.size, 3, none⟩ = some (.slice aV vr.length cV) := c_e xr rfl
              clear xr
              have hkc : k ≤ cP := by have := H.out.lp.1; dsimp only at this; omega
              have hkd : decide (k ≤ cP) = true := by simpa using hkc
              have HCF := hidE (containsFuncPars_any (wr.alloc (.cells #[.string y.name, .int .i64 y.south, .int .i64 y.wst, .int .i64 y.est] 133)) (some ⟨b, off, none⟩) cP (pr.take k) 211 #[.pointer (some ⟨wr.heap.size, 0, none⟩)] (overB y) (by simp; omega)
               (.inr ⟨b, off, rfl, by have := BW.out.size; simp; omega, fun i hi j hj => by
                have hi2 : i < pr.length := by simp at hi; omega
                obtain ⟨b', off', eq', _, hcc'⟩ := RecsAt.at H.out.pr hi2
                cases eq'
                rw [(BW.out.alloc BW.out.size _).cell hbl, hcc' j hj]
                simp⟩)
               (fun i hi W hW => by
                have hi2 : i < pr.length := by simp at hi; omega
                have hv : (pr.take k)[i] = pr[i] := by simp
                rw [hv]
                exact over_any y pr[i] W wr.heap.size HYS.out (HSM.out _ (List.getElem_mem hi2)) (blk_below hW (by simp) (heap_alloc_new wr _))) (enters_of Tryz.func211 (by kernel_rfl) rfl))
              have htl : (pr.take k).length = k := by simp; omega
              rw [htl] at HCF
              obtain ⟨q, hq⟩ : ∃ q, (pr.take k).any (overB y) = q := ⟨_, rfl⟩
              rw [hq] at HCF HSUC
              obtain ⟨yn, y0, y1, y2⟩ := y
              dsimp only at e0 e1 e2 e3 HCF HSUC
              clear hq htl
              by_cases hge : y1 < y2
              ·have hd : decide (y1 ≥ y2) = false := by simp; omega
               have hd2 : decide (y1 < y2) = true := by simpa using hge
               cases q with
               | true =>
                 obtain rfl : (30 : Int) = Q := by rw [← HQ6.out, if_pos (parsTo_mono (k := k + 1) (by omega) (by rw [HSUC.out]; simp))]
                 clear hge
                 go_wp2_with fail
                 refine HCF.out.mono ?_
                 rintro e w8 ⟨rfl, hb8⟩
                 go_wp2_with fail
                 go_ret
                 exact ⟨rfl, (BW.out.alloc BW.out.size _).trans (hb8.mono (by have := BW.out.size; simp; omega))⟩
               | false =>
                 have HA2 : Hid (parsTo pr (k + 1) = true) := hidE (by rw [HSUC.out, HA.out, hd2]; rfl)
                 clear hge
                 go_wp2_with fail
                 refine HCF.out.mono ?_
                 rintro e w8 ⟨rfl, hb8⟩
                 go_wp2_with fail
                 go_roundw
                 case rel => first | exact ⟨k + 1, by omega, by go_num, HA2, (BB.out.alloc hsz _).trans (hb8.mono (by simp; omega))⟩ | ((repeat apply Exists.intro); exact ⟨⟨k + 1, by omega, by go_num, HA2, (BB.out.alloc hsz _).trans (hb8.mono (by simp; omega))⟩, rfl⟩)
                 case measure => simp [intOf]; omega
              ·have hd : decide (y1 ≥ y2) = true := by simp; omega
               have hd2 : decide (y1 < y2) = false := by simpa using hge
               obtain rfl : (30 : Int) = Q := by rw [← HQ6.out, if_pos (parsTo_mono (k := k + 1) (by omega) (by rw [HSUC.out, hd2]; simp))]
               clear hge
               go_wp2_with fail
               go_ret
               exact ⟨rfl, BW.out.alloc BW.out.size _⟩
             ·obtain rfl : k = pr.length := by omega
              obtain rfl : (0 : Int) = Q := by rw [← HQ6.out, if_neg (by rw [HA.out]; simp)]
              go_wp2_with fail
              go_ret
              exact ⟨rfl, B7.out.trans (hb.mono B7.out.size)⟩
 ·obtain rfl : c = Q := by rw [if_pos hz] at hQ; exact hQ
  have hzb : (c != 0) = true := by simpa using hz
  clear hQ hz
  go_enter Tryz.func136, Tryz.ntmps136
  go_wp2_with fail
  refine HVR.out.mono ?_
  rintro e w1 ⟨rfl, hb1⟩
  have B1 := hidE (B0.out.trans (hb1.mono B0.out.size))
  clear hb1
  go_wp2_with fail
  go_ret
  exact ⟨rfl, B1.out⟩
def Fld.points (F : Fld) : Int := 1 + (F.lms.length : Int) * (F.sts.length : Int)
theorem points_bd {F : Fld} (hl : F.lms.length ≤ 1000) (hs : F.sts.length ≤ 1000) : 0 ≤ (F.lms.length : Int) * (F.sts.length : Int) ∧ (F.lms.length : Int) * (F.sts.length : Int) ≤ 1000000 := by
 have := mul_bd (A := 1000) (B := 1000) (a := (F.lms.length : Int)) (b := (F.sts.length : Int)) (by omega) (by omega) (by omega) (by omega)
 have h2 : 0 ≤ (F.lms.length : Int) * (F.sts.length : Int) := Int.mul_nonneg (by omega) (by omega)
 omega
theorem points_any (w : World) (x : FV) (F : Fld) (hl : F.lms.length ≤ 1000) (hs : F.sts.length ≤ 1000) :
 Calls Tryz.prog 214 #[x.val F] w fun e w' => e = .returned (.int .i64 F.points) ∧ Below w.heap.size w w' := by
 obtain ⟨h1, h2⟩ := points_bd hl hs
 unfold Fld.points FV.val FV.arr
 obtain ⟨st, lm, pr, vr⟩ := F
 dsimp only at *
 go_enter Tryz.func214, Tryz.ntmps214
 go_wp2_with fail
 go_ret
 exact ⟨rfl, by go_grown⟩
theorem wpAnyF_takeD {P : Program} {ops : Array Oper} {Q : Exit → Act → World → Prop} {md : Region.Mode} {S : World → Prop} {last : Nat} {i d : Nat} {oi : Oper} {v : Value} {fuel : Nat} {listed : Array Bool} {a : Act} {w : World} (hl : waitsAll md ops last = true) (hil : i ≠ last) (hi : ops[i]? = some oi) (hd : oi.dst = some d)
 (hs : Region.noSelect ops = true) (hf : Region.free md ops listed i = true) (hr : (Region.ready md ops listed).contains i = true)
 (hQ : ∀ c a w, Q (.panic c) (a.put oi.dst v) w → Q (.panic c) a w) (hy : YieldsIf P ops S oi v a) (hS : S w)
 (h : wpAnyF P md ops Q S last fuel (listed.setIfInBounds i true) { a with tmps := a.tmps.setIfInBounds d v } w) : wpAnyF P md ops Q S last (fuel + 1) listed a w :=
 wpAnyF_take hl hil hi hs hf hr hQ hy hS (by rw [hd]; exact h)
def t_B (md : Region.Mode) (ops : Array Oper) (listed : Array Bool) (i d : Nat) : Bool := Region.noSelect ops && Region.free md ops listed i && (Region.ready md ops listed).contains i && (match ops[i]? with | some o => o.dst == some d | none => false)
theorem t_B_spec {md : Region.Mode} {ops : Array Oper} {listed : Array Bool} {i d : Nat} {oi : Oper} (hi : ops[i]? = some oi) (h : t_B md ops listed i d = true) : oi.dst = some d ∧ Region.noSelect ops = true ∧ Region.free md ops listed i = true ∧ (Region.ready md ops listed).contains i = true := by
 unfold t_B at h; rw [hi] at h; simp only [Bool.and_eq_true, beq_iff_eq] at h; exact ⟨h.2, h.1.1.1, h.1.1.2, h.1.2⟩
theorem t_f {P : Program} {ops : Array Oper} {Q : Exit → Act → World → Prop} {md : Region.Mode} {oi : Oper} {fuel : Nat} {listed : Array Bool} {a : Act} {w : World} {S : World → Prop} {last : Nat} (i d : Nat) (v : Value) (hi : ops[i]? = some oi) (hB : (waitsAll md ops last && decide (i ≠ last) && t_B md ops listed i d) = true) (hw : Region.wanted oi (yielded ops a.tmps) = true) (hQ : ∀ c a w, Q (.panic c) (a.put oi.dst v) w → Q (.panic c) a w) (hy : ∀ V, S V → (execOp a.eval oi).run P V = .ok (.value v) V) (hS : S w) (h : wpAnyF P md ops Q S last fuel (listed.setIfInBounds i true) { a with tmps := a.tmps.setIfInBounds d v } w) : wpAnyF P md ops Q S last (fuel + 1) listed a w := by
 simp only [Bool.and_eq_true, decide_eq_true_eq] at hB
 obtain ⟨h1, h2, h3, h4⟩ := t_B_spec hi hB.2
 exact wpAnyF_takeD hB.1.1 hB.1.2 hi h1 h2 h3 h4 hQ (.inl ⟨hw, hy⟩) hS h
section
variable {P : Program} {ops : Array Oper} {Q : Exit → Act → World → Prop} {md : Region.Mode} {S : World → Prop} {last : Nat}
theorem wpAnyN_first {i : Nat} {oi : Oper} {v : Value} (hl : ops.size ≤ last) (hi : ops[i]? = some oi) (hsel : ∀ (j : Nat) (o : Oper) cs b, ops[j]? = some o → o.op ≠ .select cs b)
 (hQ : ∀ c a w, Q (.panic c) (a.put oi.dst v) w → Q (.panic c) a w) :
 ∀ (fuel : Nat) (listed : Array Bool) (a : Act) (w : World),
  (∀ j oj, ops[j]? = some oj → j ≠ i → listed.getD j true = false → (∀ e ∈ oj.after, Region.binds md e = true → e.on ≠ i) → oi.apart ops oj = true) →
  i ∈ Region.ready md ops listed → YieldsIf P ops S oi v a → S w →
  wpAnyF P md ops Q S last fuel (listed.setIfInBounds i true) (a.put oi.dst v) w → wpAnyF P md ops Q S last (fuel + 1) listed a w := by
 intro fuel
 induction fuel with
 | zero =>
   intro listed a w _ hr hy hS H
   refine ⟨fun h => (by rw [h] at hr; cases hr), fun j hj => ?_⟩
   by_cases hji : j = i
   ·subst hji; exact hy.wpOp hi hS ⟨.inr hS, H⟩
   ·have := ready_mono hj hji
    rw [H.1] at this
    cases this
 | succ fuel ih =>
   intro listed a w hfree hr hy hS H
   refine ⟨fun h => (by rw [h] at hr; cases hr), fun j hj => ?_⟩
   by_cases hji : j = i
   ·subst hji; exact hy.wpOp hi hS ⟨.inr hS, H⟩
   ·have h1 := H.2 j (ready_mono hj hji)
    obtain ⟨hjun, oj, hoj, hall⟩ := mem_ready.1 hj
    have hjl : j ≠ last := by
     have := (Array.getElem?_eq_some_iff.1 hoj).1
     omega
    have hnot : ∀ e ∈ oj.after, Region.binds md e = true → e.on ≠ i := fun e he hb heq => by
     have h1 := hall e he hb
     have h0 := (mem_ready.1 hr).1
     rw [heq] at h1
     rcases Nat.lt_or_ge i listed.size with h' | h'
     ·simp [h'] at h0 h1; rw [h0] at h1; cases h1
     ·simp [Array.getElem?_eq_none h'] at h1
    have h2 := wpOp_putIf hoj (hfree j oj hoj hji hjun hnot) (fun cs b => hsel i oi cs b hi) (fun cs b => hsel j oj cs b hoj) hQ hy h1
    have hfree' : ∀ k ok, ops[k]? = some ok → k ≠ i → (listed.setIfInBounds j true).getD k true = false →
     (∀ e ∈ ok.after, Region.binds md e = true → e.on ≠ i) → oi.apart ops ok = true := fun k ok hk hki hun hno => by
     refine hfree k ok hk hki ?_ hno
     by_cases hjk : j = k
     ·subst hjk; exact hjun
     ·rw [getD_set_ne true hjk] at hun; exact hun
    refine wpOp_mono (fun a' w' h3 => ?_) h2
    have hSw : S w' := h3.2.1.resolve_left hjl
    refine ⟨.inr hSw, ih (listed.setIfInBounds j true) a' w' hfree' (ready_mono hr (Ne.symm hji)) h3.1 hSw ?_⟩
    rw [Array.setIfInBounds_comm _ _ hji]
    exact h3.2.2
theorem wpAnyN_takeD {i d : Nat} {oi : Oper} {v : Value} {fuel : Nat} {listed : Array Bool} {a : Act} {w : World} (hl : ops.size ≤ last) (hi : ops[i]? = some oi) (hd : oi.dst = some d)
 (hs : Region.noSelect ops = true) (hf : Region.free md ops listed i = true) (hr : (Region.ready md ops listed).contains i = true)
 (hQ : ∀ c a w, Q (.panic c) (a.put oi.dst v) w → Q (.panic c) a w) (hy : YieldsIf P ops S oi v a) (hS : S w)
 (h : wpAnyF P md ops Q S last fuel (listed.setIfInBounds i true) { a with tmps := a.tmps.setIfInBounds d v } w) : wpAnyF P md ops Q S last (fuel + 1) listed a w :=
 wpAnyN_first hl hi (Region.noSelect_spec hs) hQ fuel listed a w (Region.free_spec hi hf) (by simpa using hr) hy hS (by rw [hd]; exact h)
theorem t_n {P : Program} {ops : Array Oper} {Q : Exit → Act → World → Prop} {md : Region.Mode} {oi : Oper} {fuel : Nat} {listed : Array Bool} {a : Act} {w : World} {S : World → Prop} {last : Nat} (i d : Nat) (v : Value) (hi : ops[i]? = some oi) (hB : (decide (ops.size ≤ last) && t_B md ops listed i d) = true) (hw : Region.wanted oi (yielded ops a.tmps) = true) (hQ : ∀ c a w, Q (.panic c) (a.put oi.dst v) w → Q (.panic c) a w) (hy : ∀ V, S V → (execOp a.eval oi).run P V = .ok (.value v) V) (hS : S w) (h : wpAnyF P md ops Q S last fuel (listed.setIfInBounds i true) { a with tmps := a.tmps.setIfInBounds d v } w) : wpAnyF P md ops Q S last (fuel + 1) listed a w := by
 simp only [Bool.and_eq_true, decide_eq_true_eq] at hB
 obtain ⟨h1, h2, h3, h4⟩ := t_B_spec hi hB.2
 exact wpAnyN_takeD hB.1 hi h1 h2 h3 h4 hQ (.inl ⟨hw, hy⟩) hS h
end
theorem sA {α : Type} (l : List α) (i : Nat) (a : α) : l.toArray.setIfInBounds i a = (l.set i a).toArray := List.setIfInBounds_toArray ..
theorem sB {α : Type} (x : α) (l : List α) (n : Nat) (a : α) : (x :: l).set (n + 1) a = x :: l.set n a := List.set_cons_succ ..
theorem sC {α : Type} (x : α) (l : List α) (a : α) : (x :: l).set 0 a = a :: l := List.set_cons_zero ..
def tkB (md : Region.Mode) (ops : Array Oper) (listed : Array Bool) (i d : Nat) : Bool :=
 Region.noSelect ops && Region.free md ops listed i && (Region.ready md ops listed).contains i && (match ops[i]? with | some o => o.dst == some d | none => false)
theorem tkB_spec {md : Region.Mode} {ops : Array Oper} {listed : Array Bool} {i d : Nat} {oi : Oper} (hi : ops[i]? = some oi) (h : tkB md ops listed i d = true) :
 oi.dst = some d ∧ Region.noSelect ops = true ∧ Region.free md ops listed i = true ∧ (Region.ready md ops listed).contains i = true := by
 unfold tkB at h
 rw [hi] at h
 simp only [Bool.and_eq_true, beq_iff_eq] at h
 exact ⟨h.2, h.1.1.1, h.1.1.2, h.1.2⟩
section
variable {P : Program} {ops : Array Oper} {Q : Exit → Act → World → Prop} {md : Region.Mode} {S2 S : World → Prop} {T : Nat → Bool} {last : Nat} {oi : Oper} {fuel : Nat} {listed : Array Bool} {a : Act} {w : World}
theorem tF (i d : Nat) (v : Value) (hi : ops[i]? = some oi) (hB : ((waitsAll md ops last && decide (i ≠ last) || decide (ops.size ≤ last)) && tkB md ops listed i d) = true)
 (hw : Region.wanted oi (yielded ops a.tmps) = true) (hQ : ∀ c a w, Q (.panic c) (a.put oi.dst v) w → Q (.panic c) a w) (hy : ∀ V, S V → (execOp a.eval oi).run P V = .ok (.value v) V) (hS : S w)
 (h : wpAnyF P md ops Q S last fuel (listed.setIfInBounds i true) { a with tmps := a.tmps.setIfInBounds d v } w) : wpAnyF P md ops Q S last (fuel + 1) listed a w := by
 simp only [Bool.and_eq_true, Bool.or_eq_true, decide_eq_true_eq] at hB
 obtain ⟨h1, h2, h3, h4⟩ := tkB_spec hi hB.2
 rcases hB.1 with q | q
 ·exact wpAnyF_takeD q.1 q.2 hi h1 h2 h3 h4 hQ (.inl ⟨hw, hy⟩) hS h
 ·exact wpAnyN_takeD q hi h1 h2 h3 h4 hQ (.inl ⟨hw, hy⟩) hS h
end
theorem ce {w : World} {b i : Nat} {cs : Array Value} {t : TypeId} {v : Value} (h : w.heap[b]? = some (.cells cs t (0,0))) (hv : cs[i]? = some v) : w.cell? ⟨b, i, none⟩ = some v := by
 rw [cell_of_row _ _ _ _ _ _ h]; exact hv
def Kb : List (Nat × Obj) → World → Prop
 | [], _ => True
 | (b, o) :: L, W => W.heap[b]? = some o ∧ Kb L W
theorem Kb.next {W W' : World} (hb : Below W.heap.size W W') : ∀ {L : List (Nat × Obj)}, Kb L W → Kb L W'
 | [], _ => trivial
 | (_, _) :: _, h => ⟨blk_below hb (lt_of_block h.1) h.1, Kb.next hb h.2⟩
theorem Kb.alloc {W : World} {o : Obj} {L : List (Nat × Obj)} (h : Kb L W) : Kb ((W.heap.size, o) :: L) (W.alloc o) :=
 ⟨heap_alloc_new _ _, Kb.next ((Below.refl _ _).alloc (Nat.le_refl _) _) h⟩
theorem Kb.drew {W : World} {L : List (Nat × Obj)} (h : Kb L W) : Kb L W.drew := Kb.next (Below.refl _ W).drew h
theorem Kb.away {W W' : World} : ∀ {L : List (Nat × Obj)}, (∀ p ∈ L, W'.heap[p.1]? = W.heap[p.1]?) → Kb L W → Kb L W'
 | [], _, _ => trivial
 | (_, _) :: _, h, k => ⟨(h _ (List.mem_cons_self ..)).trans k.1, Kb.away (fun p hp => h p (List.mem_cons_of_mem _ hp)) k.2⟩
theorem Kb.set {W : World} {g i : Nat} {cs : Array Value} {t : TypeId} {L : List (Nat × Obj)} (h : Kb ((g, .cells cs t (0,0)) :: L) W) (hL : ∀ p ∈ L, p.1 ≠ g) (v : Value) : Kb ((g, .cells (cs.setIfInBounds i v) t (0,0)) :: L) (W.setCell ⟨g, i, none⟩ v) :=
 ⟨Go.heap_setCell_same _ _ _ _ _ _ h.1, Kb.away (fun p hp => heap_setCell_other _ _ _ _ (hL p hp)) h.2⟩
theorem cf {w : World} {b i : Nat} {cs : Array Value} {t : TypeId} (h : w.heap[b]? = some (.cells cs t (0,0))) : w.frozen? ⟨b, i, none⟩ = false := frozen_of_row _ _ _ _ _ h
set_option maxRecDepth 10000 in
set_option maxHeartbeats 400000 in
theorem equalI_any (w : World) (a0 : Option Addr) (c0 : Nat) (l0 : List Int) (a1 : Option Addr) (c1 : Nat) (l1 : List Int) (h0 : IntsAt w a0 l0) (h1 : IntsAt w a1 l1) (_hl0 : l0.length ≤ 9223372036854775807) (hl1 : l1.length ≤ 9223372036854775807) :
 Calls Tryz.prog 174 #[.slice a0 l0.length c0, .slice a1 l1.length c1] w fun e w' => e = .returned (.bool (decide (l0 = l1))) ∧ Below w.heap.size w w' := by
 have H0 := hidE h0
 have H1 := hidE h1
 clear h0 h1
 by_cases hlen : l0.length = l1.length
 ·have hne : ((l0.length : Int) != (l1.length : Int)) = false := by simp; omega
  have hle : l0.length ≤ l1.length := by omega
  have HLEN := hidE hlen
  clear hlen
  go_enter Tryz.func174, Tryz.ntmps174
  go_wp2_with fail
  go_loopw [13] (fun i wr => ∃ k : Nat, k ≤ l0.length ∧ i = .int .i64 k ∧ Hid (l0.take k = l1.take k) ∧ Hid (Below w.heap.size w wr)) (fun i _ => l0.length - (intOf i).toNat)
  case atStart => exact ⟨0, Nat.zero_le _, rfl, hidE rfl, hidE (Below.refl _ _)⟩
  case round =>
   obtain ⟨k, hk, rfl, heq, hb⟩ := hrel
   by_cases hlt : k < l0.length
   ·have hlt1 : k < l1.length := by omega
    obtain ⟨b0, o0, rfl, hb0, d0⟩ := H0.out.at hlt
    obtain ⟨b1, o1, rfl, hb1, d1⟩ := H1.out.at hlt1
    have d0' := (hb.out.cell (by exact hb0)).trans d0
    have d1' := (hb.out.cell (by exact hb1)).trans d1
    obtain ⟨x, hx⟩ : ∃ x, l0[k] = x := ⟨_, rfl⟩
    obtain ⟨y, hy⟩ : ∃ y, l1[k] = y := ⟨_, rfl⟩
    rw [hx] at d0'
    rw [hy] at d1'
    have HX := hidE hx
    have HY := hidE hy
    have k0 : (0 : Int) ≤ (k : Int) := by omega
    have k1 : (k : Int) < (l0.length : Int) := by omega
    have k2 : (k : Int) < (l1.length : Int) := by omega
    clear d0 d1 hx hy
    by_cases hxy : x = y
    ·subst hxy
     go_wp2_with fail
     go_quiet (fail)
     go_wp2_with fail
     go_roundw
     case rel => exact ⟨k + 1, by omega, by go_num, hidE (take_eq_succ hlt hlt1 heq.out (by rw [HX.out, HY.out])), hidE (hb.out.trans (below_drewN' _ _))⟩
     case measure => simp [intOf]; omega
    ·have hne2 : (x != y) = true := by simpa using hxy
     have hxx := hidE hxy
     clear hxy
     go_wp2_with fail
     go_quiet (fail)
     go_wp2_with fail
     go_ret
     refine ⟨?_, hb.out.trans (below_drewN' _ _)⟩
     have : ¬ l0 = l1 := fun e => hxx.out (by rw [← HX.out, ← HY.out]; subst e; rfl)
     simp [this]
   ·go_wp2_with fail
    go_ret
    refine ⟨?_, hb.out⟩
    have h2 := heq.out
    rw [List.take_of_length_le (by omega), List.take_of_length_le (by have := HLEN.out; omega)] at h2
    simp [h2]
 ·have hne : ((l0.length : Int) != (l1.length : Int)) = true := by simp; omega
  have hd : decide (l0 = l1) = false := by
   simp only [decide_eq_false_iff_not]
   intro e; exact hlen (by rw [e])
  have HD := hidE hd
  clear hlen hd
  go_enter Tryz.func174, Tryz.ntmps174
  go_wp2_with fail
  go_ret
  exact ⟨by rw [HD.out]; rfl, Below.refl _ _⟩
set_option maxRecDepth 10000 in
set_option maxHeartbeats 400000 in
theorem equalB_any (w : World) (a0 : Option Addr) (c0 : Nat) (l0 : List Bool) (a1 : Option Addr) (c1 : Nat) (l1 : List Bool) (h0 : BoolsAt w a0 l0) (h1 : BoolsAt w a1 l1) (_hl0 : l0.length ≤ 9223372036854775807) (hl1 : l1.length ≤ 9223372036854775807) :
 Calls Tryz.prog 175 #[.slice a0 l0.length c0, .slice a1 l1.length c1] w fun e w' => e = .returned (.bool (decide (l0 = l1))) ∧ Below w.heap.size w w' := by
 have H0 := hidE h0
 have H1 := hidE h1
 clear h0 h1
 by_cases hlen : l0.length = l1.length
 ·have hne : ((l0.length : Int) != (l1.length : Int)) = false := by simp; omega
  have hle : l0.length ≤ l1.length := by omega
  have HLEN := hidE hlen
  clear hlen
  go_enter Tryz.func175, Tryz.ntmps175
  go_wp2_with fail
  go_loopw [13] (fun i wr => ∃ k : Nat, k ≤ l0.length ∧ i = .int .i64 k ∧ Hid (l0.take k = l1.take k) ∧ Hid (Below w.heap.size w wr)) (fun i _ => l0.length - (intOf i).toNat)
  case atStart => exact ⟨0, Nat.zero_le _, rfl, hidE rfl, hidE (Below.refl _ _)⟩
  case round =>
   obtain ⟨k, hk, rfl, heq, hb⟩ := hrel
   by_cases hlt : k < l0.length
   ·have hlt1 : k < l1.length := by omega
    obtain ⟨b0, o0, rfl, hb0, d0⟩ := H0.out.get hlt
    obtain ⟨b1, o1, rfl, hb1, d1⟩ := H1.out.get hlt1
    have d0' := (hb.out.cell (by exact hb0)).trans d0
    have d1' := (hb.out.cell (by exact hb1)).trans d1
    obtain ⟨x, hx⟩ : ∃ x, l0[k] = x := ⟨_, rfl⟩
    obtain ⟨y, hy⟩ : ∃ y, l1[k] = y := ⟨_, rfl⟩
    rw [hx] at d0'
    rw [hy] at d1'
    have HX := hidE hx
    have HY := hidE hy
    have k0 : (0 : Int) ≤ (k : Int) := by omega
    have k1 : (k : Int) < (l0.length : Int) := by omega
    have k2 : (k : Int) < (l1.length : Int) := by omega
    clear d0 d1 hx hy
    cases x
    ·cases y
     ·go_wp2_with fail
      go_quiet (fail)
      go_wp2_with fail
      go_roundw
      case rel => exact ⟨k + 1, by omega, by go_num, hidE (takeB_succ hlt hlt1 heq.out (by rw [HX.out, HY.out])), hidE (hb.out.trans (below_drewN' _ _))⟩
      case measure => simp [intOf]; omega
     ·go_wp2_with fail
      go_quiet (fail)
      go_wp2_with fail
      go_ret
      refine ⟨?_, hb.out.trans (below_drewN' _ _)⟩
      have : ¬ l0 = l1 := fun e => by
       have h1 := HX.out
       have h2 := HY.out
       subst e
       rw [h1] at h2
       exact Bool.noConfusion h2
      simp [this]
    ·cases y
     ·go_wp2_with fail
      go_quiet (fail)
      go_wp2_with fail
      go_ret
      refine ⟨?_, hb.out.trans (below_drewN' _ _)⟩
      have : ¬ l0 = l1 := fun e => by
       have h1 := HX.out
       have h2 := HY.out
       subst e
       rw [h1] at h2
       exact Bool.noConfusion h2
      simp [this]
     ·go_wp2_with fail
      go_quiet (fail)
      go_wp2_with fail
      go_roundw
      case rel => exact ⟨k + 1, by omega, by go_num, hidE (takeB_succ hlt hlt1 heq.out (by rw [HX.out, HY.out])), hidE (hb.out.trans (below_drewN' _ _))⟩
      case measure => simp [intOf]; omega
   ·go_wp2_with fail
    go_ret
    refine ⟨?_, hb.out⟩
    have h2 := heq.out
    rw [List.take_of_length_le (by omega), List.take_of_length_le (by have := HLEN.out; omega)] at h2
    simp [h2]
 ·have hne : ((l0.length : Int) != (l1.length : Int)) = true := by simp; omega
  have hd : decide (l0 = l1) = false := by
   simp only [decide_eq_false_iff_not]
   intro e; exact hlen (by rw [e])
  have HD := hidE hd
  clear hlen hd
  go_enter Tryz.func175, Tryz.ntmps175
  go_wp2_with fail
  go_ret
  exact ⟨by rw [HD.out]; rfl, Below.refl _ _⟩
def distancesP (N : Int) (bs : List Bd) (x : Int) : List Int × List Bool × Int :=
 if askedE N bs [x] = 0 then ((List.range N.toNat).map (fun b => nV (distN N.toNat bs x.toNat b)), (List.range N.toNat).map (fun b => nB (distN N.toNat bs x.toNat b)), 0) else ([], [], askedE N bs [x])
def DistPost (d : List Int × List Bool × Int) (e : Ending) (w' : World) : Prop :=
 ∃ a1 c1 a2 c2, e = .returned (.tuple #[.slice a1 d.1.length c1, .slice a2 d.2.1.length c2, .int .i64 d.2.2]) ∧ IntsAt w' a1 d.1 ∧ BoolsAt w' a2 d.2.1
theorem ints_of_rowY {w : World} {b : Nat} {l : List Int} (h : w.heap[b]? = some (.cells (rowA l) 3 (0,0))) : IntsAt w (some ⟨b, 0, none⟩) l :=
 .inr ⟨b, 0, rfl, lt_of_block h, fun i hi => by rw [cell_of_row _ _ _ _ _ _ h, Nat.zero_add, rowA_get hi, getD_get l 0 hi]⟩
theorem bools_of_row {w : World} {b : Nat} {l : List Bool} (h : w.heap[b]? = some (.cells (boolA l) 4 (0,0))) : BoolsAt w (some ⟨b, 0, none⟩) l :=
 .inr ⟨b, 0, rfl, lt_of_block h, fun i hi => by rw [cell_of_row _ _ _ _ _ _ h, Nat.zero_add, boolA_get hi]; simp [List.getD_eq_getElem?_getD, hi]⟩
set_option maxRecDepth 100000 in
set_option maxHeartbeats 4000000 in
theorem distances0_any (w : World) (N : Int) (a : Option Addr) (cap : Nat) (bs : List Bd) (x : Int) (hN : i64ok N) (hl : bs.length ≤ 9223372036854775807) (h : BoundsAt w a bs) :
 Calls Tryz.prog 173 #[.agg #[.int .i64 N, .slice a bs.length cap], .int .i64 x] w fun e w' => DistPost (distancesP N bs x) e w' ∧ Below w.heap.size w w' := by
 have H := hidE h
 have HN := hidE hN
 clear h hN
 have i94 : Hid ((Tryz.prog.info? 189).map (·.size) = some 128) := hidE (by kernel_rfl)
 have hB0 : Below w.heap.size w ((w.alloc (.cells #[.int .i64 N, .slice a bs.length cap] 61)).alloc (.cells #[.int .i64 x] 3)) := ((Below.refl _ _).alloc (Nat.le_refl _) _).alloc (by simp) _
 have hx0 : ((w.alloc (.cells #[.int .i64 N, .slice a bs.length cap] 61)).alloc (.cells #[.int .i64 x] 3)).heap[w.heap.size]? = some (.cells #[.int .i64 N, .slice a bs.length cap] 61 (0,0)) :=
  (Below.heap_alloc _ _ _ (by simp)).trans (heap_alloc_new _ _)
 have hints := ints_one (w.alloc (.cells #[.int .i64 N, .slice a bs.length cap] 61)) x
 simp only [World.size_alloc] at hints
 have hask : Calls Tryz.prog 143 #[.agg #[.int .i64 N, .slice a bs.length cap], .slice (some ⟨w.heap.size + 1, 0, none⟩) 1 1] ((w.alloc (.cells #[.int .i64 N, .slice a bs.length cap] 61)).alloc (.cells #[.int .i64 x] 3)) _ :=
  asked_any _ N a cap bs (some ⟨w.heap.size + 1, 0, none⟩) 1 [x] HN.out hl (by simp) ((H.out.alloc (.cells #[.int .i64 N, .slice a bs.length cap] 61)).alloc (.cells #[.int .i64 x] 3)) hints
 have X0 := hidE hx0
 clear hints hx0
 by_cases he : askedE N bs [x] = 0
 ·obtain ⟨R, x', t, rfl, rfl, hx, ht, HO⟩ := asked1 he
  obtain ⟨r, hr⟩ : ∃ r, distP R t bs x' = r := ⟨_, rfl⟩
  have hd : distancesP R bs x' = ((List.range R).map (fun b => nV (r.getD b 0)), (List.range R).map (fun b => nB (r.getD b 0)), 0) := by
   unfold distancesP; rw [if_pos he]; simp only [Int.toNat_natCast]
   unfold distN; rw [heightsP_of ht, hr]
  have hrl : r.length = 128 := by rw [← hr]; exact (HO.row hx).1
  have hn0 := HO.n0
  have hn1 := HO.n1
  have hmk3 := fun W => run_make_row' (P := Tryz.prog) 52 3 (.int .i64 0) 8 Tryz.underlying52 Tryz.info3' rfl .i64 .i64 R (by omega) (by omega) W
  have hmk4 := fun W => run_make_row' (P := Tryz.prog) 184 4 (.bool false) 1 Tryz.underlying184 Tryz.info4' rfl .i64 .i64 R (by omega) (by omega) W
  have HD := hidE hd
  have HE := hidE he
  have HT := hidE ht
  have HR := hidE hr
  have HRL := hidE hrl
  have HA := hidE hask
  clear hd he ht hr hrl hask
  go_enter Tryz.func173, Tryz.ntmps173
  go_wp2_with fail
  refine HA.out.mono ?_
  rintro e w1 ⟨hp, hb1⟩
  unfold AskedPost at hp
  rw [if_pos HE.out] at hp
  obtain ⟨bn, t', ht', rfl, hbn, hcell⟩ := hp
  have htt : t' = t := by have := HT.out; rw [ht'] at this; exact Option.some.inj this
  subst htt
  have B1 := hB0.trans (hb1.mono hB0.size)
  have hdist := dist_net w1 bn R a cap bs t' x' HO hx (H.out.below B1 (Nat.le_refl _)) hcell
  rw [HR.out] at hdist
  have x1 := blk_below hb1 (by simp; omega) X0.out
  have HDI := hidE hdist
  have HB1 := hidE B1
  have X1 := hidE x1
  clear hdist hcell ht' hb1 B1 hbn x1
  go_wp2_with fail
  refine HDI.out.mono ?_
  rintro e w2 ⟨rfl, hb2⟩
  have x2 := blk_below hb2 (lt_of_block X1.out) X1.out
  have HB2 := hidE (HB1.out.trans (hb2.mono HB1.out.size))
  have hst : (w2.alloc (.cells Tryz.zeroCells189 189)).heap[w2.heap.size]? = some (.cells (rowA (rep128 0)) 189 (0,0)) := by rw [zc94]; exact heap_alloc_new _ _
  have HST := hidE hst
  have hsr : (rowA r).size = 128 := by rw [rowA_size]; exact HRL.out
  have hsr2 : (rowA (rep128 0)).size = 128 := by rw [rowA_size, rep128_length]
  have X2 := hidE x2
  have HSR := hidE hsr
  have HSR2 := hidE hsr2
  clear hb2 x2 hst hsr hsr2
  go_wp2_with (first
   | (refine wpList_store_row rfl 189 _ _ rfl _ _ rfl rfl 189 _ HST.out (by rw [HSR.out]; exact i94.out) (by rw [HSR.out, HSR2.out]) (intsV_one _) ?_; rw [World.setRow_alloc_new]))
  obtain ⟨W3, hW3⟩ : ∃ W3, W3 = w2.alloc (.cells (rowA r) 189) := ⟨_, rfl⟩
  rw [← hW3]
  have hb3 : Below w2.heap.size w2 W3 := by rw [hW3]; exact (Below.refl _ _).alloc (Nat.le_refl _) _
  have hr3 : W3.heap[w2.heap.size]? = some (.cells (rowA r) 189 (0,0)) := by rw [hW3]; exact heap_alloc_new _ _
  have X3 := hidE (blk_below hb3 (lt_of_block X2.out) X2.out)
  have HB3 := hidE (HB2.out.trans (hb3.mono HB2.out.size))
  have HR3 := hidE hr3
  have e0 : W3.cell? ⟨w.heap.size, 0, none⟩ = some (.int .i64 (R : Int)) := c_e X3.out rfl
  have l0 : w.heap.size < W3.heap.size := lt_of_block X3.out
  have l2 : w2.heap.size < W3.heap.size := lt_of_block hr3
  clear hW3 hb3 hr3
  go_wp2_with fail
  simp only [Act.put]
  go_cut [10, 11] (fun s4 s5 wx => ∃ bo bg : Nat, s4 = .slice (some ⟨bo, 0, none⟩) R R ∧ s5 = .slice (some ⟨bg, 0, none⟩) R R ∧ bo ≠ bg ∧ W3.heap.size ≤ bo ∧ W3.heap.size ≤ bg ∧ Hid (wx.heap[bo]? = some (.cells (rowA (List.replicate R 0)) 3 (0,0))) ∧ Hid (wx.heap[bg]? = some (.cells (boolA (List.replicate R false)) 4 (0,0))) ∧ Hid (Below W3.heap.size W3 wx))
  case first =>
   go_region_held3 (fun w' => w'.cell? ⟨w.heap.size, 0, none⟩ = some (.int .i64 (R : Int))) (go_keep) (fail)
   all_goals (go_wp2_with fail; go_meet)
   all_goals first
    | exact ⟨W3.heap.size, W3.heap.size + 1, rfl, rfl, by omega, by omega, by omega, hidE (by rw [← madeInts]; exact (Below.heap_alloc _ _ _ (by simp)).trans (heap_alloc_new _ _)), hidE (by rw [← madeBools]; exact heap_alloc_at _ _ _ (by simp)), hidE (((Below.refl _ _).alloc (Nat.le_refl _) _).alloc (by simp) _).drew⟩
    | exact ⟨W3.heap.size + 1, W3.heap.size, rfl, rfl, by omega, by omega, by omega, hidE (by rw [← madeInts]; exact heap_alloc_at _ _ _ (by simp)), hidE (by rw [← madeBools]; exact (Below.heap_alloc _ _ _ (by simp)).trans (heap_alloc_new _ _)), hidE (((Below.refl _ _).alloc (Nat.le_refl _) _).alloc (by simp) _).drew⟩
  case rest =>
   obtain ⟨bo, bg, rfl, rfl, hne, hbo, hbg, ho, hg, hbl⟩ := hcut
   obtain ⟨w4, rfl⟩ : ∃ x : World, x = wc := ⟨wc, rfl⟩
   have e4 : w4.cell? ⟨w.heap.size, 0, none⟩ = some (.int .i64 (R : Int)) := (hbl.out.cell (by exact l0)).trans e0
   have HB4 := hidE (HB3.out.trans (hbl.out.mono HB3.out.size))
   have R4 := hidE (blk_below hbl.out l2 HR3.out)
   have lo := lt_of_block ho.out
   have lg := lt_of_block hg.out
   have lr := lt_of_block R4.out
   have HBS := hidE HB3.out.size
   clear hmk3 hmk4 e0
   go_wp2_with fail
   go_loopw [34] (fun i wr => ∃ k : Nat, k ≤ R ∧ i = .int .i64 k ∧ Hid (wr.heap[bo]? = some (.cells (rowA ((List.range k).map (fun b => nV (r.getD b 0)) ++ List.replicate (R - k) 0)) 3 (0,0))) ∧ Hid (wr.heap[bg]? = some (.cells (boolA ((List.range k).map (fun b => nB (r.getD b 0)) ++ List.replicate (R - k) false)) 4 (0,0))) ∧ Hid (∀ b, b ≠ bo → b ≠ bg → b < w4.heap.size → wr.heap[b]? = w4.heap[b]?) ∧ Hid (Below w.heap.size w wr))
    (fun i _ => R - (intOf i).toNat)
   case atStart => exact ⟨0, Nat.zero_le _, rfl, by simpa using ho, by simpa using hg, hidE (fun _ _ _ _ => rfl), HB4⟩
   case round =>
    obtain ⟨k, hk, rfl, h1, h2, h3, h4⟩ := hrel
    by_cases hlt : k < R
    ·have k128 : (k : Int) < 128 := by omega
     have k128' : k < 128 := by omega
     have cT : wr.cell? ⟨w2.heap.size, k, none⟩ = some (.int .i64 (r.getD k 0)) := by
      rw [World.cell?_of_block (w := w4) (h3.out w2.heap.size (by omega) (by omega) lr), cell_of_row _ _ _ _ _ _ R4.out, rowA_get (by rw [HRL.out]; omega)]
     obtain ⟨xo, hxo⟩ : ∃ xo, ((List.range k).map (fun b => nV (r.getD b 0)) ++ List.replicate (R - k) 0).getD k 0 = xo := ⟨_, rfl⟩
     obtain ⟨xg, hxg⟩ : ∃ xg, ((List.range k).map (fun b => nB (r.getD b 0)) ++ List.replicate (R - k) false).getD k false = xg := ⟨_, rfl⟩
     have co : wr.cell? ⟨bo, k, none⟩ = some (.int .i64 xo) := by rw [cell_of_row _ _ _ _ _ _ h1.out, rowA_get (by simp; omega), hxo]
     have fo : wr.frozen? ⟨bo, k, none⟩ = false := frozen_of_row _ _ _ _ _ h1.out
     have cg : wr.cell? ⟨bg, k, none⟩ = some (.bool xg) := by rw [cell_of_row _ _ _ _ _ _ h2.out, boolA_get (by simp; omega), hxg]
     have fg : wr.frozen? ⟨bg, k, none⟩ = false := frozen_of_row _ _ _ _ _ h2.out
     have hne' : ¬ bg = bo := fun e => hne e.symm
     obtain ⟨vT, hvT⟩ : ∃ vT, r.getD k 0 = vT := ⟨_, rfl⟩
     rw [hvT] at cT
     have HVT := hidE hvT
     clear hvT hxo hxg
     go_wp2_with (go_at_call 190; refine (number_num _ _).mono ?_; rintro e w' ⟨rfl, rfl⟩)
     go_roundw
     case rel =>
      refine ⟨k + 1, by omega, by go_num, hidE ?_, hidE ?_, hidE ?_, hidE ((h4.out.setCell (by have := HBS.out; simp; omega) _).setCell (by have := HBS.out; simp; omega) _)⟩
      ·refine (heap_setCell_other _ _ _ _ hne).trans ((heap_setCell_same _ _ _ _ _ _ h1.out).trans ?_)
       rw [show numV vT = (fun b => nV (r.getD b 0)) k from by show numV vT = nV (r.getD k 0); rw [HVT.out]; rfl, rowA_set, fill_map _ _ hlt]
      ·refine (heap_setCell_same _ _ _ _ _ _ ((heap_setCell_other _ _ _ _ hne').trans h2.out)).trans ?_
       rw [show numB vT = (fun b => nB (r.getD b 0)) k from by show numB vT = nB (r.getD k 0); rw [HVT.out]; rfl, boolA_set, fill_map _ _ hlt]
      ·intro b b1 b2 b3
       exact (heap_setCell_other _ _ _ _ b2).trans ((heap_setCell_other _ _ _ _ b1).trans (h3.out b b1 b2 b3))
     case measure => simp [intOf]; omega
    ·obtain rfl : k = R := by omega
     have g1 : Hid (wr.heap[bo]? = some (.cells (rowA ((List.range k).map (fun b => nV (r.getD b 0)))) 3 (0,0))) := by simpa using h1
     have g2 : Hid (wr.heap[bg]? = some (.cells (boolA ((List.range k).map (fun b => nB (r.getD b 0)))) 4 (0,0))) := by simpa using h2
     clear h1 h2 e4
     go_wp2_with fail
     refine bodyPost_ret (v := .tuple #[.slice (some ⟨bo, 0, none⟩) k k, .slice (some ⟨bg, 0, none⟩) k k, .int .i64 0]) (by simp [results, Tryz.results173, go_sem]) rfl ⟨?_, h4.out⟩
     rw [HD.out]
     exact ⟨_, _, _, _, by simp; exact ⟨rfl, rfl⟩, ints_of_rowY g1.out, bools_of_row g2.out⟩
 ·have hd : distancesP N bs x = ([], [], askedE N bs [x]) := by unfold distancesP; rw [if_neg he]
  have HD := hidE hd
  have HE := hidE he
  obtain ⟨c, hc⟩ : ∃ c, askedE N bs [x] = c := ⟨_, rfl⟩
  have hc1 : (c == 0) = false := by rw [← hc]; simpa using he
  have hc2 : (c != 0) = true := by rw [← hc]; simpa using he
  have HC := hidE hc
  have HA := hidE hask
  clear hd he hc hask
  go_enter Tryz.func173, Tryz.ntmps173
  go_wp2_with fail
  refine HA.out.mono ?_
  rintro e w1 ⟨hp, hb1⟩
  unfold AskedPost at hp
  rw [if_neg HE.out, HC.out] at hp
  subst hp
  go_wp2_with fail
  refine bodyPost_ret (v := .tuple #[.slice none 0 0, .slice none 0 0, .int .i64 c]) (by simp [results, Tryz.results173, go_sem]) rfl ⟨?_, hB0.trans (hb1.mono hB0.size)⟩
  rw [HD.out, HC.out]
  exact ⟨none, 0, none, 0, rfl, .inl rfl, .inl rfl⟩
end Go.Proofs.YtkhemfnlflbniaaGreatDoor
namespace Go.Proofs.YtkhemfnlflbniaaGreatDoor
structure Crs where
 bearing : Int
 needle : Int
 links : Int
 year : Int
 wear : Int
 slack : Int
deriving DecidableEq
def normP (d : Int) : Int := (d.tmod 360 + 360).tmod 360
theorem normP_eq (d : Int) : normP d = d % 360 := by
 unfold normP
 have h1 : d.tmod 360 = if 0 ≤ d then d % 360 else -(-d % 360) := by
  split
  ·rename_i h; exact Int.tmod_eq_emod_of_nonneg h
  ·rename_i h
   rw [← Int.tmod_eq_emod_of_nonneg (a := -d) (by omega), Int.neg_tmod, Int.neg_neg]
 rw [h1]
 rw [Int.tmod_eq_emod_of_nonneg (by split <;> omega)]
 split <;> omega
theorem normP_bd (d : Int) : 0 ≤ normP d ∧ normP d ≤ 359 := by rw [normP_eq]; omega
def sinT : List Int := [0, 175, 349, 523, 698, 872, 1045, 1219, 1392, 1564, 1736, 1908, 2079, 2250, 2419, 2588, 2756, 2924, 3090, 3256, 3420, 3584, 3746, 3907, 4067, 4226, 4384, 4540, 4695, 4848, 5000, 5150, 5299, 5446, 5592, 5736, 5878, 6018, 6157, 6293, 6428, 6561, 6691, 6820, 6947, 7071, 7193, 7314, 7431, 7547, 7660, 7771, 7880, 7986, 8090, 8192, 8290, 8387, 8480, 8572, 8660, 8746, 8829, 8910, 8988, 9063, 9135, 9205, 9272, 9336, 9397, 9455, 9511, 9563, 9613, 9659, 9703, 9744, 9781, 9816, 9848, 9877, 9903, 9925, 9945, 9962, 9976, 9986, 9994, 9998, 10000]
def sin0 (n : Int) : Int := if n ≤ 90 then sinT.getD n.toNat 0 else sinT.getD (180 - n).toNat 0
def sinP (d : Int) : Int := if normP d ≤ 180 then sin0 (normP d) else -sin0 (normP d - 180)
def cosP (d : Int) : Int := sinP (normP d + 90)
theorem sinT_bd : ∀ i : Nat, 0 ≤ sinT.getD i 0 ∧ sinT.getD i 0 ≤ 10000 := by
 intro i
 by_cases h : i < 91
 ·have : ∀ j : Fin 91, 0 ≤ sinT.getD j 0 ∧ sinT.getD j 0 ≤ 10000 := by decide +kernel
  exact this ⟨i, h⟩
 ·rw [List.getD_eq_getElem?_getD, List.getElem?_eq_none (by show 91 ≤ i; omega)]
  simp
theorem sinP_bd (d : Int) : -10000 ≤ sinP d ∧ sinP d ≤ 10000 := by
 have h : ∀ n, 0 ≤ sin0 n ∧ sin0 n ≤ 10000 := fun n => by unfold sin0; split <;> exact sinT_bd _
 unfold sinP
 have := h (normP d)
 have := h (normP d - 180)
 split <;> omega
theorem cosP_bd (d : Int) : -10000 ≤ cosP d ∧ cosP d ≤ 10000 := sinP_bd _
theorem sinT_pos : ∀ i : Nat, 1 ≤ i → i ≤ 90 → 1 ≤ sinT.getD i 0 := by
 intro i h1 h2
 have : ∀ j : Fin 91, 1 ≤ j.val → 1 ≤ sinT.getD j 0 := by decide +kernel
 exact this ⟨i, by omega⟩ h1
theorem sinP_pos {d : Int} (h1 : 0 < d) (h2 : d < 180) : 1 ≤ sinP d := by
 have e : normP d = d := by rw [normP_eq]; omega
 unfold sinP sin0
 rw [e, if_pos (by omega)]
 split
 ·exact sinT_pos _ (by omega) (by omega)
 ·exact sinT_pos _ (by omega) (by omega)
def rootGo (n : Int) : Nat → Int → Int → Int
 | 0, lo, _ => lo
 | f + 1, lo, hi => if lo < hi then
  (if (lo + (hi - lo + 1).tdiv 2) * (lo + (hi - lo + 1).tdiv 2) ≤ n then rootGo n f (lo + (hi - lo + 1).tdiv 2) hi else rootGo n f lo (lo + (hi - lo + 1).tdiv 2 - 1))
   else lo
def IsRoot (n r : Int) : Prop := 0 ≤ r ∧ (r = 0 ∨ r * r ≤ n) ∧ n < (r + 1) * (r + 1)
theorem isRoot_unique {n r s : Int} (h : IsRoot n r) (k : IsRoot n s) : r = s := by
 obtain ⟨h1, h2, h3⟩ := h
 obtain ⟨k1, k2, k3⟩ := k
 have key : ∀ {a b : Int}, 0 ≤ a → (b = 0 ∨ b * b ≤ n) → n < (a + 1) * (a + 1) → 0 ≤ b → b ≤ a := by
  intro a b ha hb hn hb0
  rcases hb with rfl | hb
  ·exact ha
  ·apply Classical.byContradiction
   intro q
   have : (a + 1) * (a + 1) ≤ b * b := Int.mul_le_mul (by omega) (by omega) (by omega) (by omega)
   omega
 have a := key h1 k2 h3 k1
 have b := key k1 h2 k3 h1
 omega
theorem rootGo_is {n : Int} : ∀ (f : Nat) (lo hi : Int), 0 ≤ lo → lo ≤ hi → (hi - lo).toNat ≤ f → (lo = 0 ∨ lo * lo ≤ n) → n < (hi + 1) * (hi + 1) → IsRoot n (rootGo n f lo hi)
 | 0, lo, hi, h0, h1, hf, h2, h3 => by
   obtain rfl : lo = hi := by omega
   exact ⟨h0, h2, h3⟩
 | f + 1, lo, hi, h0, h1, hf, h2, h3 => by
   unfold rootGo
   by_cases hlt : lo < hi
   ·rw [if_pos hlt]
    obtain ⟨m, hm⟩ : ∃ m, lo + (hi - lo + 1).tdiv 2 = m := ⟨_, rfl⟩
    have hmb : lo < m ∧ m ≤ hi := by rw [Int.tdiv_eq_ediv_of_nonneg (by omega)] at hm; omega
    rw [hm]
    by_cases hq : m * m ≤ n
    ·rw [if_pos hq]
     exact rootGo_is f m hi (by omega) hmb.2 (by omega) (.inr hq) h3
    ·rw [if_neg hq]
     exact rootGo_is f lo (m - 1) h0 (by omega) (by omega) h2 (by rw [show m - 1 + 1 = m by omega]; omega)
   ·rw [if_neg hlt]
    obtain rfl : lo = hi := by omega
    exact ⟨h0, h2, h3⟩
def rootP (n : Int) : Int := rootGo n 3037000499 0 3037000499
theorem rootP_is {n : Int} (h : n ≤ 9223372030926249000) : IsRoot n (rootP n) := rootGo_is _ _ _ (by omega) (by omega) (by omega) (.inl rfl) (by omega)
def rootUpP (n : Int) : Int := if rootP n * rootP n < n then rootP n + 1 else rootP n
def Crs.ok (c : Crs) : Bool := inR c.bearing 0 359 && inR c.needle 0 30 && inR c.links 1 100000 && inR c.year 1 3000 && inR c.wear (-500) 500 && inR c.slack 0 200
theorem Crs.ok_iff {c : Crs} : c.ok = true ↔ (0 ≤ c.bearing ∧ c.bearing ≤ 359) ∧ (0 ≤ c.needle ∧ c.needle ≤ 30) ∧ (1 ≤ c.links ∧ c.links ≤ 100000) ∧ (1 ≤ c.year ∧ c.year ≤ 3000) ∧ (-500 ≤ c.wear ∧ c.wear ≤ 500) ∧ 0 ≤ c.slack ∧ c.slack ≤ 200 := by
 unfold Crs.ok inR
 simp only [Bool.and_eq_true, decide_eq_true_eq, and_assoc]
def Crs.back (c : Crs) : Crs := { c with bearing := normP (c.bearing + 180) }
theorem Crs.back_ok {c : Crs} (h : c.ok = true) : c.back.ok = true := by
 rw [Crs.ok_iff] at h ⊢
 exact ⟨normP_bd _, h.2⟩
def Crs.near (c : Crs) : Int := c.links * (10000 + c.wear - c.slack)
def Crs.far (c : Crs) : Int := c.links * (10000 + c.wear + c.slack)
theorem Crs.len_bd {c : Crs} (h : c.ok = true) : (0 ≤ c.near ∧ c.near ≤ 1070000000) ∧ 0 ≤ c.far ∧ c.far ≤ 1070000000 := by
 rw [Crs.ok_iff] at h
 unfold Crs.near Crs.far
 refine ⟨⟨Int.mul_nonneg (by omega) (by omega), ?_⟩, Int.mul_nonneg (by omega) (by omega), ?_⟩
 ·exact Int.le_trans (Int.mul_le_mul (a := c.links) (c := 100000) (b := 10000 + c.wear - c.slack) (d := 10700) (by omega) (by omega) (by omega) (by omega)) (by omega)
 ·exact Int.le_trans (Int.mul_le_mul (a := c.links) (c := 100000) (b := 10000 + c.wear + c.slack) (d := 10700) (by omega) (by omega) (by omega) (by omega)) (by omega)
def declGo (year : Int) : List Vrn → Option Int → Option Int
 | [], r => r
 | v :: l, r => declGo year l (if v.year ≤ year then some v.east else r)
def declP (l : List Vrn) (year : Int) : Option Int := if checkVrns l ≠ 0 then none else declGo year l none
theorem vrns_east : ∀ (l : List Vrn) (y : Int), vrnsB y l = true → ∀ v ∈ l, (-60 ≤ v.east ∧ v.east ≤ 60) ∧ v.year ≤ 3000
 | [], _, _, v, hv => by cases hv
 | u :: l, y, h, v, hv => by
   unfold vrnsB inR at h
   simp only [Bool.and_eq_true, decide_eq_true_eq] at h
   rcases List.mem_cons.1 hv with rfl | hv
   ·omega
   ·exact vrns_east l _ h.2 v hv
theorem declGo_mem {year : Int} : ∀ {l : List Vrn} {r : Option Int} {e : Int}, declGo year l r = some e → (∃ v ∈ l, v.east = e) ∨ r = some e
 | [], _, _, h => .inr h
 | v :: l, r, e, h => by
   unfold declGo at h
   rcases declGo_mem h with ⟨u, hu, he⟩ | q
   ·exact .inl ⟨u, List.mem_cons_of_mem _ hu, he⟩
   ·split at q
    ·exact .inl ⟨v, List.mem_cons_self .., by cases q; rfl⟩
    ·exact .inr q
theorem decl_bd {l : List Vrn} {year e : Int} (h : declP l year = some e) : -60 ≤ e ∧ e ≤ 60 := by
 unfold declP at h
 split at h
 ·cases h
 ·rename_i q
  rcases declGo_mem h with ⟨v, hv, rfl⟩ | q2
  ·have : vrnsB 0 l = true := by
    unfold checkVrns at q
    split at q
    ·exact absurd (show ¬ (2 : Int) = 0 by decide) (by simp at q)
    ·split at q
     ·assumption
     ·simp at q
   exact (vrns_east l 0 this v hv).1
  ·cases q2
def midP (c : Crs) (east : Int) : Int := normP (c.bearing + east + 90) - 90
theorem midP_bd (c : Crs) (east : Int) : -90 ≤ midP c east ∧ midP c east ≤ 269 := by
 unfold midP
 have := normP_bd (c.bearing + east + 90)
 omega
def floorP (a b : Int) : Int := if a.tmod b < 0 then a.tdiv b - 1 else a.tdiv b
def ceilP (a b : Int) : Int := -floorP (-a) b
def fitP (c : Crs) (east dx : Int) : Option (Int × Int) :=
 let lo := midP c east - c.needle
 let hi := midP c east + c.needle
 if hi ≤ 0 ∨ 180 ≤ lo then none else
 let most := floorP (c.far * c.far) 100000000 - dx * dx
 if most < 0 then none else
 let r := min (rootP most) 100000
 let h1 := if 0 < lo then min r (floorP (dx * cosP lo) (sinP lo)) else r
 let l1 := if hi < 180 then max (-r) (ceilP (dx * cosP hi) (sinP hi)) else -r
 let least := rootUpP (ceilP (c.near * c.near) 100000000 - dx * dx)
 let l2 := if hi ≤ 90 then max l1 least else l1
 let h2 := if hi ≤ 90 then h1 else if 90 ≤ lo then min h1 (-least) else h1
 if h2 < l2 then none else some (l2, h2)
theorem fitP_bd {c : Crs} {east dx a b : Int} (h : fitP c east dx = some (a, b)) : a ≤ b ∧ -100000 ≤ a ∧ b ≤ 100000 := by
 unfold fitP at h
 simp only at h
 by_cases h1 : midP c east + c.needle ≤ 0 ∨ 180 ≤ midP c east - c.needle
 ·rw [if_pos h1] at h; cases h
 rw [if_neg h1] at h
 obtain ⟨most, hmost⟩ : ∃ m, floorP (c.far * c.far) 100000000 - dx * dx = m := ⟨_, rfl⟩
 rw [hmost] at h
 by_cases h2 : most < 0
 ·rw [if_pos h2] at h; cases h
 rw [if_neg h2] at h
 obtain ⟨r, hr⟩ : ∃ r, min (rootP most) 100000 = r := ⟨_, rfl⟩
 rw [hr] at h
 obtain ⟨x, hx⟩ : ∃ r, floorP (dx * cosP (midP c east - c.needle)) (sinP (midP c east - c.needle)) = r := ⟨_, rfl⟩
 obtain ⟨y, hy⟩ : ∃ r, ceilP (dx * cosP (midP c east + c.needle)) (sinP (midP c east + c.needle)) = r := ⟨_, rfl⟩
 obtain ⟨z, hz⟩ : ∃ r, rootUpP (ceilP (c.near * c.near) 100000000 - dx * dx) = r := ⟨_, rfl⟩
 rw [hx, hy, hz] at h
 obtain ⟨h1', e1⟩ : ∃ v, (if 0 < midP c east - c.needle then min r x else r) = v := ⟨_, rfl⟩
 obtain ⟨l1', e2⟩ : ∃ v, (if midP c east + c.needle < 180 then max (-r) y else -r) = v := ⟨_, rfl⟩
 rw [e1, e2] at h
 obtain ⟨l2', e3⟩ : ∃ v, (if midP c east + c.needle ≤ 90 then max l1' z else l1') = v := ⟨_, rfl⟩
 obtain ⟨h2', e4⟩ : ∃ v, (if midP c east + c.needle ≤ 90 then h1' else if 90 ≤ midP c east - c.needle then min h1' (-z) else h1') = v := ⟨_, rfl⟩
 rw [e3, e4] at h
 have hrb : r ≤ 100000 := by omega
 have g1 : h1' ≤ r := by rw [← e1]; split <;> omega
 have g2 : -r ≤ l1' := by rw [← e2]; split <;> omega
 have g3 : l1' ≤ l2' := by rw [← e3]; split <;> omega
 have g4 : h2' ≤ h1' := by rw [← e4]; split <;> (try split) <;> omega
 by_cases h3 : h2' < l2'
 ·rw [if_pos h3] at h; cases h
 rw [if_neg h3] at h
 simp only [Option.some.injEq, Prod.mk.injEq] at h
 omega
def fitBoth (c : Crs) (east dx : Int) : Option (Int × Int) := if dx < 0 then (fitP c.back east (-dx)).map (fun p => (-p.2, -p.1)) else fitP c east dx
theorem fitBoth_bd {c : Crs} {east dx a b : Int} (h : fitBoth c east dx = some (a, b)) : a ≤ b ∧ -100000 ≤ a ∧ b ≤ 100000 := by
 unfold fitBoth at h
 split at h
 ·cases q : fitP c.back east (-dx) with
  | none => rw [q] at h; cases h
  | some p =>
    rw [q] at h
    simp only [Option.map_some, Option.some.injEq, Prod.mk.injEq] at h
    have := fitP_bd (a := p.1) (b := p.2) q
    omega
 ·exact fitP_bd h
def itvE (l : List Vrn) (c : Crs) (dx : Int) : Option (Int × Int) × Int :=
 if checkVrns l ≠ 0 then (none, checkVrns l) else if c.ok = false then (none, 1) else match declP l c.year with
  | none => (none, 20)
  | some e => if dx = 0 ∨ inR dx (-100000) 100000 = false then (none, 1) else (fitBoth c e dx, 0)
theorem itv_bd {l : List Vrn} {c : Crs} {dx a b : Int} (h : (itvE l c dx).1 = some (a, b)) : a ≤ b ∧ -100000 ≤ a ∧ b ≤ 100000 ∧ (itvE l c dx).2 = 0 := by
 unfold itvE at h ⊢
 split at h
 ·cases h
 ·rename_i h1
  rw [if_neg h1]
  split at h
  ·cases h
  ·rename_i h2
   rw [if_neg h2]
   split at h
   ·cases h
   ·split at h
    ·cases h
    ·rename_i e h3 h4
     have := fitBoth_bd h
     simp only [if_neg h4]
     exact ⟨this.1, this.2.1, this.2.2, trivial⟩
structure Cll where
 kind : Int
 limit : Int
 other : Int
 fr : Int
 tt : Int
 sz : Int
 er : Int
 crs : Crs
deriving DecidableEq
def crs0 : Crs := ⟨0, 0, 0, 0, 0, 0⟩
def limB (F : Fld) (i : Int) : Bool := inR i 0 ((F.lms.length : Int) - 1)
def staB (F : Fld) (i : Int) : Bool := inR i 0 ((F.sts.length : Int) - 1)
def sizedB (c : Cll) (low : Int) : Bool := inR c.sz low 100000 && inR c.er 0 100000
def stoneB (F : Fld) (c : Cll) : Bool := decide (c = ⟨c.kind, c.limit, 0, c.fr, 0, c.sz, c.er, crs0⟩) && limB F c.limit && staB F c.fr && sizedB c 0
def widthB (F : Fld) (c : Cll) : Bool := decide (c = ⟨c.kind, c.limit, c.other, c.fr, 0, c.sz, c.er, crs0⟩) && (limB F c.limit && limB F c.other) && decide (c.limit < c.other) && staB F c.fr && sizedB c 0
def courseB (F : Fld) (c : Cll) : Bool := decide (c = ⟨c.kind, c.limit, 0, c.fr, c.tt, 0, 0, c.crs⟩) && limB F c.limit && (staB F c.fr && staB F c.tt) && decide (c.fr ≠ c.tt) && c.crs.ok
def alongB (F : Fld) (c : Cll) : Bool := decide (c = ⟨c.kind, c.limit, c.other, c.fr, c.tt, 0, 0, crs0⟩) && (limB F c.limit && limB F c.other) && decide (c.limit < c.other) && (staB F c.fr && staB F c.tt) && decide (c.fr < c.tt)
def levelB (F : Fld) (c : Cll) : Bool := decide (c = ⟨c.kind, c.limit, 0, c.fr, c.tt, c.sz, c.er, crs0⟩) && limB F c.limit && (staB F c.fr && staB F c.tt) && decide (c.fr ≠ c.tt) && sizedB c (-100000)
def rightB (F : Fld) (c : Cll) : Bool :=
 if c.kind = 1 then stoneB F c else if c.kind = 2 then widthB F c else if c.kind = 3 then courseB F c else if c.kind = 4 then alongB F c else if c.kind = 5 then levelB F c else false
def ptF (F : Fld) (l s : Int) : Int := 1 + l * (F.sts.length : Int) + s
def runF (F : Fld) (c : Cll) : Int := (F.sts.getD c.tt.toNat sta0).x - (F.sts.getD c.fr.toNat sta0).x
def itvC (F : Fld) (c : Cll) : Option (Int × Int) × Int := itvE F.vrs c.crs (runF F c)
def callE (F : Fld) (c : Cll) : Int :=
 if rightB F c = false then 1 else if c.kind ≠ 3 then 0 else if declP F.vrs c.crs.year = none then 20 else
 if (itvC F c).2 ≠ 0 then (itvC F c).2 else if (itvC F c).1 = none then 5 else 0
def pairB (p q lo hi r : Int) : List Bd := [⟨p, q, hi, r⟩, ⟨q, p, -lo, r⟩]
def alongG (F : Fld) (c : Cll) (r : Int) (n : Nat) : List Bd := (List.range n).flatMap fun (i : Nat) => pairB (ptF F c.limit (c.fr + (i : Int))) (ptF F c.other (c.fr + (i : Int))) 0 0 r
def callBs (F : Fld) (c : Cll) (r : Int) : List Bd :=
 if c.kind = 1 then pairB 0 (ptF F c.limit c.fr) (c.sz - c.er) (c.sz + c.er) r
 else if c.kind = 2 then pairB (ptF F c.limit c.fr) (ptF F c.other c.fr) (c.sz - c.er) (c.sz + c.er) r
 else if c.kind = 3 then pairB (ptF F c.limit c.fr) (ptF F c.limit c.tt) ((itvC F c).1.getD (0, 0)).1 ((itvC F c).1.getD (0, 0)).2 r
 else if c.kind = 4 then alongG F c r (c.tt - c.fr + 1).toNat
 else if c.kind = 5 then pairB (ptF F c.limit c.fr) (ptF F c.limit c.tt) (c.sz - c.er) (c.sz + c.er) r
 else []
def natRow (F : Fld) (l : Nat) : List Bd := (List.range F.sts.length).map fun (s : Nat) => (⟨ptF F ((l : Int) + 1) (s : Int), ptF F (l : Int) (s : Int), 0, 0⟩ : Bd)
def natF (F : Fld) : List Bd :=
 ((List.range (F.lms.length * F.sts.length)).flatMap fun (p : Nat) => [(⟨0, (p : Int) + 1, 100000, 0⟩ : Bd), ⟨(p : Int) + 1, 0, 0, 0⟩]) ++ (List.range (F.lms.length - 1)).flatMap (natRow F)
structure Rcd where
 id : Int
 day : Int
 deed : ByteArray
 year : Int
 rank : Int
 call : Cll
def Rcd.right (r : Rcd) : Bool := inR r.id 1 1000000 && inR r.day 0 100000 && isNameB r.deed && inR r.year 1 3000 && inR r.rank 0 1000
def Rcd.bs (F : Fld) (r : Rcd) : List Bd := callBs F r.call r.id
def Rcd.err (F : Fld) (r : Rcd) : Int := if callE F r.call ≠ 0 then callE F r.call else if r.call.kind = 3 ∧ r.call.crs.year ≠ r.year then 1 else 0
def checkGo (F : Fld) : List Rcd → Nat → Int → Nat → Int × Int
 | [], _, _, _ => (0, 0)
 | r :: l, i, last, many =>
   if 300 ≤ i then (i, 2) else if r.right = false ∨ r.id ≤ last then (i, 1) else if r.err F ≠ 0 then (i, r.err F)
   else if 2000 < many + (r.bs F).length then (i, 2) else checkGo F l (i + 1) r.id (many + (r.bs F).length)
def checkE (F : Fld) (l : List Rcd) : Int × Int := if F.check ≠ 0 then (0, F.check) else checkGo F l 0 0 (natF F).length
def sysL (F : Fld) (l : List Rcd) : List Bd := natF F ++ l.flatMap (Rcd.bs F)
structure Good (F : Fld) (l : List Rcd) : Prop where
 fld : F.check = 0
 few : l.length ≤ 300
 each : ∀ r ∈ l, r.right = true ∧ r.err F = 0
 asc : l.Pairwise fun a b => a.id < b.id
 bds : (sysL F l).length ≤ 2000 ∨ l = []
theorem checkGo_iff (F : Fld) : ∀ (l : List Rcd) (i : Nat) (last : Int) (many : Nat), (checkGo F l i last many).2 = 0 ↔
 (l = [] ∨ i + l.length ≤ 300) ∧ (∀ r ∈ l, r.right = true ∧ r.err F = 0 ∧ last < r.id) ∧ (l.Pairwise fun a b => a.id < b.id) ∧ (l = [] ∨ many + (l.flatMap (Rcd.bs F)).length ≤ 2000)
 | [], i, last, many => by simp [checkGo]
 | r :: l, i, last, many => by
   have ih := checkGo_iff F l (i + 1) r.id (many + (r.bs F).length)
   unfold checkGo
   by_cases h1 : 300 ≤ i
   ·rw [if_pos h1]
    simp only [List.length_cons, List.cons_ne_nil, false_or]
    constructor
    ·intro h; exact absurd (show _ = (0 : Int) from h) (by simp)
    ·intro h; omega
   rw [if_neg h1]
   by_cases h2 : r.right = false ∨ r.id ≤ last
   ·rw [if_pos h2]
    constructor
    ·intro h; exact absurd (show _ = (0 : Int) from h) (by simp)
    ·intro h
     have := h.2.1 r (List.mem_cons_self ..)
     rcases h2 with q | q
     ·rw [this.1] at q; cases q
     ·omega
   rw [if_neg h2]
   by_cases h3 : r.err F ≠ 0
   ·rw [if_pos h3]
    constructor
    ·intro h; exact absurd h h3
    ·intro h; exact absurd (h.2.1 r (List.mem_cons_self ..)).2.1 h3
   rw [if_neg h3]
   have h2a : r.right = true := by
    cases q : r.right with
    | true => rfl
    | false => exact absurd (.inl q) h2
   have h2b : last < r.id := by
    apply Classical.byContradiction
    intro q
    exact h2 (.inr (by omega))
   have h3a : r.err F = 0 := Classical.not_not.1 h3
   by_cases h4 : 2000 < many + (r.bs F).length
   ·rw [if_pos h4]
    constructor
    ·intro h; exact absurd (show _ = (0 : Int) from h) (by simp)
    ·intro h
     have := h.2.2.2
     simp only [List.cons_ne_nil, false_or, List.flatMap_cons, List.length_append] at this
     omega
   rw [if_neg h4, ih]
   simp only [List.length_cons, List.cons_ne_nil, false_or, List.flatMap_cons, List.length_append, List.pairwise_cons, List.forall_mem_cons]
   constructor
   ·rintro ⟨a, b, c, d⟩
    refine ⟨?_, ⟨⟨h2a, h3a, h2b⟩, fun x hx => ⟨(b x hx).1, (b x hx).2.1, by have := (b x hx).2.2; omega⟩⟩, ⟨fun x hx => (b x hx).2.2, c⟩, ?_⟩
    ·rcases a with rfl | a
     ·simp; omega
     ·omega
    ·rcases d with rfl | d
     ·simp; omega
     ·omega
   ·rintro ⟨a, ⟨_, b⟩, ⟨c, d⟩, e⟩
    exact ⟨.inr (by omega), fun x hx => ⟨(b x hx).1, (b x hx).2.1, c x hx⟩, d, .inr (by omega)⟩
theorem right_id {r : Rcd} (h : r.right = true) : 1 ≤ r.id ∧ r.id ≤ 1000000 := by
 unfold Rcd.right inR at h
 simp only [Bool.and_eq_true, decide_eq_true_eq] at h
 omega
theorem check_iff (F : Fld) (l : List Rcd) : (checkE F l).2 = 0 ↔ Good F l := by
 unfold checkE
 by_cases h : F.check ≠ 0
 ·rw [if_pos h]
  exact ⟨fun q => absurd q h, fun q => absurd q.fld h⟩
 ·rw [if_neg h, checkGo_iff]
  have hl : (sysL F l).length = (natF F).length + (l.flatMap (Rcd.bs F)).length := by unfold sysL; rw [List.length_append]
  constructor
  ·rintro ⟨a, b, c, d⟩
   exact ⟨Classical.not_not.1 h, by rcases a with rfl | a <;> simp_all, fun r hr => ⟨(b r hr).1, (b r hr).2.1⟩, c, by rcases d with d | d; exact .inr d; exact .inl (by omega)⟩
  ·rintro ⟨a, b, c, d, e⟩
   refine ⟨.inr (by omega), fun r hr => ⟨(c r hr).1, (c r hr).2, by have := right_id (c r hr).1; omega⟩, d, ?_⟩
   rcases e with e | e
   ·exact .inr (by omega)
   ·exact .inl e
end Go.Proofs.YtkhemfnlflbniaaGreatDoor
