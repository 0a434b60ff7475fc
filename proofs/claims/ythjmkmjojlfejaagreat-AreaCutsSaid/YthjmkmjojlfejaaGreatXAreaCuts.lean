/- What the law AreaCuts needs beyond the base: Wp, Sm, Cg1, Sd, Gq, Cu1, Cu2, Cu3, Gp2, Gp3, Cu4, Tk, Cu5, Cu6, Cu7, Ar2, Cu8, Sf, Dv, Sg, Cu9, Lp, Lc2, Fr. No conditions beyond those stated. -/
import Derived.Test.YthjmkmjojlfejaaGreatB02
import Derived.Test.YthjmkmjojlfejaaGreatB01
import Derived.Test.YthjmkmjojlfejaaGreatProg
import Derived.WalkKit
import Derived.Handy
import Derived.RangeFuncRecord
import Derived.Shelf.Abstract
import Derived.Deep.QuietTactic
import Derived.BigQuiet
import Derived.Laws.CopyOwn
import Derived.WalkSmall
import Derived.RangeFuncNested
import Derived.RangeFuncBound
import Derived.RangeFuncCalls
import Derived.RangeFuncLeaves
import Derived.Shelf.RegionOpen
import Derived.OwnWalkIn
import Derived.TacticsInMore
import Derived.LoopNIn
import Derived.LoopIn
import Derived.Maps.AppendAt
import Derived.Deep.Onto
import Derived.OrdersHeld
import Derived.Deep.LoopGhost
import Derived.Deep.WholeRow
import Derived.Deep.OwnRows
import Derived.StillTailTactics
import Derived.Great.Walk
import Derived.Great.BuildSlice
import Derived.WalkMore
import Derived.Deep.MidRow
import Derived.Deep.RegionHeld3
import Derived.Deep.DeepCutAuto
import Derived.Test.YthjmkmjojlfejaaGreatB15
import Derived.Test.YthjmkmjojlfejaaGreatB04
import Derived.Test.YthjmkmjojlfejaaGreatB03
import Derived.Shelf.Small.Bits
import Derived.Shelf.Small.Wraps
import Derived.Shelf.Strconv.Itoa0
import Derived.Shelf.Sort.Plain
import Derived.Shelf.Slices.Turned
import Derived.Ground.Names2Prog
import Derived.Shelf.Slices.CompactI
import Derived.Shelf.Slices.SearchI
import Derived.Shelf.Slices.Cells
import Derived.Shelf.Slices.In.SortNone
import Derived.Lib.OwnBridge
import Derived.Lib.SliceRun
import Derived.WalkSpells
import Derived.Deep.RegionWith
import Derived.Lib.AppendZerosOnto
import Derived.Deep.CutBlock
import Derived.IntWalk
import Derived.Test.YthjmkmjojlfejaaGreatB05
import Derived.Test.YthjmkmjojlfejaaGreatB07
import Derived.Test.YthjmkmjojlfejaaGreatB06
import Derived.Test.YthjmkmjojlfejaaGreatB16
import Derived.Test.YthjmkmjojlfejaaGreatB08
import Derived.Test.YthjmkmjojlfejaaGreatB10
import Derived.Test.YthjmkmjojlfejaaGreatB09
import Derived.Test.YthjmkmjojlfejaaGreatB13
import Derived.Test.YthjmkmjojlfejaaGreatB14
import Derived.Test.YthjmkmjojlfejaaGreatRows
import Derived.ProofKit
import Derived.OpenShut
import Derived.Carry
import Derived.Lib.SmallJoins
import Derived.Deep.Slices
namespace Go.Proofs.YthjmkmjojlfejaaGreat
open Go Go.RowKit Go.Shelf
def IntsOut (l : List Int) (base : Nat) (e : Ending) (w' : World) : Prop := ∃ v, e = .returned v ∧ w'.ownsRow base 3 1 v l.length (intsV l)
end Go.Proofs.YthjmkmjojlfejaaGreat
namespace Go.Proofs.YthjmkmjojlfejaaGreat
theorem sumN_add (f g : Nat → Int) : ∀ n, sumN (fun i => f i + g i) n = sumN f n + sumN g n
 | 0 => rfl
 | n + 1 => by simp only [sumN, sumN_add f g n]; omega
theorem sumN_zero {f : Nat → Int} : ∀ {n : Nat}, (∀ i, i < n → f i = 0) → sumN f n = 0
 | 0, _ => rfl
 | n + 1, h => by simp only [sumN]; rw [sumN_zero fun i hi => h i (by omega), h n (by omega)]; rfl
end Go.Proofs.YthjmkmjojlfejaaGreat
namespace Go.Proofs.YthjmkmjojlfejaaGreat
open Go Go.RowKit Go.Shelf
set_option maxRecDepth 100000 in
set_option maxHeartbeats 2000000 in
theorem parcelled_any (w : World) (x : FV) (F : Fld) (i : Int) (h : FldAt w x F) :
 Calls Tryz.prog 119 #[x.val F, .int .i64 i] w fun e w' => e = .returned (.int .i64 (fieldedE F [i])) ∧ Below w.heap.size w w' := by
 have B0 := hidE (show Below w.heap.size w (w.alloc (.cells (x.arr F) 46)) from (Below.refl _ _).alloc (Nat.le_refl _) _)
 have X0 := hidE (heap_alloc_new w (.cells (x.arr F) 46))
 have l0 : w.heap.size < (w.alloc (.cells (x.arr F) 46)).heap.size := by simp
 have HCF := hidE (refCheckField_any (w.alloc (.cells (x.arr F) 46)) x F (h.alloc _))
 have hlp := h.lp
 obtain ⟨Q, hQ⟩ : ∃ Q, fieldedE F [i] = Q := ⟨_, rfl⟩
 rw [hQ]
 unfold fieldedE at hQ
 obtain ⟨c, hc⟩ : ∃ c, F.check = c := ⟨_, rfl⟩
 rw [hc] at hQ HCF
 by_cases hz : c = 0
 ·subst hz
  rw [if_neg (by omega)] at hQ
  simp only [List.all_cons, List.all_nil, Bool.and_true] at hQ
  have HQ := hidE hQ
  clear hQ hc h
  unfold FV.val FV.arr at *
  go_enter Tryz.func119, Tryz.ntmps119
  go_wp2_with fail
  refine HCF.out.mono ?_
  rintro e w1 ⟨rfl, hb1⟩
  have B1 := hidE (B0.out.trans (hb1.mono B0.out.size))
  have X1 := hidE (blk_below hb1 l0 X0.out)
  have c2 : w1.cell? ⟨w.heap.size, 2, none⟩ = some (.slice x.aP F.prs.length x.cP) := c_e X1.out rfl
  clear hb1
  by_cases q1 : i < 0
  ·have d1 : decide (i < 0) = true := by simpa using q1
   obtain rfl : (1 : Int) = Q := by rw [← HQ.out]; unfold inR; simp; omega
   clear q1
   go_wp2_with fail
   go_ret
   exact ⟨rfl, B1.out⟩
  ·have d1 : decide (i < 0) = false := by simpa using q1
   by_cases q2 : i ≥ (F.prs.length : Int)
   ·have d2 : decide (i ≥ (F.prs.length : Int)) = true := by simpa using q2
    have d2' : decide ((F.prs.length : Int) ≤ i) = true := by simpa using q2
    obtain rfl : (1 : Int) = Q := by rw [← HQ.out]; unfold inR; simp; omega
    clear q1 q2
    go_wp2_with fail
    go_ret
    exact ⟨rfl, B1.out⟩
   ·have d2 : decide (i ≥ (F.prs.length : Int)) = false := by simpa using q2
    have d2' : decide ((F.prs.length : Int) ≤ i) = false := by simpa using q2
    obtain rfl : (0 : Int) = Q := by rw [← HQ.out]; unfold inR; simp; omega
    clear q1 q2
    go_wp2_with fail
    go_ret
    exact ⟨rfl, B1.out⟩
 ·rw [if_pos hz] at hQ
  obtain rfl : c = Q := hQ
  have hzb : (c != 0) = true := by simpa using hz
  clear hz hc h
  unfold FV.val FV.arr at *
  go_enter Tryz.func119, Tryz.ntmps119
  go_wp2_with fail
  refine HCF.out.mono ?_
  rintro e w1 ⟨rfl, hb1⟩
  have B1 := hidE (B0.out.trans (hb1.mono B0.out.size))
  clear hb1
  go_wp2_with fail
  go_ret
  exact ⟨rfl, B1.out⟩
theorem within5_any (n a b : Int) (w : World) : Calls Tryz.prog 94 #[.int .i64 n, .int .i64 a, .int .i64 b] w fun e w' => e = .returned (.bool (inR n a b)) ∧ w = w' := by
 unfold inR
 go_enter Tryz.func94, Tryz.ntmps94
 go_wp2
 all_goals go_ret
 all_goals refine ⟨?_, rfl⟩
 all_goals simp [*]
 all_goals omega
set_option maxHeartbeats 1000000 in
theorem sum5_any (w : World) (a : Option Addr) (cap : Nat) (xs : List Int) (hl : xs.length ≤ 1000000) (h : IntsAt w a xs) (hb : ∀ k, k ≤ xs.length → -9000000000000000000 ≤ isum (xs.take k) ∧ isum (xs.take k) ≤ 9000000000000000000) :
 Calls Tryz.prog 96 #[.slice a xs.length cap] w fun e w' => e = .returned (.int .i64 (isum xs)) ∧ w' = w := by
 have H := hidE h
 have HB := hidE hb
 clear h hb
 go_enter Tryz.func96, Tryz.ntmps96
 go_wp2_with fail
 go_loopw [3, 4] (fun s i wr => ∃ k : Nat, k ≤ xs.length ∧ s = .int .i64 (isum (xs.take k)) ∧ i = .int .i64 k ∧ wr = w) (fun _ i _ => xs.length - (intOf i).toNat)
 case atStart => exact ⟨0, Nat.zero_le _, rfl, rfl, rfl⟩
 case round =>
  obtain ⟨k, hk, rfl, rfl, rfl⟩ := hrel
  have h1 := HB.out k hk
  by_cases hlt : k < xs.length
  ·obtain ⟨b, off, rfl, hbl, hc⟩ := H.out.at hlt
   have h2 := HB.out (k + 1) hlt
   rw [isum_take _ hlt] at h2
   have HS := hidE (isum_take xs hlt)
   obtain ⟨q, hq⟩ : ∃ q, xs[k] = q := ⟨_, rfl⟩
   rw [hq] at hc HS h2
   clear hq
   obtain ⟨z, hz⟩ : ∃ z, isum (xs.take k) = z := ⟨_, rfl⟩
   rw [hz] at HS h1 h2 ⊢
   clear hz
   have hw : IntKind.i64.wrap (z + q) = z + q := IntWalk.i64_in _ (by omega)
   go_wp2_with fail
   go_roundw
   case rel => first | exact ⟨k + 1, by omega, by rw [HS.out], by go_num, rfl⟩ | exact ⟨k + 1, by omega, by rw [HS.out], by go_num, trivial⟩
   case measure => simp [intOf]; omega
  ·obtain rfl : k = xs.length := by omega
   go_wp2_with fail
   go_ret
   exact ⟨by simp only [List.take_length]; rfl, rfl⟩
set_option maxHeartbeats 2000000 in
theorem shared_any (w : World) (total : Int) (a : Option Addr) (cap : Nat) (parts : List Int) (hl : parts.length ≤ 9223372036854775807) (h : IntsAt w a parts) :
 Calls Tryz.prog 93 #[.int .i64 total, .slice a parts.length cap] w fun e w' => e = .returned (.int .i64 (checkSharesP total parts)) ∧ w' = w := by
 obtain ⟨P, hP⟩ : ∃ P, checkSharesP total parts = P := ⟨_, rfl⟩
 rw [hP]
 have H := hidE h
 clear h
 by_cases h1 : 50 < parts.length
 ·unfold checkSharesP at hP
  rw [if_pos h1] at hP
  subst hP
  have hd : decide ((parts.length : Int) > 50) = true := by simp; omega
  go_enter Tryz.func93, Tryz.ntmps93
  go_wp2_with fail
  go_ret
  exact ⟨rfl, rfl⟩
 ·have hd : decide ((parts.length : Int) > 50) = false := by simp; omega
  have hd2 : decide (50 < parts.length) = false := by simp; omega
  have HI := hidE (fun W => within5_any total 0 100000000000 W)
  have HW := hidE (fun (x : Int) W => within5_any x 0 1000000 W)
  obtain ⟨r0, hr0⟩ : ∃ r, inR total 0 100000000000 = r := ⟨_, rfl⟩
  rw [hr0] at HI
  have HP := hidE hP
  have HR0 := hidE hr0
  clear hP hr0
  go_enter Tryz.func93, Tryz.ntmps93
  go_wp2_with fail
  refine (HI.out _).mono ?_
  rintro e w1 ⟨rfl, rfl⟩
  go_wp2_with fail
  go_loopw [5, 6] (fun b i wr => ∃ k : Nat, k ≤ parts.length ∧ b = .bool (r0 && (parts.take k).all fun v => inR v 0 1000000) ∧ i = .int .i64 k ∧ wr = w) (fun _ i _ => parts.length - (intOf i).toNat)
  case atStart => exact ⟨0, Nat.zero_le _, by simp, rfl, rfl⟩
  case round =>
   obtain ⟨k, hk, rfl, rfl, rfl⟩ := hrel
   by_cases hlt : k < parts.length
   ·obtain ⟨b, off, rfl, hbl, hc⟩ := H.out.at hlt
    have HS := hidE (show ((parts.take (k + 1)).all fun v => inR v 0 1000000) = (((parts.take k).all fun v => inR v 0 1000000) && inR parts[k] 0 1000000) by
     rw [List.take_succ_eq_append_getElem hlt, List.all_append]; simp)
    obtain ⟨x, hx⟩ : ∃ x, parts[k] = x := ⟨_, rfl⟩
    rw [hx] at hc HS
    obtain ⟨q, hq⟩ : ∃ q, inR x 0 1000000 = q := ⟨_, rfl⟩
    have HC := hidE (fun W => HW.out x W)
    rw [hq] at HC HS
    obtain ⟨o, ho⟩ : ∃ o, ((parts.take k).all fun v => inR v 0 1000000) = o := ⟨_, rfl⟩
    rw [ho] at HS ⊢
    clear hx hq ho
    obtain ⟨t, ht⟩ : ∃ t, (r0 && o) = t := ⟨_, rfl⟩
    rw [ht]
    have HT := hidE (show (r0 && ((parts.take (k + 1)).all fun v => inR v 0 1000000)) = (t && q) by rw [HS.out, ← ht, Bool.and_assoc])
    clear ht
    cases t with
    | false =>
      go_wp2_with fail
      go_roundw
      case rel => first | exact ⟨k + 1, by omega, by rw [HT.out]; rfl, by go_num, rfl⟩ | exact ⟨k + 1, by omega, by rw [HT.out]; rfl, by go_num, trivial⟩
      case measure => simp [intOf]; omega
    | true =>
      go_wp2_with fail
      refine (HC.out _).mono ?_
      rintro e w2 ⟨rfl, rfl⟩
      go_wp2_with fail
      go_roundw
      case rel => first | exact ⟨k + 1, by omega, by rw [HT.out]; rfl, by go_num, rfl⟩ | exact ⟨k + 1, by omega, by rw [HT.out]; rfl, by go_num, trivial⟩
      case measure => simp [intOf]; omega
   ·obtain rfl : k = parts.length := by omega
    rw [List.take_length]
    have HPE := hidE (show (if (r0 && parts.all fun v => inR v 0 1000000) = true then (if isum parts = 0 ∧ total ≠ 0 then 51 else 0) else 1) = P by
     rw [← HP.out]
     unfold checkSharesP
     rw [if_neg h1, HR0.out]
     cases r0 <;> cases (parts.all fun v => inR v 0 1000000) <;> simp)
    have HIM := hidE (show (r0 && parts.all fun v => inR v 0 1000000) = true → (0 ≤ total ∧ ∀ x ∈ parts, 0 ≤ x ∧ x ≤ 1000000) by
     intro hq
     rw [Bool.and_eq_true] at hq
     refine ⟨?_, fun x hx => ?_⟩
     ·have := HR0.out
      rw [hq.1] at this
      unfold inR at this
      simp at this
      exact this.1
     ·have := List.all_eq_true.1 hq.2 x hx
      unfold inR at this
      simpa using this)
    obtain ⟨t, ht⟩ : ∃ t, (r0 && parts.all fun v => inR v 0 1000000) = t := ⟨_, rfl⟩
    rw [ht] at HPE HIM ⊢
    clear ht HP HR0 HI HW
    cases t with
    | false =>
      have HP1 := hidE (show 1 = P from HPE.out)
      go_wp2_with fail
      go_ret
      exact ⟨by rw [← HP1.out]; rfl, rfl⟩
    | true =>
      obtain ⟨ht0, hp⟩ := HIM.out rfl
      have HSM := hidE (fun W hW => sum5_any W a cap parts (by omega) hW (fun k hk => by
       have := isum_take_bd (by decide) hp k
       omega))
      have HPQ := hidE (show (if isum parts = 0 ∧ total ≠ 0 then (51 : Int) else 0) = P from HPE.out)
      obtain ⟨s, hs⟩ : ∃ s, isum parts = s := ⟨_, rfl⟩
      rw [hs] at HSM HPQ
      clear hs HPE HIM hp
      by_cases hs0 : s = 0
      ·subst hs0
       by_cases ht1 : total = 0
       ·subst ht1
        have HP1 := hidE (show 0 = P by rw [← HPQ.out]; simp)
        go_wp2_with fail
        refine (HSM.out _ H.out).mono ?_
        rintro e w3 ⟨rfl, rfl⟩
        go_wp2_with fail
        go_ret
        exact ⟨by rw [← HP1.out]; rfl, rfl⟩
       ·have HP1 := hidE (show 51 = P by rw [← HPQ.out, if_pos ⟨rfl, ht1⟩])
        have hd3 : decide (total > 0) = true := by simp; omega
        have hd4 : decide (0 < total) = true := by simp; omega
        go_wp2_with fail
        refine (HSM.out _ H.out).mono ?_
        rintro e w3 ⟨rfl, rfl⟩
        go_wp2_with fail
        go_ret
        exact ⟨by rw [← HP1.out]; rfl, rfl⟩
      ·have HP1 := hidE (show 0 = P by rw [← HPQ.out, if_neg (fun h => hs0 h.1)])
       have hs1 : (s == 0) = false := by simpa using hs0
       go_wp2_with fail
       refine (HSM.out _ H.out).mono ?_
       rintro e w3 ⟨rfl, rfl⟩
       go_wp2_with fail
       go_ret
       exact ⟨by rw [← HP1.out]; rfl, rfl⟩
end Go.Proofs.YthjmkmjojlfejaaGreat
namespace Go.Proofs.YthjmkmjojlfejaaGreat
def cutsTo (G : List Gs) (l : List Int) (k : Nat) : List Int := (List.range k).map fun j => cutP G (isum (l.take (j + 1)))
theorem cutsTo_succ (G : List Gs) (l : List Int) (k : Nat) : cutsTo G l (k + 1) = cutsTo G l k ++ [cutP G (isum (l.take (k + 1)))] := by
 unfold cutsTo; rw [List.range_succ, List.map_append]; rfl
theorem cutsTo_len (G : List Gs) (l : List Int) (k : Nat) : (cutsTo G l k).length = k := by simp [cutsTo]
def divideE (F : Fld) (y : List Int) (i : Int) (parts : List Int) : List Int × Int :=
 if uprightE F y i ≠ 0 then ([], uprightE F y i)
 else if (sharesE (wholeP (grP F y (F.par i))) parts).2 ≠ 0 then ([], (sharesE (wholeP (grP F y (F.par i))) parts).2)
 else (cutsTo (grP F y (F.par i)) (sharesE (wholeP (grP F y (F.par i))) parts).1 (parts.length - 1), 0)
end Go.Proofs.YthjmkmjojlfejaaGreat
namespace Go.Proofs.YthjmkmjojlfejaaGreat
open Go Go.RowKit Go.Shelf
set_option maxHeartbeats 1000000 in
theorem rgcd_any (m n : Nat) (w : World) (hm : (m : Int) ≤ 9223372036854775807) (hn : (n : Int) ≤ 9223372036854775807) : Calls Tryz.prog 168 #[.int .i64 m, .int .i64 n] w fun e w' => e = .returned (.int .i64 (Nat.gcd m n : Nat)) ∧ Below w.heap.size w w' := by
 go_enter Tryz.func168, Tryz.ntmps168
 go_wp2_with fail
 go_loopw [0, 1] (fun a b wr => ∃ p q : Nat, a = .int .i64 p ∧ b = .int .i64 q ∧ Hid (Nat.gcd p q = Nat.gcd m n) ∧ Below w.heap.size w wr ∧ (p : Int) ≤ 9223372036854775807 ∧ (q : Int) ≤ 9223372036854775807) (fun _ b _ => (intOf b).toNat)
 case atStart => exact ⟨m, n, rfl, rfl, hidE rfl, Below.refl _ _, hm, hn⟩
 case round =>
  obtain ⟨p, q, rfl, rfl, HG, hb, hp9, hq9⟩ := hrel
  by_cases hq : q = 0
  ·subst hq
   have HB := hidE hb
   clear hb
   have d1 : (((0 : Nat) : Int) != 0) = false := by decide
   have hgp : Nat.gcd m n = p := by rw [← HG.out, Nat.gcd_zero_right]
   have HGP := hidE hgp
   have wn : IntKind.i64.wrap (-(p : Int)) = -(p : Int) := IntWalk.i64_in _ (by omega)
   have mx : max (p : Int) (-(p : Int)) = (p : Int) := by omega
   clear hgp HG
   go_wp2_with fail
   go_ret
   exact ⟨by rw [HGP.out]; rfl, HB.out⟩
  ·have d1 : ((q : Int) != 0) = true := by simp; omega
   have d2 : ((q : Int) == 0) = false := by simp; omega
   have HB := hidE hb
   have t1 : Int.tmod (p : Int) (q : Int) = ((p % q : Nat) : Int) := by rw [Int.ofNat_tmod]
   have hlt := Nat.mod_lt p (Nat.pos_of_ne_zero hq)
   obtain ⟨r, hr⟩ : ∃ r, p % q = r := ⟨_, rfl⟩
   have HG2 := hidE (show Nat.gcd q r = Nat.gcd m n by rw [← hr, ← HG.out, Nat.gcd_comm, ← Nat.gcd_rec, Nat.gcd_comm])
   rw [hr] at t1 hlt
   have w1 : IntKind.i64.wrap (r : Int) = (r : Int) := IntWalk.i64_in _ (by omega)
   clear hr hb HG
   go_wp2_with fail
   go_roundw
   case rel => exact ⟨q, r, rfl, rfl, HG2, HB.out, by omega, by omega⟩
   case measure => simp [intOf]; omega
theorem ratmost_any (w : World) (a b n : Int) (hb : 1 ≤ b) (hb2 : b ≤ 100000) (hn : -2400000000000 ≤ n ∧ n ≤ 2400000000000) :
 Calls Tryz.prog 170 #[.agg #[.int .i64 a, .int .i64 b], .int .i64 n] w fun e w' => e = .returned (.bool (decide (a ≤ n * b))) ∧ Below w.heap.size w w' := by
 obtain ⟨W, hW⟩ : ∃ W, W = w.alloc (.cells #[.int .i64 a, .int .i64 b] 49) := ⟨_, rfl⟩
 have B0 := hidE (show Below w.heap.size w W by rw [hW]; exact (Below.refl _ _).alloc (Nat.le_refl _) _)
 have x0 : W.heap[w.heap.size]? = some (.cells #[.int .i64 a, .int .i64 b] 49 (0,0)) := by rw [hW]; exact heap_alloc_new _ _
 have f0 : W.cell? ⟨w.heap.size, 0, none⟩ = some (.int .i64 a) := c_e x0 rfl
 have f1 : W.cell? ⟨w.heap.size, 1, none⟩ = some (.int .i64 b) := c_e x0 rfl
 have m := mul_bd (a := n) (b := b) (A := 2400000000000) (B := 100000) hn.1 hn.2 (by omega) (by omega)
 obtain ⟨p, hp⟩ : ∃ p, n * b = p := ⟨_, rfl⟩
 rw [hp] at m ⊢
 have wp : IntKind.i64.wrap p = p := IntWalk.i64_in _ (by omega)
 clear x0 m hn hb hb2
 go_enter Tryz.func170, Tryz.ntmps170
 go_upto_region 1 with fail
 rw [← hW]
 clear hW
 go_wp2_with fail
 go_ret
 exact ⟨rfl, B0.out⟩
def widthAt (F : Fld) (y : List Int) (p : Par) (s : Nat) : Int := getI y (ptP F (p.south + 1) s) - getI y (ptP F p.south s)
set_option maxRecDepth 100000 in
set_option maxHeartbeats 4000000 in
theorem rwidth_any (w : World) (x : FV) (F : Fld) (a2 : Option Addr) (cap2 : Nat) (y : List Int) (i s : Nat) (hz : F.check = 0) (hi : i < F.prs.length) (hs : s < F.sts.length) (hv : valuesB F.points y = true) (h : FldAt w x F) (h2 : IntsAt w a2 y) :
 Calls Tryz.prog 167 #[x.val F, .slice a2 y.length cap2, .int .i64 (i : Int), .int .i64 (s : Int)] w fun e w' => e = .returned (.int .i64 (widthAt F y F.prs[i] s)) ∧ Below w.heap.size w w' := by
 have hin := check0_inside hz (List.getElem_mem hi)
 obtain ⟨⟨ls1, ls2⟩, ⟨ll1, ll2⟩, lp⟩ := check0_len hz
 have hpn := points_nat hz
 obtain ⟨bP, oP, haP, hbP, hcP⟩ := RecsAt.at h.pr hi
 obtain ⟨p, hp⟩ : ∃ p, F.prs[i] = p := ⟨_, rfl⟩
 rw [hp] at hin hcP ⊢
 have c1 := hcP 1 (by omega)
 simp only [Par.cells, List.getElem?_cons_zero, List.getElem?_cons_succ] at c1
 have hy := valuesB_iff.1 (show valuesB (F.points.toNat : Int) y = true by rw [hpn.2.2]; exact hv)
 have hstrip : (0 ≤ ptP F p.south s ∧ ptP F p.south s < F.points) ∧ (0 ≤ ptP F (p.south + 1) s ∧ ptP F (p.south + 1) s < F.points) := by
  obtain ⟨_, _, _, _, _⟩ := hin
  unfold ptP Fld.points
  have h0 : 0 ≤ p.south * (F.sts.length : Int) := Int.mul_nonneg (by omega) (by omega)
  have h1 : 0 ≤ (p.south + 1) * (F.sts.length : Int) := Int.mul_nonneg (by omega) (by omega)
  have h2 : (p.south + 2) * (F.sts.length : Int) ≤ (F.lms.length : Int) * (F.sts.length : Int) := Int.mul_le_mul_of_nonneg_right (by omega) (by omega)
  have e1 : (p.south + 1) * (F.sts.length : Int) = p.south * (F.sts.length : Int) + F.sts.length := by rw [Int.add_mul, Int.one_mul]
  have e2 : (p.south + 2) * (F.sts.length : Int) = p.south * (F.sts.length : Int) + 2 * F.sts.length := by rw [Int.add_mul]
  omega
 obtain ⟨nn, hnn⟩ : ∃ n : Nat, ptP F (p.south + 1) s = n := ⟨_, (Int.toNat_of_nonneg hstrip.2.1).symm⟩
 obtain ⟨ns, hns⟩ : ∃ n : Nat, ptP F p.south s = n := ⟨_, (Int.toNat_of_nonneg hstrip.1.1).symm⟩
 have hps : 0 ≤ p.south ∧ p.south ≤ 100 := by obtain ⟨_, _, _, _, _⟩ := hin; omega
 have ln : nn < y.length := by have := hy.1; omega
 have lsn : ns < y.length := by have := hy.1; omega
 have HP1 := hidE (fun W => rpoint_any W x F (p.south + 1) s (by omega) (by omega) (by omega) (by omega) (by omega))
 have HP2 := hidE (fun W => rpoint_any W x F p.south s (by omega) (by omega) (by omega) (by omega) (by omega))
 rw [hnn] at HP1
 rw [hns] at HP2
 have hwd : widthAt F y p s = y.getD nn 0 - y.getD ns 0 := by unfold widthAt getI; rw [hnn, hns]; simp
 obtain ⟨b, off, rfl, hbl, hc1⟩ := h2.at ln
 obtain ⟨b', off', eq', _, hc2⟩ := h2.at lsn
 cases eq'
 have hb1 := hy.2.2 _ (List.getElem_mem ln)
 have hb2 := hy.2.2 _ (List.getElem_mem lsn)
 rw [getD_get y 0 ln, getD_get y 0 lsn] at hwd
 obtain ⟨v1, hv1⟩ : ∃ v, y[nn] = v := ⟨_, rfl⟩
 obtain ⟨v2, hv2⟩ : ∃ v, y[ns] = v := ⟨_, rfl⟩
 rw [hv1] at hc1 hb1 hwd
 rw [hv2] at hc2 hb2 hwd
 rw [hwd]
 have wv : IntKind.i64.wrap (v1 - v2) = v1 - v2 := IntWalk.i64_in _ (by omega)
 obtain ⟨W0, hW0⟩ : ∃ W0, W0 = w.alloc (.cells (x.arr F) 46) := ⟨_, rfl⟩
 have B0 := hidE (show Below w.heap.size w W0 by rw [hW0]; exact (Below.refl _ _).alloc (Nat.le_refl _) _)
 have X0 := hidE (show W0.heap[w.heap.size]? = some (.cells (x.arr F) 46 (0,0)) by rw [hW0]; exact heap_alloc_new _ _)
 obtain ⟨ps, hpe⟩ : ∃ t, p.south = t := ⟨_, rfl⟩
 rw [hpe] at c1 HP1 HP2 hps
 have hpw : IntKind.i64.wrap (ps + 1) = ps + 1 := IntWalk.i64_in _ (by omega)
 have C1 := hidE c1
 have D1 := hidE hc1
 have D2 := hidE hc2
 clear hv1 hv2 hwd hy hstrip hnn hns hin hcP hp hpe c1 hc1 hc2 h h2 hv hz hpn hb1 hb2
 unfold FV.val FV.arr at *
 rw [haP] at HP1 HP2 X0 hW0 ⊢
 have f2 : W0.cell? ⟨w.heap.size, 2, none⟩ = some (.slice (some ⟨bP, oP, none⟩) F.prs.length x.cP) := c_e X0.out rfl
 have f4 : W0.cell? ⟨bP, oP + i * 4 + 1, none⟩ = some (.int .i64 ps) := (B0.out.cell (p := ⟨bP, oP + i * 4 + 1, none⟩) hbP).trans C1.out
 clear haP C1
 go_enter Tryz.func167, Tryz.ntmps167
 go_upto_region 1 with fail
 rw [← hW0]
 clear hW0
 go_upto_region 2 with fail
 have g1 : W0.cell? ⟨b, off + nn, none⟩ = some (.int .i64 v1) := (B0.out.cell (p := ⟨b, off + nn, none⟩) hbl).trans D1.out
 have g2 : W0.cell? ⟨b, off + ns, none⟩ = some (.int .i64 v2) := (B0.out.cell (p := ⟨b, off + ns, none⟩) hbl).trans D2.out
 have l0 := lt_of_block X0.out
 have lb : b < W0.heap.size := Nat.lt_of_lt_of_le hbl B0.out.size
 clear f2 f4
 refine wp_region_F (S := fun V => V.heap[w.heap.size]? = some (.cells #[.slice x.aS F.sts.length x.cS, .slice x.aL F.lms.length x.cL, .slice (some ⟨bP, oP, none⟩) F.prs.length x.cP, .slice x.aV F.vrs.length x.cV] 46 (0,0)) ∧ V.cell? ⟨b, off + nn, none⟩ = some (.int .i64 v1) ∧ V.cell? ⟨b, off + ns, none⟩ = some (.int .i64 v2)) (last := 100) (by kernel_rfl) ?_
 have hS0 : W0.drew.heap[w.heap.size]? = some (.cells #[.slice x.aS F.sts.length x.cS, .slice x.aL F.lms.length x.cL, .slice (some ⟨bP, oP, none⟩) F.prs.length x.cP, .slice x.aV F.vrs.length x.cV] 46 (0,0)) ∧ W0.drew.cell? ⟨b, off + nn, none⟩ = some (.int .i64 v1) ∧ W0.drew.cell? ⟨b, off + ns, none⟩ = some (.int .i64 v2) := ⟨X0.out, g1, g2⟩
 refine t_n 0 16 (.slice (some ⟨b, off, none⟩) y.length cap2) rfl (by kernel_rfl) rfl (fun _ _ _ h => h) (fun V hV => ?_) hS0 ?_
 ·simp [go_sem, execOp]
 try simp only [s_a, s_b, s_c]
 refine t_n 1 17 (.agg #[.slice x.aS F.sts.length x.cS, .slice x.aL F.lms.length x.cL, .slice (some ⟨bP, oP, none⟩) F.prs.length x.cP, .slice x.aV F.vrs.length x.cV]) rfl (by kernel_rfl) rfl (fun _ _ _ h => h) (fun V hV => ?_) hS0 ?_
 ·have z0 : V.cell? ⟨w.heap.size, 0, none⟩ = some (.slice x.aS F.sts.length x.cS) := c_e hV.1 rfl
  have z1 : V.cell? ⟨w.heap.size, 1, none⟩ = some (.slice x.aL F.lms.length x.cL) := c_e hV.1 rfl
  have z2 : V.cell? ⟨w.heap.size, 2, none⟩ = some (.slice (some ⟨bP, oP, none⟩) F.prs.length x.cP) := c_e hV.1 rfl
  have z3 : V.cell? ⟨w.heap.size, 3, none⟩ = some (.slice x.aV F.vrs.length x.cV) := c_e hV.1 rfl
  simp [go_sem, execOp, z0, z1, z2, z3]
 try simp only [s_a, s_b, s_c]
 refine t_n 2 18 (.int .i64 ps) rfl (by kernel_rfl) rfl (fun _ _ _ h => h) (fun V hV => ?_) hS0 ?_
 ·simp [go_sem, execOp]
 try simp only [s_a, s_b, s_c]
 refine t_n 3 19 (.int .i64 (ps + 1)) rfl (by kernel_rfl) rfl (fun _ _ _ h => h) (fun V hV => ?_) hS0 ?_
 ·simp [go_sem, execOp, hpw]
 try simp only [s_a, s_b, s_c]
 refine t_n 4 20 (.int .i64 (s : Int)) rfl (by kernel_rfl) rfl (fun _ _ _ h => h) (fun V hV => ?_) hS0 ?_
 ·simp [go_sem, execOp]
 try simp only [s_a, s_b, s_c]
 refine t_n 8 24 (.slice (some ⟨b, off, none⟩) y.length cap2) rfl (by kernel_rfl) rfl (fun _ _ _ h => h) (fun V hV => ?_) hS0 ?_
 ·simp [go_sem, execOp]
 try simp only [s_a, s_b, s_c]
 refine t_n 9 25 (.agg #[.slice x.aS F.sts.length x.cS, .slice x.aL F.lms.length x.cL, .slice (some ⟨bP, oP, none⟩) F.prs.length x.cP, .slice x.aV F.vrs.length x.cV]) rfl (by kernel_rfl) rfl (fun _ _ _ h => h) (fun V hV => ?_) hS0 ?_
 ·have z0 : V.cell? ⟨w.heap.size, 0, none⟩ = some (.slice x.aS F.sts.length x.cS) := c_e hV.1 rfl
  have z1 : V.cell? ⟨w.heap.size, 1, none⟩ = some (.slice x.aL F.lms.length x.cL) := c_e hV.1 rfl
  have z2 : V.cell? ⟨w.heap.size, 2, none⟩ = some (.slice (some ⟨bP, oP, none⟩) F.prs.length x.cP) := c_e hV.1 rfl
  have z3 : V.cell? ⟨w.heap.size, 3, none⟩ = some (.slice x.aV F.vrs.length x.cV) := c_e hV.1 rfl
  simp [go_sem, execOp, z0, z1, z2, z3]
 try simp only [s_a, s_b, s_c]
 refine t_n 10 26 (.int .i64 ps) rfl (by kernel_rfl) rfl (fun _ _ _ h => h) (fun V hV => ?_) hS0 ?_
 ·simp [go_sem, execOp]
 try simp only [s_a, s_b, s_c]
 refine t_n 11 27 (.int .i64 (s : Int)) rfl (by kernel_rfl) rfl (fun _ _ _ h => h) (fun V hV => ?_) hS0 ?_
 ·simp [go_sem, execOp]
 try simp only [s_a, s_b, s_c]
 refine wpAnyF_step 5 rfl (by kernel_rfl) (fun K hK => ?_)
 go_simp
 go_at_call 169
 refine (HP1.out _).mono ?_
 rintro e w1 ⟨rfl, hbx⟩
 have hb : Below W0.heap.size W0 w1 := (Below.refl _ W0).drew.trans hbx
 have w1B := hidE (B0.out.trans (hb.mono B0.out.size))
 have hS1 : w1.heap[w.heap.size]? = some (.cells #[.slice x.aS F.sts.length x.cS, .slice x.aL F.lms.length x.cL, .slice (some ⟨bP, oP, none⟩) F.prs.length x.cP, .slice x.aV F.vrs.length x.cV] 46 (0,0)) ∧ w1.cell? ⟨b, off + nn, none⟩ = some (.int .i64 v1) ∧ w1.cell? ⟨b, off + ns, none⟩ = some (.int .i64 v2) := ⟨blk_below hb (lt_of_block X0.out) X0.out, (hb.cell (p := ⟨b, off + nn, none⟩) lb).trans g1, (hb.cell (p := ⟨b, off + ns, none⟩) lb).trans g2⟩
 have lb1 : b < w1.heap.size := Nat.lt_of_lt_of_le lb hb.size
 clear hb hbx
 go_wp2_with fail
 refine hK.out _ _ (.inr hS1) ?_
 clear hK K
 try simp only [Act.put, s_a, s_b, s_c]
 refine t_n 6 22 (.pointer (some ⟨b, off + nn, none⟩)) rfl (by kernel_rfl) rfl (fun _ _ _ h => h) (fun V hV => ?_) hS1 ?_
 ·simp [go_sem, execOp, ln]
 try simp only [s_a, s_b, s_c]
 refine t_n 7 23 (.int .i64 v1) rfl (by kernel_rfl) rfl (fun _ _ _ h => h) (fun V hV => ?_) hS1 ?_
 ·have z0 := hV.2.1
  simp [go_sem, execOp, z0]
 try simp only [s_a, s_b, s_c]
 refine wpAnyF_step 12 rfl (by kernel_rfl) (fun K hK => ?_)
 go_simp
 go_at_call 169
 refine (HP2.out _).mono ?_
 rintro e w2 ⟨rfl, hbx⟩
 have hb : Below w1.heap.size w1 w2 := hbx
 have w2B := hidE (w1B.out.trans (hb.mono w1B.out.size))
 have hS2 : w2.heap[w.heap.size]? = some (.cells #[.slice x.aS F.sts.length x.cS, .slice x.aL F.lms.length x.cL, .slice (some ⟨bP, oP, none⟩) F.prs.length x.cP, .slice x.aV F.vrs.length x.cV] 46 (0,0)) ∧ w2.cell? ⟨b, off + nn, none⟩ = some (.int .i64 v1) ∧ w2.cell? ⟨b, off + ns, none⟩ = some (.int .i64 v2) := ⟨blk_below hb (lt_of_block hS1.1) hS1.1, (hb.cell (p := ⟨b, off + nn, none⟩) lb1).trans hS1.2.1, (hb.cell (p := ⟨b, off + ns, none⟩) lb1).trans hS1.2.2⟩
 clear hb hbx
 go_wp2_with fail
 refine hK.out _ _ (.inr hS2) ?_
 clear hK K
 try simp only [Act.put, s_a, s_b, s_c]
 refine t_n 13 29 (.pointer (some ⟨b, off + ns, none⟩)) rfl (by kernel_rfl) rfl (fun _ _ _ h => h) (fun V hV => ?_) hS2 ?_
 ·simp [go_sem, execOp, lsn]
 try simp only [s_a, s_b, s_c]
 refine t_n 14 30 (.int .i64 v2) rfl (by kernel_rfl) rfl (fun _ _ _ h => h) (fun V hV => ?_) hS2 ?_
 ·have z0 := hV.2.2
  simp [go_sem, execOp, z0]
 try simp only [s_a, s_b, s_c]
 refine t_n 15 31 (.int .i64 (v1 - v2)) rfl (by kernel_rfl) rfl (fun _ _ _ h => h) (fun V hV => ?_) hS2 ?_
 ·simp [go_sem, execOp, wv]
 try simp only [s_a, s_b, s_c]
 refine t_n 16 8 (.int .i64 (v1 - v2)) rfl (by kernel_rfl) rfl (fun _ _ _ h => h) (fun V hV => ?_) hS2 ?_
 ·simp [go_sem, execOp]
 try simp only [s_a, s_b, s_c]
 refine wpAnyF_done (by kernel_rfl) ?_ _
 go_wp2_with fail
 go_ret
 exact ⟨rfl, w2B.out⟩
def widesTo (F : Fld) (y : List Int) (p : Par) (k : Nat) : Bool := (List.range k).all fun j => inR (widthAt F y p (p.wst.toNat + j)) 0 1000000
theorem widesTo_succ (F : Fld) (y : List Int) (p : Par) (k : Nat) : widesTo F y p (k + 1) = (widesTo F y p k && inR (widthAt F y p (p.wst.toNat + k)) 0 1000000) := by
 unfold widesTo
 rw [List.range_succ, List.all_append]
 simp
theorem wides_gr {F : Fld} {y : List Int} {p : Par} (hp : p.inside F) : widesTo F y p ((p.est - p.wst).toNat + 1) = ((grP F y p).all wideB && (grP F y p).all wideE) := by
 obtain ⟨h1, h2, h3, h4, h5⟩ := hp
 rw [Bool.eq_iff_iff]
 unfold widesTo
 simp only [Bool.and_eq_true, List.all_eq_true, List.mem_range]
 have hw : ∀ k, k < (p.est - p.wst).toNat → ∃ t ∈ grP F y p, t.w = widthAt F y p (p.wst.toNat + k) ∧ t.e = widthAt F y p (p.wst.toNat + (k + 1)) := fun k hk => by
  have hl : k < (grP F y p).length := by rw [grP_len]; exact hk
  exact ⟨_, List.getElem_mem hl, by rw [grP_get F y p hl]; rfl, by rw [grP_get F y p hl]; rfl⟩
 constructor
 ·intro h
  refine ⟨fun t ht => ?_, fun t ht => ?_⟩
  ·obtain ⟨k, hk, rfl⟩ := List.getElem_of_mem ht
   have hk2 : k < (p.est - p.wst).toNat := by rw [grP_len] at hk; exact hk
   rw [grP_get F y p hk]
   exact h k (by omega)
  ·obtain ⟨k, hk, rfl⟩ := List.getElem_of_mem ht
   have hk2 : k < (p.est - p.wst).toNat := by rw [grP_len] at hk; exact hk
   rw [grP_get F y p hk]
   exact h (k + 1) (by omega)
 ·rintro ⟨a, b⟩ k hk
  by_cases h0 : k < (p.est - p.wst).toNat
  ·obtain ⟨t, ht, e1, _⟩ := hw k h0
   have := a t ht
   unfold wideB at this
   rw [e1] at this
   exact this
  ·obtain ⟨t, ht, _, e2⟩ := hw (k - 1) (by omega)
   have := b t ht
   unfold wideE at this
   rw [e2, show k - 1 + 1 = k by omega] at this
   exact this
set_option maxRecDepth 100000 in
set_option maxHeartbeats 4000000 in
theorem rupright_any (w : World) (x : FV) (F : Fld) (i : Int) (a2 : Option Addr) (cap2 : Nat) (y : List Int) (hy : y.length ≤ 9223372036854775807) (h : FldAt w x F) (h2 : IntsAt w a2 y) :
 Calls Tryz.prog 115 #[x.val F, .slice a2 y.length cap2, .int .i64 i] w fun e w' => e = .returned (.int .i64 (uprightE F y i)) ∧ Below w.heap.size w w' := by
 have B0 := hidE (show Below w.heap.size w (w.alloc (.cells (x.arr F) 46)) from (Below.refl _ _).alloc (Nat.le_refl _) _)
 have X0 := hidE (heap_alloc_new w (.cells (x.arr F) 46))
 have l0 : w.heap.size < (w.alloc (.cells (x.arr F) 46)).heap.size := by simp
 have HFI := hidE (fun (W : World) (hb : Below w.heap.size w W) => parcelled_any W x F i (h.below hb))
 have H2 := hidE h2
 have H := hidE h
 obtain ⟨P, hP⟩ : ∃ z, uprightE F y i = z := ⟨_, rfl⟩
 rw [hP]
 unfold uprightE at hP
 by_cases hz : fieldedE F [i] = 0
 rotate_left
 ·rw [if_pos hz] at hP
  have hzb : (P != 0) = true := by rw [← hP]; simpa using hz
  rw [hP] at HFI
  clear hz hP h h2
  unfold FV.val FV.arr at *
  go_enter Tryz.func115, Tryz.ntmps115
  go_wp2_with fail
  refine (HFI.out _ B0.out).mono ?_
  rintro e w1 ⟨rfl, hb1⟩
  have B1 := hidE (B0.out.trans (hb1.mono B0.out.size))
  clear hb1
  go_wp2_with fail
  go_ret
  exact ⟨rfl, B1.out⟩
 obtain ⟨hc, n, rfl, hn, hpar⟩ := fielded_one hz
 rw [if_neg (by omega)] at hP
 rw [hz] at HFI
 have hlen := check0_len hc
 have hpn := points_nat hc
 have HPT := hidE (fun (W : World) => rpoints_any W x F (by omega) (by omega))
 have HVA := hidE (fun (W : World) (hb : Below w.heap.size w W) => refvalued_any W F.points a2 cap2 y (by omega) hy (H2.out.below hb (Nat.le_refl _)))
 rw [hpar] at hP
 cases hq : valuesB F.points y with
 | false =>
   rw [if_pos hq] at hP
   obtain rfl : (1 : Int) = P := hP
   rw [hq] at HVA
   obtain ⟨N, hN⟩ : ∃ N, F.points = N := ⟨_, rfl⟩
   rw [hN] at HPT HVA
   clear hz hN hq hpn hlen h h2 hpar hc hn
   unfold FV.val FV.arr at *
   go_enter Tryz.func115, Tryz.ntmps115
   go_wp2_with fail
   refine (HFI.out _ B0.out).mono ?_
   rintro e w1 ⟨rfl, hb1⟩
   have B1 := hidE (B0.out.trans (hb1.mono B0.out.size))
   have X1 := hidE (blk_below hb1 l0 X0.out)
   have f0 : w1.cell? ⟨w.heap.size, 0, none⟩ = some (.slice x.aS F.sts.length x.cS) := c_e X1.out rfl
   have f1 : w1.cell? ⟨w.heap.size, 1, none⟩ = some (.slice x.aL F.lms.length x.cL) := c_e X1.out rfl
   have f2 : w1.cell? ⟨w.heap.size, 2, none⟩ = some (.slice x.aP F.prs.length x.cP) := c_e X1.out rfl
   have f3 : w1.cell? ⟨w.heap.size, 3, none⟩ = some (.slice x.aV F.vrs.length x.cV) := c_e X1.out rfl
   clear hb1
   go_wp2_with fail
   refine (HPT.out _).mono ?_
   rintro e w2 ⟨rfl, hb2⟩
   have B2 := hidE (B1.out.trans (hb2.mono B1.out.size))
   clear hb2
   go_wp2_with fail
   refine (HVA.out _ B2.out).mono ?_
   rintro e w3 ⟨rfl, hb3⟩
   have B3 := hidE (B2.out.trans (hb3.mono B2.out.size))
   clear hb3
   go_wp2_with fail
   go_ret
   exact ⟨rfl, B3.out⟩
 | true =>
   rw [if_neg (by simp [hq])] at hP
   have hin := check0_inside hc (List.getElem_mem hn)
   have HWD := hidE (fun (W : World) (hb : Below w.heap.size w W) (s : Nat) (hs : s < F.sts.length) => rwidth_any W x F a2 cap2 y n s hc hn hs hq (H.out.below hb) (H2.out.below hb (Nat.le_refl _)))
   have hgr := wides_gr (y := y) hin
   rw [hq] at HVA
   obtain ⟨N, hN⟩ : ∃ N, F.points = N := ⟨_, rfl⟩
   rw [hN] at HPT HVA
   obtain ⟨bP, oP, haP, hbP, hcP⟩ := RecsAt.at h.pr hn
   obtain ⟨p, hp⟩ : ∃ p, F.prs[n] = p := ⟨_, rfl⟩
   rw [hp] at hin hcP hP HWD hgr
   obtain ⟨m, hm⟩ : ∃ m : Nat, p.wst = m := ⟨p.wst.toNat, by obtain ⟨_, _, _, _, _⟩ := hin; omega⟩
   obtain ⟨E, hE⟩ : ∃ E : Nat, p.est = E := ⟨p.est.toNat, by obtain ⟨_, _, _, _, _⟩ := hin; omega⟩
   obtain ⟨K, hK⟩ : ∃ K : Nat, E + 1 = m + K := ⟨E + 1 - m, by obtain ⟨_, _, _, _, _⟩ := hin; omega⟩
   have hEb : E < F.sts.length := by obtain ⟨_, _, _, _, _⟩ := hin; omega
   have HK := hidE hK
   have hmt : p.wst.toNat = m := by omega
   have hKt : (p.est - p.wst).toNat + 1 = K := by obtain ⟨_, _, _, _, _⟩ := hin; omega
   rw [hKt] at hgr
   have HSU := hidE (fun k => widesTo_succ F y p k)
   rw [hmt] at HSU
   have HW0 : Hid (widesTo F y p 0 = true) := hidE rfl
   obtain ⟨T, hT⟩ : ∃ T, widesTo F y p = T := ⟨_, rfl⟩
   obtain ⟨wa, hwa⟩ : ∃ t, widthAt F y p = t := ⟨_, rfl⟩
   rw [hT] at hgr HSU HW0
   rw [hwa] at HWD HSU
   have HP : Hid (T K = true → P = 0) := hidE (fun e => by
    rw [hgr, Bool.and_eq_true] at e
    rw [← hP, if_neg (by rw [e.1, e.2]; simp)])
   have HPF : Hid (T K = false → P = 1) := hidE (fun e => by
    rw [hgr, Bool.and_eq_false_iff] at e
    rw [← hP, if_pos e])
   obtain ⟨pn, ps, pw, pe⟩ := p
   dsimp only at hm hE
   subst hm hE
   have c0 := hcP 0 (by omega)
   have c1 := hcP 1 (by omega)
   have c2 := hcP 2 (by omega)
   have c3 := hcP 3 (by omega)
   simp only [Par.cells, List.getElem?_cons_zero, List.getElem?_cons_succ, Nat.add_zero] at c0 c1 c2 c3
   have C0 := hidE c0
   have C1 := hidE c1
   have C2 := hidE c2
   have C3 := hidE c3
   have hs12 : F.sts.length ≤ 12 := hlen.1.2
   clear hz hN hq hpn hlen h h2 hpar hc hin hcP hp hK hmt hKt hgr hT hwa hP c0 c1 c2 c3
   unfold FV.val FV.arr at *
   rw [haP] at HFI HPT HWD X0 B0 l0 ⊢
   clear haP
   go_enter Tryz.func115, Tryz.ntmps115
   go_wp2_with fail
   refine (HFI.out _ B0.out).mono ?_
   rintro e w1 ⟨rfl, hb1⟩
   have B1 := hidE (B0.out.trans (hb1.mono B0.out.size))
   have X1 := hidE (blk_below hb1 l0 X0.out)
   have l1 := lt_of_block X1.out
   have f0 : w1.cell? ⟨w.heap.size, 0, none⟩ = some (.slice x.aS F.sts.length x.cS) := c_e X1.out rfl
   have f1 : w1.cell? ⟨w.heap.size, 1, none⟩ = some (.slice x.aL F.lms.length x.cL) := c_e X1.out rfl
   have f2 : w1.cell? ⟨w.heap.size, 2, none⟩ = some (.slice (some ⟨bP, oP, none⟩) F.prs.length x.cP) := c_e X1.out rfl
   have f3 : w1.cell? ⟨w.heap.size, 3, none⟩ = some (.slice x.aV F.vrs.length x.cV) := c_e X1.out rfl
   clear hb1
   go_wp2_with fail
   refine (HPT.out _).mono ?_
   rintro e w2 ⟨rfl, hb2⟩
   have B2 := hidE (B1.out.trans (hb2.mono B1.out.size))
   have X2 := hidE (blk_below hb2 l1 X1.out)
   have l2 := lt_of_block X2.out
   clear hb2 f0 f1 f2 f3
   go_wp2_with fail
   refine (HVA.out _ B2.out).mono ?_
   rintro e w3 ⟨rfl, hb3⟩
   have B3 := hidE (B2.out.trans (hb3.mono B2.out.size))
   have X3 := hidE (blk_below hb3 l2 X2.out)
   have l3 := lt_of_block X3.out
   have f0 : w3.cell? ⟨w.heap.size, 0, none⟩ = some (.slice x.aS F.sts.length x.cS) := c_e X3.out rfl
   have f1 : w3.cell? ⟨w.heap.size, 1, none⟩ = some (.slice x.aL F.lms.length x.cL) := c_e X3.out rfl
   have f2 : w3.cell? ⟨w.heap.size, 2, none⟩ = some (.slice (some ⟨bP, oP, none⟩) F.prs.length x.cP) := c_e X3.out rfl
   have f3 : w3.cell? ⟨w.heap.size, 3, none⟩ = some (.slice x.aV F.vrs.length x.cV) := c_e X3.out rfl
   have d0 := (B3.out.cell (p := ⟨bP, oP + n * 4, none⟩) hbP).trans C0.out
   have d1 := (B3.out.cell (p := ⟨bP, oP + n * 4 + 1, none⟩) hbP).trans C1.out
   have d2 := (B3.out.cell (p := ⟨bP, oP + n * 4 + 2, none⟩) hbP).trans C2.out
   have d3 := (B3.out.cell (p := ⟨bP, oP + n * 4 + 3, none⟩) hbP).trans C3.out
   clear hb3 C0 C1 C2 C3
   go_upto_region 8 with fail
   obtain ⟨w4, hw4⟩ : ∃ W, W = w3.alloc (.cells #[.string pn, .int .i64 ps, .int .i64 (m : Int), .int .i64 (E : Int)] 53) := ⟨_, rfl⟩
   rw [← hw4]
   have B4 := hidE (show Below w.heap.size w w4 by rw [hw4]; exact B3.out.alloc B3.out.size _)
   have X4 := hidE (show w4.heap[w.heap.size]? = some (.cells #[.slice x.aS F.sts.length x.cS, .slice x.aL F.lms.length x.cL, .slice (some ⟨bP, oP, none⟩) F.prs.length x.cP, .slice x.aV F.vrs.length x.cV] 46 (0,0)) by rw [hw4]; exact (Below.heap_alloc _ _ _ l3).trans X3.out)
   have G4 := hidE (show w4.heap[w3.heap.size]? = some (.cells #[.string pn, .int .i64 ps, .int .i64 (m : Int), .int .i64 (E : Int)] 53 (0,0)) by rw [hw4]; exact heap_alloc_new _ _)
   obtain ⟨g, hg⟩ : ∃ g, w3.heap.size = g := ⟨_, rfl⟩
   rw [hg] at G4 ⊢
   clear hw4 hg f0 f1 f2 f3 d0 d1 d2 d3 X3 l3
   have k2 : w4.cell? ⟨g, 2, none⟩ = some (.int .i64 (m : Int)) := c_e G4.out rfl
   go_wp2_with fail
   clear k2
   go_loopw [8, 10] (fun v i wr => ∃ k : Nat, k ≤ K ∧ i = .int .i64 ((m + k : Nat) : Int) ∧ v = .bool (T k) ∧ Hid (wr.heap[w.heap.size]? = some (.cells #[.slice x.aS F.sts.length x.cS, .slice x.aL F.lms.length x.cL, .slice (some ⟨bP, oP, none⟩) F.prs.length x.cP, .slice x.aV F.vrs.length x.cV] 46 (0,0))) ∧ Hid (wr.heap[g]? = some (.cells #[.string pn, .int .i64 ps, .int .i64 (m : Int), .int .i64 (E : Int)] 53 (0,0))) ∧ Hid (Below w.heap.size w wr)) (fun _ i _ => E + 1 - (intOf i).toNat)
   case atStart => exact ⟨0, Nat.zero_le _, rfl, by rw [HW0.out], X4, G4, B4⟩
   case round =>
    obtain ⟨k, hk, rfl, rfl, HX, HG, HB⟩ := hrel
    obtain ⟨wx, rfl⟩ : ∃ W : World, W = wr := ⟨wr, rfl⟩
    have k3 : wx.cell? ⟨g, 3, none⟩ = some (.int .i64 (E : Int)) := c_e HG.out rfl
    obtain ⟨u, hu⟩ : ∃ u : Nat, m + k = u := ⟨_, rfl⟩
    have hE := HK.out
    have hsu := HSU.out k
    rw [hu] at hsu
    by_cases hlt : k < K
    ·have hd : decide ((u : Int) ≤ (E : Int)) = true := by simp; omega
     have hd' : decide (u ≤ E) = true := by simp; omega
     have huw : IntKind.i64.wrap ((u : Int) + 1) = (u : Int) + 1 := IntWalk.i64_in _ (by omega)
     have hul : u < F.sts.length := by omega
     have HLT := hidE hlt
     have HU := hidE hu
     rw [hu]
     cases ht : T k with
     | false =>
       have HT2 : Hid (T (k + 1) = false) := hidE (by rw [hsu, ht]; rfl)
       clear hsu hE hu
       go_wp2_with fail
       go_roundw
       case rel => exact ⟨k + 1, HLT.out, by rw [← HU.out]; go_num, by rw [HT2.out], HX, HG, HB⟩
       case measure => have := HLT.out; have := HU.out; have := HK.out; simp [intOf]; omega
     | true =>
       have hww := HWD.out wx HB.out u hul
       rw [ht, Bool.true_and] at hsu
       obtain ⟨v, hv⟩ : ∃ v, wa u = v := ⟨_, rfl⟩
       rw [hv] at hsu hww
       have HWW := hidE hww
       have HSV := hidE hsu
       have f0 : wx.cell? ⟨w.heap.size, 0, none⟩ = some (.slice x.aS F.sts.length x.cS) := c_e HX.out rfl
       have f1 : wx.cell? ⟨w.heap.size, 1, none⟩ = some (.slice x.aL F.lms.length x.cL) := c_e HX.out rfl
       have f2 : wx.cell? ⟨w.heap.size, 2, none⟩ = some (.slice (some ⟨bP, oP, none⟩) F.prs.length x.cP) := c_e HX.out rfl
       have f3 : wx.cell? ⟨w.heap.size, 3, none⟩ = some (.slice x.aV F.vrs.length x.cV) := c_e HX.out rfl
       clear hsu hE hu hv hww
       go_wp2_with fail
       refine HWW.out.mono ?_
       rintro e w5 ⟨rfl, hb5⟩
       have B5 := hidE (HB.out.trans (hb5.mono HB.out.size))
       have X5 := hidE (blk_below hb5 (lt_of_block HX.out) HX.out)
       have G5 := hidE (blk_below hb5 (lt_of_block HG.out) HG.out)
       clear hb5 f0 f1 f2 f3
       go_wp2_with fail
       refine (within5_any _ _ _ _).mono ?_
       rintro e w6 ⟨rfl, rfl⟩
       rw [← HSV.out]
       go_wp2_with fail
       go_roundw
       case rel => exact ⟨k + 1, HLT.out, by rw [← HU.out]; go_num, rfl, X5, G5, B5⟩
       case measure => have := HLT.out; have := HU.out; have := HK.out; simp [intOf]; omega
    ·obtain rfl : k = K := by omega
     have hd : decide ((u : Int) ≤ (E : Int)) = false := by simp; omega
     have hd' : decide (u ≤ E) = false := by simp; omega
     rw [hu]
     clear hsu hE hu
     cases ht : T k with
     | false =>
       obtain rfl : P = 1 := HPF.out ht
       go_wp2_with fail
       go_ret
       exact ⟨rfl, HB.out⟩
     | true =>
       obtain rfl : P = 0 := HP.out ht
       go_wp2_with fail
       go_ret
       exact ⟨rfl, HB.out⟩
end Go.Proofs.YthjmkmjojlfejaaGreat
namespace Go.Proofs.YthjmkmjojlfejaaGreat
theorem GrOk.part_from {G : List Gs} (h : GrOk G) : (partP G (fromP G)).1 = 0 := by
 have he := h.ends
 obtain ⟨k, hk, g1, g2, g3, g4⟩ := h.strip (x := fromP G) (Int.le_refl _) (by omega)
 have hk0 : k = 0 := by
  rcases Nat.eq_zero_or_pos k with c | c
  ·exact c
  ·have := g3 0 c
   have a := (h.each _ (List.getElem_mem h.ne)).1
   have := h.fromAt
   omega
 subst hk0
 rw [g4, show fromP G = G[0].a from h.fromAt]
 unfold partAt areaTo
 simp [isum]
theorem GrOk.part_to {G : List Gs} (h : GrOk G) : (partP G (toP G)).1 = wholeP G * (partP G (toP G)).2 := by
 have he := h.ends
 obtain ⟨k, hk, g1, g2, g3, g4⟩ := h.strip (x := toP G) (by omega) (Int.le_refl _)
 have hb : toP G = G[k].b := by
  have hge : G[k].b ≤ toP G := by
   have key : ∀ j, (hj : j < G.length) → k ≤ j → G[k].b ≤ G[j].b := by
    intro j
    induction j with
    | zero => intro hj hle; obtain rfl : k = 0 := by omega
              exact Int.le_refl _
    | succ j ih =>
      intro hj hle
      by_cases e : k = j + 1
      ·subst e; exact Int.le_refl _
      ·have := ih (by omega) (by omega)
       have := h.chain j hj
       have := (h.each _ (List.getElem_mem hj)).1
       omega
   have := key (G.length - 1) (by have := h.ne; omega) (by omega)
   rw [h.toAt]; exact this
  omega
 have hr := (h.each _ (List.getElem_mem hk)).1
 unfold wholeP
 rw [g4, hb, partAt_end, show (partAt (areaTo G k) G[k] G[k].b).2 = G[k].run from rfl, Int.mul_tdiv_cancel _ (by unfold Gs.run; omega)]
theorem lowest_pos {n : Int × Int} (h0 : 0 ≤ n.1) (h1 : 0 < n.2) : ∃ g : Int, 0 < g ∧ n.1 = (lowest n).1 * g ∧ n.2 = (lowest n).2 * g ∧ 0 ≤ (lowest n).1 ∧ 1 ≤ (lowest n).2 ∧ (lowest n).2 ≤ n.2 ∧ (lowest n).1 ≤ n.1 := by
 obtain ⟨p, q⟩ := n
 simp only at h0 h1
 obtain ⟨a, rfl⟩ := Int.eq_ofNat_of_zero_le h0
 obtain ⟨b, rfl⟩ := Int.eq_ofNat_of_zero_le (Int.le_of_lt h1)
 have hb : 0 < b := by omega
 have hg : 0 < Nat.gcd a b := Nat.gcd_pos_of_pos_right _ hb
 refine ⟨(Nat.gcd a b : Nat), by omega, ?_⟩
 unfold lowest
 simp only [Int.toNat_natCast]
 rw [← Int.ofNat_tdiv, ← Int.ofNat_tdiv]
 have e1 : a / Nat.gcd a b * Nat.gcd a b = a := Nat.div_mul_cancel (Nat.gcd_dvd_left a b)
 have e2 : b / Nat.gcd a b * Nat.gcd a b = b := Nat.div_mul_cancel (Nat.gcd_dvd_right a b)
 have e3 : 0 < b / Nat.gcd a b := Nat.div_pos (Nat.le_of_dvd hb (Nat.gcd_dvd_right a b)) hg
 have e4 := Nat.div_le_self b (Nat.gcd a b)
 have e5 := Nat.div_le_self a (Nat.gcd a b)
 obtain ⟨q, hq⟩ : ∃ q, a / Nat.gcd a b = q := ⟨_, rfl⟩
 obtain ⟨r, hr⟩ : ∃ q, b / Nat.gcd a b = q := ⟨_, rfl⟩
 obtain ⟨g, hgg⟩ : ∃ q, Nat.gcd a b = q := ⟨_, rfl⟩
 rw [hq, hgg] at e1
 rw [hr, hgg] at e2
 rw [hr] at e3 e4
 rw [hq] at e5
 rw [hq, hr, hgg]
 have e6 : (a : Int) = (q : Int) * (g : Int) := by rw [← Int.natCast_mul, e1]
 have e7 : (b : Int) = (r : Int) * (g : Int) := by rw [← Int.natCast_mul, e2]
 exact ⟨e6, e7, by omega, by omega, by omega, by omega⟩
theorem lowest_whole {a q : Int} (h0 : 0 ≤ a) (h : 0 < q) : lowest (a * q, q) = (a, 1) := by
 obtain ⟨b, rfl⟩ := Int.eq_ofNat_of_zero_le (Int.le_of_lt h)
 obtain ⟨c, rfl⟩ := Int.eq_ofNat_of_zero_le h0
 have hb : 0 < b := by omega
 unfold lowest
 have e : ((c : Int) * (b : Int)).toNat = c * b := by
  rw [← Int.natCast_mul, Int.toNat_natCast]
 simp only [Int.toNat_natCast, e, Nat.gcd_mul_left_left]
 rw [Int.tdiv_self (by omega), Int.mul_tdiv_cancel _ (by omega)]
theorem lowest_le {n : Int × Int} (h0 : 0 ≤ n.1) (h1 : 0 < n.2) (m : Int) : (lowest n).1 ≤ m * (lowest n).2 ↔ n.1 ≤ m * n.2 := by
 obtain ⟨g, hg, e1, e2, _⟩ := lowest_pos h0 h1
 constructor
 ·intro h
  have := Int.mul_le_mul_of_nonneg_right h (Int.le_of_lt hg)
  rw [e1, e2]
  grind
 ·intro h
  rw [e1, e2] at h
  refine Int.le_of_mul_le_mul_right (a := g) ?_ hg
  grind
theorem sumN_ind (g : Nat → Int) (p : Nat) : ∀ n, sumN (fun i => if p = i then g i else 0) n = if p < n then g p else 0
 | 0 => by simp [sumN]
 | n + 1 => by
   simp only [sumN]
   rw [sumN_ind g p n]
   by_cases e : p = n
   ·subst e; simp
   ·rw [if_neg e]
    by_cases h : p < n
    ·rw [if_pos h, if_pos (by omega)]; omega
    ·rw [if_neg h, if_neg (by omega)]; rfl
theorem form_addAt {l : List Int} (y : List Int) {p : Nat} (d : Int) (hp : p < l.length) : formP (addAt l p d) y = formP l y + d * y.getD p 0 := by
 unfold formP
 rw [addAt_len]
 have e : ∀ i, i < l.length → (addAt l p d).getD i 0 * y.getD i 0 = l.getD i 0 * y.getD i 0 + (if p = i then d * y.getD i 0 else 0) := by
  intro i hi
  rw [addAt_get]
  by_cases h : p = i
  ·rw [if_pos ⟨h, hp⟩, if_pos h, Int.add_mul]
  ·rw [if_neg (fun q => h q.1), if_neg h]; simp
 rw [sumN_congr e, sumN_add, sumN_ind (fun i => d * y.getD i 0) p, if_pos hp]
theorem form_wStep {l y : List Int} {s : Str} (h1 : s.so.toNat < l.length) (h2 : s.no.toNat < l.length) (h3 : s.fso.toNat < l.length) (h4 : s.fno.toNat < l.length) :
 formP (wStep l s) y = formP l y + (gsOf y s).area := by
 unfold wStep
 rw [form_addAt _ _ (by simp only [addAt_len]; exact h4), form_addAt _ _ (by simp only [addAt_len]; exact h2), form_addAt _ _ (by simp only [addAt_len]; exact h3), form_addAt _ _ h1]
 show _ = _ + (s.east - s.west) * ((y.getD s.no.toNat 0 - y.getD s.so.toNat 0) + (y.getD s.fno.toNat 0 - y.getD s.fso.toNat 0))
 show _ + -(s.east - s.west) * _ + -(s.east - s.west) * _ + (s.east - s.west) * _ + (s.east - s.west) * _ = _
 grind
theorem form_zeros (n : Nat) (y : List Int) : formP (List.replicate n 0) y = 0 := by
 unfold formP
 refine sumN_zero fun i hi => ?_
 have : (List.replicate n (0 : Int)).getD i 0 = 0 := by
  simp only [List.getD_eq_getElem?_getD, List.getElem?_replicate]
  split <;> rfl
 rw [this]; simp
theorem form_strips {y : List Int} {N : Nat} : ∀ (ss : List Str) (l : List Int), l.length = N → (∀ s ∈ ss, s.so.toNat < N ∧ s.no.toNat < N ∧ s.fso.toNat < N ∧ s.fno.toNat < N) → formP (ss.foldl wStep l) y = formP l y + isum ((ss.map (gsOf y)).map Gs.area)
 | [], l, _, _ => by simp [isum]
 | s :: ss, l, hl, h => by
   obtain ⟨h1, h2, h3, h4⟩ := h s (List.mem_cons_self ..)
   rw [List.foldl_cons, form_strips ss _ (by rw [wStep_len]; exact hl) (fun t ht => h t (List.mem_cons_of_mem _ ht)), form_wStep (by omega) (by omega) (by omega) (by omega)]
   simp only [List.map_cons, isum]
   omega
theorem strip_lt {F : Fld} {p : Par} (hp : p.inside F) : ∀ s ∈ stripsP F p, s.so.toNat < F.points.toNat ∧ s.no.toNat < F.points.toNat ∧ s.fso.toNat < F.points.toNat ∧ s.fno.toNat < F.points.toNat := by
 intro s hs
 obtain ⟨k, hk, rfl⟩ := List.getElem_of_mem hs
 rw [stripsP_get F p hk]
 have hk2 : k < (p.est - p.wst).toNat := by rw [stripsP, stripsTo_len] at hk; exact hk
 obtain ⟨_, _, q3, q4, q5⟩ := id hp
 obtain ⟨a, b, c, d⟩ := strip_pts hp (s := p.wst.toNat + k) (by omega)
 omega
theorem form_area (F : Fld) (y : List Int) {p : Par} (hp : p.inside F) : formP (weightsOf F p) y = areaTo (grP F y p) (grP F y p).length := by
 unfold weightsOf
 rw [form_strips _ _ (List.length_replicate ..) (strip_lt hp), form_zeros]
 unfold areaTo grP
 rw [List.take_length]
 omega
theorem whole_bd {G : List Gs} (h : GrOk G) : 0 ≤ wholeP G ∧ wholeP G ≤ 2400000000000 := by
 have := areaTo_bd h.each G.length (Nat.le_refl _)
 have hs := h.short
 rw [h.whole]
 omega
theorem ends_X {F : Fld} {y : List Int} {p : Par} (hp : p.inside F) : fromP (grP F y p) = stX F p.wst.toNat ∧ toP (grP F y p) = stX F p.est.toNat := by
 obtain ⟨_, _, q3, q4, q5⟩ := hp
 have hl := grP_len F y p
 constructor
 ·unfold fromP
  rw [List.getD_eq_getElem?_getD, List.getElem?_eq_getElem (by omega), Option.getD_some, grP_get F y p (by omega)]
  rfl
 ·unfold toP
  rw [List.getD_eq_getElem?_getD, List.getElem?_eq_getElem (by omega), Option.getD_some, grP_get F y p (by omega)]
  show stX F (p.wst.toNat + ((grP F y p).length - 1) + 1) = _
  congr 1
  omega
theorem low_bd {G : List Gs} (h : GrOk G) {x : Int} (h0 : fromP G ≤ x) (h1 : x ≤ toP G) : (0 ≤ (lowest (partP G x)).1 ∧ (lowest (partP G x)).1 ≤ 400000000000000000) ∧ 1 ≤ (lowest (partP G x)).2 ∧ (lowest (partP G x)).2 ≤ 100000 := by
 obtain ⟨p1, p2, p3, p4⟩ := h.part_bd h0 h1
 obtain ⟨g, hg, e1, e2, e3, e4, e5, e6⟩ := lowest_pos p1 (show 0 < (partP G x).2 by omega)
 omega
theorem ref_west_in {G : List Gs} (h : GrOk G) {x : Int} (h0 : fromP G ≤ x) (h1 : x ≤ toP G) {k : Nat} (hk : k < G.length) (hb : ∀ i (hi : i < k), G[i].b ≤ x) (hx : x < G[k].b) :
 G[k].a ≤ x ∧ lowest (partP G x) = lowest (partAt (areaTo G k) G[k] x) := by
 obtain ⟨j, hj, a1, a2, a3, a4⟩ := h.strip h0 h1
 rcases Nat.lt_trichotomy j k with q | q | q
 ·have hjx := hb j q
  have hc := h.chain j (by omega)
  have hk1 : k = j + 1 := by
   by_cases e : k = j + 1
   ·exact e
   ·exfalso
    have h3 := hb (j + 1) (by omega)
    have h4 := (h.each _ (List.getElem_mem (show j + 1 < G.length by omega))).1
    omega
  subst hk1
  have e1 : x = G[j].b := by omega
  have e2 : x = G[j + 1].a := by omega
  have hj1 := (h.each _ (List.getElem_mem hj)).1
  have hk2 := (h.each _ (List.getElem_mem hk)).1
  have hab := areaTo_bd h.each j (by omega)
  have har := gs_area_bd (h.each _ (List.getElem_mem hj))
  refine ⟨by omega, ?_⟩
  have p1 : partAt (areaTo G j) G[j] x = (areaTo G (j + 1) * G[j].run, G[j].run) := by
   rw [e1, areaTo_succ (by omega)]
   exact Prod.ext (partAt_end _ _) rfl
  have p2 : partAt (areaTo G (j + 1)) G[j + 1] x = (areaTo G (j + 1) * G[j + 1].run, G[j + 1].run) := by
   rw [e2]
   unfold partAt
   simp
  rw [a4, p1, p2, lowest_whole (by rw [areaTo_succ (by omega)]; omega) (by unfold Gs.run; omega), lowest_whole (by rw [areaTo_succ (by omega)]; omega) (by unfold Gs.run; omega)]
 ·subst q
  exact ⟨a1, by rw [a4]⟩
 ·have := a3 k q
  omega
theorem ref_west_end {G : List Gs} (h : GrOk G) {x : Int} (h1 : x ≤ toP G) (hb : ∀ i (hi : i < G.length), G[i].b ≤ x) : lowest (partP G x) = (areaTo G G.length, 1) := by
 have hn := h.ne
 have e : x = toP G := by
  have := hb (G.length - 1) (by omega)
  rw [← h.toAt] at this
  omega
 have hen := h.ends
 have hbd := h.part_bd (x := toP G) (by omega) (Int.le_refl _)
 have hw := areaTo_bd h.each G.length (Nat.le_refl _)
 have e2 : partP G (toP G) = (areaTo G G.length * (partP G (toP G)).2, (partP G (toP G)).2) := Prod.ext (by rw [← h.whole]; exact h.part_to) rfl
 rw [e, e2, lowest_whole hw.1 (by omega)]
theorem part_num (s : Int) (t : Gs) (x : Int) : s * t.run + (x - t.a) * (2 * t.w * t.run + (t.e - t.w) * (x - t.a)) = (partAt s t x).1 := by
 unfold partAt
 simp only
 grind
end Go.Proofs.YthjmkmjojlfejaaGreat
namespace Go.Proofs.YthjmkmjojlfejaaGreat
open Go Go.RowKit Go.Shelf
theorem sA {α : Type} (l : List α) (i : Nat) (a : α) : l.toArray.setIfInBounds i a = (l.set i a).toArray := List.setIfInBounds_toArray ..
theorem sB {α : Type} (x : α) (l : List α) (n : Nat) (a : α) : (x :: l).set (n + 1) a = x :: l.set n a := List.set_cons_succ ..
theorem sC {α : Type} (x : α) (l : List α) (a : α) : (x :: l).set 0 a = a :: l := List.set_cons_zero ..
def tkB (md : Region.Mode) (ops : Array Oper) (listed : Array Bool) (i d : Nat) : Bool :=
 Region.noSelect ops && Region.free md ops listed i && (Region.ready md ops listed).contains i && (match ops[i]? with | some o => o.dst == some d | none => false)
theorem tkB_spec {md : Region.Mode} {ops : Array Oper} {listed : Array Bool} {i d : Nat} {oi : Oper} (hi : ops[i]? = some oi) (h : tkB md ops listed i d = true) :
 oi.dst = some d ∧ Region.noSelect ops = true ∧ Region.free md ops listed i = true ∧ (Region.ready md ops listed).contains i = true := by
 unfold tkB at h
 rw [hi] at h
 simp only [Bool.and_eq_true, beq_iff_eq] at h
 exact ⟨h.2, h.1.1.1, h.1.1.2, h.1.2⟩
section
variable {P : Program} {ops : Array Oper} {Q : Exit → Act → World → Prop} {md : Region.Mode} {S2 S : World → Prop} {T : Nat → Bool} {last : Nat} {oi : Oper} {fuel : Nat} {listed : Array Bool} {a : Act} {w : World}
theorem tG (i d : Nat) (v : Value) (hi : ops[i]? = some oi) (hB : (!T i && tkB md ops listed i d) = true)
 (hw : Region.wanted oi (yielded ops a.tmps) = true) (hQ : ∀ c a w, Q (.panic c) (a.put oi.dst v) w → Q (.panic c) a w) (hy : ∀ V : World, True → (execOp a.eval oi).run P V = .ok (.value v) V) (hC : Cn S T listed w)
 (h : wpAnyG P md ops Q S T fuel (listed.setIfInBounds i true) { a with tmps := a.tmps.setIfInBounds d v } w) : wpAnyG P md ops Q S T (fuel + 1) listed a w := by
 simp only [Bool.and_eq_true, Bool.not_eq_true'] at hB
 obtain ⟨h1, h2, h3, h4⟩ := tkB_spec hi hB.2
 exact wpAnyG_pure hi h1 hB.1 h2 h3 h4 hQ (.inl ⟨hw, hy⟩) hC h
end
theorem ce {w : World} {b i : Nat} {cs : Array Value} {t : TypeId} {v : Value} (h : w.heap[b]? = some (.cells cs t (0,0))) (hv : cs[i]? = some v) : w.cell? ⟨b, i, none⟩ = some v := by
 rw [cell_of_row _ _ _ _ _ _ h]; exact hv
theorem fld4 {w : World} {b : Nat} {c0 c1 c2 c3 : Value} {t : TypeId} (h : w.heap[b]? = some (.cells #[c0, c1, c2, c3] t (0,0))) :
 w.cell? ⟨b, 0, none⟩ = some c0 ∧ w.cell? ⟨b, 1, none⟩ = some c1 ∧ w.cell? ⟨b, 2, none⟩ = some c2 ∧ w.cell? ⟨b, 3, none⟩ = some c3 :=
 ⟨ce h rfl, ce h rfl, ce h rfl, ce h rfl⟩
def Kb : List (Nat × Obj) → World → Prop
 | [], _ => True
 | (b, o) :: L, W => W.heap[b]? = some o ∧ Kb L W
theorem Kb.next {W W' : World} (hb : Below W.heap.size W W') : ∀ {L : List (Nat × Obj)}, Kb L W → Kb L W'
 | [], _ => trivial
 | (_, _) :: _, h => ⟨blk_below hb (lt_of_block h.1) h.1, Kb.next hb h.2⟩
theorem Kb.alloc {W : World} {o : Obj} {L : List (Nat × Obj)} (h : Kb L W) : Kb ((W.heap.size, o) :: L) (W.alloc o) :=
 ⟨heap_alloc_new _ _, Kb.next ((Below.refl _ _).alloc (Nat.le_refl _) _) h⟩
theorem Kb.drewN {W : World} {n : Nat} {L : List (Nat × Obj)} (h : Kb L W) : Kb L (W.drewN n) := Kb.next (below_drewN' _ _) h
structure FJ (w : World) (x : FV) (F : Fld) (a : Option Addr) (y : List Int) (W : World) : Prop where
 b : Below w.heap.size w W
 blk : W.heap[w.heap.size]? = some (.cells (x.arr F) 46 (0,0))
 fld : FldAt W x F
 ints : IntsAt W a y
theorem FJ.next {w W W' : World} {x : FV} {F : Fld} {a : Option Addr} {y : List Int} (h : FJ w x F a y W) (hb : Below W.heap.size W W') : FJ w x F a y W' :=
 ⟨h.b.trans (hb.mono h.b.size), blk_below hb (lt_of_block h.blk) h.blk, h.fld.below hb, h.ints.below hb (Nat.le_refl _)⟩
theorem FJ.begin {w : World} {x : FV} {F : Fld} {a : Option Addr} {y : List Int} (h : FldAt w x F) (h2 : IntsAt w a y) : FJ w x F a y (w.alloc (.cells (x.arr F) 46)) :=
 ⟨(Below.refl _ _).alloc (Nat.le_refl _) _, heap_alloc_new _ _, h.alloc _, h2.alloc _⟩
theorem FJ.drewN {w W : World} {n : Nat} {x : FV} {F : Fld} {a : Option Addr} {y : List Int} (h : FJ w x F a y W) : FJ w x F a y (W.drewN n) := h.next (below_drewN' _ _)
theorem FJ.drew {w W : World} {x : FV} {F : Fld} {a : Option Addr} {y : List Int} (h : FJ w x F a y W) : FJ w x F a y W.drew := h.next (Below.refl _ W).drew
theorem FJ.alloc {w W : World} {x : FV} {F : Fld} {a : Option Addr} {y : List Int} (h : FJ w x F a y W) (o : Obj) : FJ w x F a y (W.alloc o) := h.next ((Below.refl _ _).alloc (Nat.le_refl _) _)
theorem FJ.c {w W : World} {x : FV} {F : Fld} {a : Option Addr} {y : List Int} (h : FJ w x F a y W) :
 W.cell? ⟨w.heap.size, 0, none⟩ = some (.slice x.aS F.sts.length x.cS) ∧ W.cell? ⟨w.heap.size, 1, none⟩ = some (.slice x.aL F.lms.length x.cL) ∧ W.cell? ⟨w.heap.size, 2, none⟩ = some (.slice x.aP F.prs.length x.cP) ∧ W.cell? ⟨w.heap.size, 3, none⟩ = some (.slice x.aV F.vrs.length x.cV) := fld4 h.blk
theorem results_cell_row1 {P : Program} {fn : Func} {p : Tmp} {ty : TypeId} (h : fn.results = #[.cell p ty]) (tmps : Array Value) (w : World) (g : Nat) (t : TypeId) (cs : Array Value) (fr : Nat × Nat) (d : TypeDesc)
 (hp : tmps.getD p undef = .pointer (some ⟨g, 0, none⟩)) (hg : w.heap[g]? = some (.cells cs t fr))
 (hu : P.underlying ty = some d) (hd : (match d with | .struct _ | .array _ _ => true | _ => false) = true) (hi : (P.info? ty).map (·.size) = some cs.size) :
 (results fn tmps).run P w = .ok (.agg cs) w := by
 have hp' : tmps[p]?.getD undef = .pointer (some ⟨g, 0, none⟩) := by simpa using hp
 simp [results, h, hp', asAddr, run_loadVar_row w g t ty cs fr d hg hu hd hi]
theorem gr_at {F : Fld} {y : List Int} {p : Par} (_hz : F.check = 0) (hin : p.inside F) {k : Nat} (hk : k < (grP F y p).length) :
 ∃ u0 u1, p.wst.toNat + k + 1 < F.sts.length ∧ stX F (p.wst.toNat + k) = u0 ∧ stX F (p.wst.toNat + k + 1) = u1 ∧ (grP F y p)[k] = ⟨u0, u1, widthAt F y p (p.wst.toNat + k), widthAt F y p (p.wst.toNat + k + 1)⟩ := by
 obtain ⟨h1, h2, h3, h4, h5⟩ := hin
 have hk2 : k < (p.est - p.wst).toNat := by rw [grP_len] at hk; exact hk
 exact ⟨_, _, by omega, rfl, rfl, by rw [grP_get F y p hk]; rfl⟩
set_option maxRecDepth 100000 in
set_option maxHeartbeats 8000000 in
theorem rwest_any (w : World) (x : FV) (F : Fld) (i : Nat) (X : Int) (a2 : Option Addr) (cap2 : Nat) (y : List Int) (hz : uprightE F y i = 0) (hX : fromP (grP F y (F.par i)) ≤ X ∧ X ≤ toP (grP F y (F.par i))) (h : FldAt w x F) (h2 : IntsAt w a2 y) :
 Calls Tryz.prog 116 #[x.val F, .slice a2 y.length cap2, .int .i64 (i : Int), .int .i64 X] w fun e w' => e = .returned (.agg #[.int .i64 (lowest (partP (grP F y (F.par i)) X)).1, .int .i64 (lowest (partP (grP F y (F.par i)) X)).2]) ∧ Below w.heap.size w w' := by
 obtain ⟨hf, hv, hgr, hin, hc⟩ := upright_ok hz
 obtain ⟨_, n, hni, hn, hpar⟩ := fielded_one hf
 obtain rfl : n = i := by omega
 have hlen := check0_len hc
 have HWD := hidE (fun (W : World) (J : FJ w x F a2 y W) (s : Nat) (hs : s < F.sts.length) => rwidth_any W x F a2 cap2 y n s hc hn hs hv J.fld J.ints)
 have HAT := hidE (fun (k : Nat) (hk : k < (grP F y (F.par n)).length) => gr_at (y := y) hc (p := F.par n) hin hk)
 have HGL := grP_len F y (F.par n)
 rw [hpar] at HAT HGL hgr hin hX ⊢
 obtain ⟨bP, oP, haP, hbP, hcP⟩ := RecsAt.at h.pr hn
 obtain ⟨p, hp⟩ : ∃ p, F.prs[n] = p := ⟨_, rfl⟩
 rw [hp] at HAT HGL hgr hin hX hcP ⊢
 rw [hp] at HWD
 obtain ⟨G, hG⟩ : ∃ G, grP F y p = G := ⟨_, rfl⟩
 obtain ⟨m, hm⟩ : ∃ m : Nat, p.wst = m := ⟨p.wst.toNat, by obtain ⟨_, _, _, _, _⟩ := hin; omega⟩
 obtain ⟨E, hE⟩ : ∃ E : Nat, p.est = E := ⟨p.est.toNat, by obtain ⟨_, _, _, _, _⟩ := hin; omega⟩
 obtain ⟨K, hK⟩ : ∃ K : Nat, E = m + K := ⟨E - m, by obtain ⟨_, _, _, _, _⟩ := hin; omega⟩
 have hmt : p.wst.toNat = m := by omega
 have hKl : G.length = K := by rw [← hG, HGL]; omega
 have hs12 : F.sts.length ≤ 12 := hlen.1.2
 have hsl : m + K < F.sts.length := by obtain ⟨_, _, _, _, _⟩ := hin; omega
 obtain ⟨wa, hwa⟩ : ∃ t, widthAt F y p = t := ⟨_, rfl⟩
 rw [hG] at hgr hX HAT ⊢
 rw [hwa] at HWD HAT
 rw [hmt] at HAT
 obtain ⟨N1, hN1⟩ : ∃ t, (lowest (partP G X)).1 = t := ⟨_, rfl⟩
 obtain ⟨N2, hN2⟩ : ∃ t, (lowest (partP G X)).2 = t := ⟨_, rfl⟩
 rw [hN1, hN2]
 have HIN := hidE (fun (k : Nat) (hk : k < G.length) (hb : ∀ i (hi : i < k), G[i].b ≤ X) (hx : X < G[k].b) => show G[k].a ≤ X ∧ lowest (partAt (areaTo G k) G[k] X) = (N1, N2) from by
  obtain ⟨q1, q2⟩ := ref_west_in hgr hX.1 hX.2 hk hb hx
  exact ⟨q1, by rw [← q2]; exact Prod.ext hN1 hN2⟩)
 have HEND := hidE (fun (hb : ∀ i (hi : i < G.length), G[i].b ≤ X) => show (areaTo G G.length, 1) = (N1, N2) from by
  rw [← ref_west_end hgr hX.2 hb]; exact Prod.ext hN1 hN2)
 have HAB := hidE (fun k hk => areaTo_bd hgr.each k hk)
 have HSU := hidE (fun (k : Nat) (hk : k < G.length) => areaTo_succ hk)
 have HOK := hidE (fun (k : Nat) (hk : k < G.length) => hgr.each _ (List.getElem_mem hk))
 have hG12 := hgr.short
 have hXb : 0 ≤ X ∧ X ≤ 100000 := by have := hgr.ends; omega
 obtain ⟨pn, ps, pw, pe⟩ := p
 dsimp only at hm hE
 subst hm hE
 obtain ⟨aS, cS, aL, cL, aP, cP, aV, cV⟩ := x
 dsimp only at haP
 subst haP
 have c0 := hcP 0 (by omega)
 have c1 := hcP 1 (by omega)
 have c2 := hcP 2 (by omega)
 have c3 := hcP 3 (by omega)
 simp only [Par.cells, List.getElem?_cons_zero, List.getElem?_cons_succ, Nat.add_zero] at c0 c1 c2 c3
 have HK := hidE hK
 have HKL := hidE hKl
 have HH := hidE (FJ.begin h h2)
 clear hz hX h h2 hf hv hgr hin hc hni hpar hcP hp hG hK hmt hKl hN1 hN2 hlen HGL hwa
 obtain ⟨w0, hw0⟩ : ∃ W, W = ((w.alloc (.cells #[.slice aS F.sts.length cS, .slice aL F.lms.length cL, .slice (some ⟨bP, oP, none⟩) F.prs.length cP, .slice aV F.vrs.length cV] 46)).alloc (.cells #[.int .i64 0, .int .i64 0] 49)).alloc (.cells #[.string pn, .int .i64 ps, .int .i64 (m : Int), .int .i64 (E : Int)] 53) := ⟨_, rfl⟩
 have J0 := hidE (show FJ w _ F a2 y w0 by rw [hw0]; exact (HH.out.alloc _).alloc _)
 have Q0 := hidE (show Kb [(w.heap.size + 2, .cells #[.string pn, .int .i64 ps, .int .i64 (m : Int), .int .i64 (E : Int)] 53), (w.heap.size + 1, .cells #[.int .i64 0, .int .i64 0] 49)] w0 by
  have := (Kb.alloc (o := .cells #[.string pn, .int .i64 ps, .int .i64 (m : Int), .int .i64 (E : Int)] 53) (Kb.alloc (o := .cells #[.int .i64 0, .int .i64 0] 49) (L := []) (W := w.alloc (.cells #[.slice aS F.sts.length cS, .slice aL F.lms.length cL, .slice (some ⟨bP, oP, none⟩) F.prs.length cP, .slice aV F.vrs.length cV] 46)) trivial))
  rw [hw0]; simpa using this)
 unfold FV.val FV.arr at *
 dsimp only at *
 go_enter Tryz.func116, Tryz.ntmps116
 go_upto_region 2 with fail
 rw [← hw0]
 clear hw0 c0 c1 c2 c3
 have k2 := ce (i := 2) Q0.out.1 rfl
 go_wp2_with fail
 clear k2
 go_loopw [10, 11] (fun v i wr => ∃ k : Nat, k ≤ K ∧ v = .int .i64 (areaTo G k) ∧ i = .int .i64 ((m + k : Nat) : Int) ∧ Hid (∀ j (_ : j < k) (hj2 : j < G.length), G[j].b ≤ X) ∧ Hid (FJ w ⟨aS, cS, aL, cL, some ⟨bP, oP, none⟩, cP, aV, cV⟩ F a2 y wr) ∧ Hid (Kb [(w.heap.size + 2, .cells #[.string pn, .int .i64 ps, .int .i64 (m : Int), .int .i64 (E : Int)] 53), (w.heap.size + 1, .cells #[.int .i64 0, .int .i64 0] 49)] wr)) (fun _ i _ => E - (intOf i).toNat)
 case atStart => exact ⟨0, Nat.zero_le _, by simp [areaTo, isum], rfl, hidE (fun j hj => absurd hj (Nat.not_lt_zero _)), J0, Q0⟩
 case round =>
  obtain ⟨k, hk, rfl, rfl, HB, HJ, HQ⟩ := hrel
  obtain ⟨wx, rfl⟩ : ∃ W : World, W = wr := ⟨wr, rfl⟩
  have k3 := ce (i := 3) HQ.out.1 rfl
  obtain ⟨u, hu⟩ : ∃ u : Nat, m + k = u := ⟨_, rfl⟩
  have hE := HK.out
  have hKL := HKL.out
  by_cases hlt : k < K
  ·have d1 : decide ((u : Int) < (E : Int)) = true := by simp; omega
   have d1' : decide (u < E) = true := by simp; omega
   have hkl : k < G.length := by omega
   obtain ⟨u0, u1, hu1, e0, e1, eg⟩ := HAT.out k hkl
   have tok := HOK.out k hkl
   have hsu := HSU.out k hkl
   have hin := HIN.out k hkl (fun i hi => HB.out i hi (by omega))
   have hab := HAB.out k (Nat.le_of_lt hkl)
   have HEG := hidE (show ∀ (hk : k < G.length), (G[k]'hk).b = u1 from fun _ => by rw [eg])
   rw [eg] at tok hsu hin
   rw [hu] at e0 e1 hu1 tok hsu hin ⊢
   obtain ⟨s1, hs1⟩ : ∃ s1 : Nat, u + 1 = s1 := ⟨_, rfl⟩
   rw [hs1] at e1 hu1 tok hsu hin
   have hs1i : (u : Int) + 1 = (s1 : Int) := by omega
   have hs1w : IntKind.i64.wrap (s1 : Int) = (s1 : Int) := IntWalk.i64_in _ (by omega)
   have hul : u < F.sts.length := by omega
   obtain ⟨bS, oS, haS, _, hcS⟩ := RecsAt.at HJ.out.fld.st hul
   obtain ⟨bS', oS', haS', hbS, hcS'⟩ := RecsAt.at HJ.out.fld.st hu1
   dsimp only at haS haS'
   subst haS
   cases haS'
   have x0 := hcS 1 (by omega)
   have x1 := hcS' 1 (by omega)
   simp only [Sta.cells, List.getElem?_cons_zero, List.getElem?_cons_succ] at x0 x1
   rw [← stX_get hul, e0] at x0
   rw [← stX_get hu1, e1] at x1
   obtain ⟨v0, hv0⟩ : ∃ v, wa u = v := ⟨_, rfl⟩
   obtain ⟨v1, hv1⟩ : ∃ v, wa s1 = v := ⟨_, rfl⟩
   have HW0 := hidE (fun W J => HWD.out W J u hul)
   have HW1 := hidE (fun W J => HWD.out W J s1 hu1)
   rw [hv0] at HW0 hin hsu tok
   rw [hv1] at HW1 hin hsu tok
   obtain ⟨⟨t1, t2, t3⟩, ⟨t4, t5⟩, t6, t7⟩ := tok
   dsimp only at t1 t2 t3 t4 t5 t6 t7
   obtain ⟨r, hr⟩ : ∃ r, u1 - u0 = r := ⟨_, rfl⟩
   have hrw : IntKind.i64.wrap r = r := IntWalk.i64_in _ (by omega)
   obtain ⟨sm, hsm⟩ : ∃ z, areaTo G k = z := ⟨_, rfl⟩
   rw [hsm] at hsu hin hab ⊢
   obtain ⟨f0, f1, f2, f3⟩ := HJ.out.c
   dsimp only at f0 f1 f2 f3
   have X0 := hidE x0
   have X1 := hidE x1
   have HU := hidE hu
   have HS1 := hidE hs1
   have HLT := hidE hlt
   have HIN2 := hidE hin
   have HS2 := hidE hsu
   have HAB2 := hidE (show 0 ≤ sm ∧ sm ≤ 2400000000000 by omega)
   have HR := hidE hr
   have HT := hidE (show (0 ≤ u0 ∧ u0 < u1 ∧ u1 ≤ 100000) ∧ (0 ≤ v0 ∧ v0 ≤ 1000000) ∧ (0 ≤ v1 ∧ v1 ≤ 1000000) from ⟨⟨t1, t2, t3⟩, ⟨t4, t5⟩, t6, t7⟩)
   clear hcS hcS' hin hsu hu hs1 e0 e1 eg hv0 hv1 hsm hab hE hKL t1 t2 t3 t4 t5 t6 t7
   go_wp2_with fail
   go_quiet (fail)
   obtain ⟨Y, hY⟩ : ∃ Y, Y = wx.drewN nq := ⟨_, rfl⟩
   rw [← hY]
   have J1 := hidE (show FJ w _ F a2 y Y by rw [hY]; exact HJ.out.drewN)
   have Q1 := hidE (show Kb _ Y by rw [hY]; exact HQ.out.drewN)
   have hBY : Below wx.heap.size wx Y := by rw [hY]; exact below_drewN' _ _
   have Y0 := hidE ((hBY.cell (p := ⟨bS, oS + u * 2 + 1, none⟩) hbS).trans X0.out)
   have Y1 := hidE ((hBY.cell (p := ⟨bS, oS + s1 * 2 + 1, none⟩) hbS).trans X1.out)
   have HbS := hidE (Nat.lt_of_lt_of_le hbS hBY.size)
   clear hY hBY x0 x1 f0 f1 f2 f3 HJ HQ X0 X1 hbS k3 d1 d1'
   obtain ⟨f0, f1, f2, f3⟩ := J1.out.c
   dsimp only at f0 f1 f2 f3
   go_wp2_with fail
   refine (HW0.out _ J1.out).mono ?_
   rintro e w3 ⟨rfl, hb⟩
   have J3 := hidE (J1.out.next hb)
   have Q3 := hidE (Q1.out.next hb)
   have Z0 := hidE ((hb.cell (p := ⟨bS, oS + u * 2 + 1, none⟩) HbS.out).trans Y0.out)
   have Z1 := hidE ((hb.cell (p := ⟨bS, oS + s1 * 2 + 1, none⟩) HbS.out).trans Y1.out)
   have HbS3 := hidE (Nat.lt_of_lt_of_le HbS.out hb.size)
   clear hb f0 f1 f2 f3 J1 Q1 Y0 Y1 HbS HW0
   obtain ⟨f0, f1, f2, f3⟩ := J3.out.c
   dsimp only at f0 f1 f2 f3
   go_wp2_with fail
   refine (HW1.out _ J3.out).mono ?_
   rintro e w4 ⟨rfl, hb⟩
   have J4 := hidE (J3.out.next hb)
   have Q4 := hidE (Q3.out.next hb)
   have x0 := (hb.cell (p := ⟨bS, oS + u * 2 + 1, none⟩) HbS3.out).trans Z0.out
   have x1 := (hb.cell (p := ⟨bS, oS + s1 * 2 + 1, none⟩) HbS3.out).trans Z1.out
   clear hb f0 f1 f2 f3 J3 Q3 Z0 Z1 HbS3 HW1
   have f0 := J4.out.c.1
   dsimp only at f0
   have ⟨⟨t1, t2, t3⟩, ⟨t4, t5⟩, t6, t7⟩ := HT.out
   have ⟨a1, a2'⟩ := HAB2.out
   have hr0 := HR.out
   by_cases hx : u1 ≤ X
   ·have d9 : decide (u1 ≤ X) = true := by simpa using hx
    have e1 : IntKind.i64.wrap (v0 + v1) = v0 + v1 := IntWalk.i64_in _ (by omega)
    have hs := HS2.out
    simp only [Gs.area, Gs.run] at hs
    rw [hr0] at hs
    have mb := mul_bd (a := r) (b := v0 + v1) (A := 100000) (B := 2000000) (by omega) (by omega) (by omega) (by omega)
    obtain ⟨pr, hpr⟩ : ∃ z, r * (v0 + v1) = z := ⟨_, rfl⟩
    rw [hpr] at hs mb
    have e2 : IntKind.i64.wrap pr = pr := IntWalk.i64_in _ (by omega)
    have e3 : IntKind.i64.wrap (sm + pr) = sm + pr := IntWalk.i64_in _ (by omega)
    have HS3 := hidE hs
    have HX := hidE hx
    clear hs mb hx t1 t2 t3 t4 t5 t6 t7 a1 a2' hr0
    go_wp2_with fail
    go_roundw
    case rel =>
     refine ⟨k + 1, HLT.out, by rw [HS3.out], by rw [show m + (k + 1) = s1 by have := HU.out; have := HS1.out; omega], hidE (fun j hj hj2 => ?_), J4, Q4⟩
     rcases Nat.lt_succ_iff_lt_or_eq.1 hj with q | q
     ·exact HB.out j q hj2
     ·subst q; rw [HEG.out]; exact HX.out
    case measure => have := HLT.out; have := HU.out; have := HK.out; simp [intOf]; omega
   ·have d9 : decide (u1 ≤ X) = false := by simpa using hx
    have d9' : decide (X ≥ u1) = false := by simpa using hx
    obtain ⟨hA, hN⟩ := HIN2.out (by omega)
    have hpb := partAt_bd (t := ⟨u0, u1, v0, v1⟩) ⟨⟨t1, t2, t3⟩, ⟨t4, t5⟩, t6, t7⟩ a1 a2' hA (by dsimp only; omega)
    rw [← part_num] at hpb
    have hNN : ((partAt sm ⟨u0, u1, v0, v1⟩ X).1, (partAt sm ⟨u0, u1, v0, v1⟩ X).2) = partAt sm ⟨u0, u1, v0, v1⟩ X := rfl
    rw [← hNN, ← part_num] at hN
    simp only [partAt, Gs.run] at hpb hN
    rw [hr0] at hpb hN
    obtain ⟨tt, htt⟩ : ∃ z, X - u0 = z := ⟨_, rfl⟩
    rw [htt] at hpb hN
    have b1 := mul_bd (a := sm) (b := r) (A := 2400000000000) (B := 100000) (by omega) (by omega) (by omega) (by omega)
    have b2 := mul_bd (a := 2 * v0) (b := r) (A := 2000000) (B := 100000) (by omega) (by omega) (by omega) (by omega)
    have b3 := mul_bd (a := v1 - v0) (b := tt) (A := 1000000) (B := 100000) (by omega) (by omega) (by omega) (by omega)
    obtain ⟨p1, hp1⟩ : ∃ z, sm * r = z := ⟨_, rfl⟩
    obtain ⟨p3, hp3⟩ : ∃ z, 2 * v0 * r = z := ⟨_, rfl⟩
    obtain ⟨p5, hp5⟩ : ∃ z, (v1 - v0) * tt = z := ⟨_, rfl⟩
    rw [hp1] at b1 hpb hN
    rw [hp3] at b2 hpb hN
    rw [hp5] at b3 hpb hN
    have b4 := mul_bd (a := tt) (b := p3 + p5) (A := 100000) (B := 300000000000) (by omega) (by omega) (by omega) (by omega)
    obtain ⟨p7, hp7⟩ : ∃ z, tt * (p3 + p5) = z := ⟨_, rfl⟩
    rw [hp7] at b4 hpb hN
    obtain ⟨nn, hnn⟩ : ∃ z : Nat, p1 + p7 = z := ⟨(p1 + p7).toNat, by omega⟩
    obtain ⟨dd, rfl⟩ : ∃ z : Nat, r = z := ⟨r.toNat, by omega⟩
    rw [hnn] at hpb hN
    have w1 : IntKind.i64.wrap tt = tt := IntWalk.i64_in _ (by omega)
    have w2 : IntKind.i64.wrap p1 = p1 := IntWalk.i64_in _ (by omega)
    have w3' : IntKind.i64.wrap (2 * v0) = 2 * v0 := IntWalk.i64_in _ (by omega)
    have w4' : IntKind.i64.wrap p3 = p3 := IntWalk.i64_in _ (by omega)
    have w5 : IntKind.i64.wrap (v1 - v0) = v1 - v0 := IntWalk.i64_in _ (by omega)
    have w6 : IntKind.i64.wrap p5 = p5 := IntWalk.i64_in _ (by omega)
    have w7 : IntKind.i64.wrap (p3 + p5) = p3 + p5 := IntWalk.i64_in _ (by omega)
    have w8 : IntKind.i64.wrap p7 = p7 := IntWalk.i64_in _ (by omega)
    have w9 : IntKind.i64.wrap (nn : Int) = (nn : Int) := IntWalk.i64_in _ (by omega)
    have h1 : (lowest ((nn : Int), (dd : Int))).1 = N1 := by rw [hN]
    have h2 : (lowest ((nn : Int), (dd : Int))).2 = N2 := by rw [hN]
    unfold lowest at h1 h2
    simp only [Int.toNat_natCast] at h1 h2
    obtain ⟨gg, hgg⟩ : ∃ z, Nat.gcd nn dd = z := ⟨_, rfl⟩
    have hg1 : 1 ≤ gg := by rw [← hgg]; exact Nat.gcd_pos_of_pos_right _ (by omega)
    have hg2 : gg ≤ dd := by rw [← hgg]; exact Nat.gcd_le_right _ (by omega)
    have HDV := fun W => rgcd_any nn dd W (by omega) (by omega)
    rw [hgg] at h1 h2
    simp only [hgg] at HDV
    have HDV := hidE HDV
    replace h1 : ((nn : Int).tdiv gg) = N1 := h1
    replace h2 : ((dd : Int).tdiv gg) = N2 := h2
    have q1 : IntKind.i64.wrap N1 = N1 := by
     obtain ⟨r1, hr1⟩ : ∃ r, nn / gg = r := ⟨_, rfl⟩
     have e : ((nn : Int).tdiv gg) = (r1 : Int) := by rw [← hr1]; rfl
     have := Nat.div_le_self nn gg
     rw [hr1] at this
     refine IntWalk.i64_in _ ?_
     omega
    have q2 : IntKind.i64.wrap N2 = N2 := by
     obtain ⟨r1, hr1⟩ : ∃ r, dd / gg = r := ⟨_, rfl⟩
     have e : ((dd : Int).tdiv gg) = (r1 : Int) := by rw [← hr1]; rfl
     have := Nat.div_le_self dd gg
     rw [hr1] at this
     refine IntWalk.i64_in _ ?_
     omega
    have hgz : ¬ gg = 0 := by omega
    have y0 := x0
    clear hN hNN hpb b1 b2 b3 b4 hgg hA t1 t2 t3 t4 t5 t6 t7 a1 a2' hx
    go_wp2_with fail
    refine (HDV.out _).mono ?_
    rintro e w5 ⟨rfl, hb⟩
    have J5 := hidE (J4.out.next hb)
    have Q5 := hidE (Q4.out.next hb)
    clear hb
    go_wp2_with fail
    have HZ := hidE (show w5.drew.heap[w.heap.size + 1]? = some (.cells #[.int .i64 0, .int .i64 0] 49 (0,0)) from Q5.out.2.1)
    refine wp_region_G (S := fun V => V = w5.drew) (T := fun t => decide (7 ≤ t)) (by kernel_rfl) ?_
    have hS : (fun V : World => V = w5.drew) w5.drew := rfl
    refine tG 0 99 (.int .i64 (nn : Int)) rfl (by kernel_rfl) rfl (fun _ _ _ h => h) (fun V hV => ?_) (.inr hS) ?_
    ·simp [go_sem, execOp]
    try simp only [sA, sB, sC]
    refine tG 1 100 (.int .i64 (gg : Int)) rfl (by kernel_rfl) rfl (fun _ _ _ h => h) (fun V hV => ?_) (.inr hS) ?_
    ·simp [go_sem, execOp]
    try simp only [sA, sB, sC]
    refine tG 2 101 (.int .i64 N1) rfl (by kernel_rfl) rfl (fun _ _ _ h => h) (fun V hV => ?_) (.inr hS) ?_
    ·simp [go_sem, execOp, hgz, h1, q1]
    try simp only [sA, sB, sC]
    refine tG 3 102 (.int .i64 (dd : Int)) rfl (by kernel_rfl) rfl (fun _ _ _ h => h) (fun V hV => ?_) (.inr hS) ?_
    ·simp [go_sem, execOp]
    try simp only [sA, sB, sC]
    refine tG 4 103 (.int .i64 (gg : Int)) rfl (by kernel_rfl) rfl (fun _ _ _ h => h) (fun V hV => ?_) (.inr hS) ?_
    ·simp [go_sem, execOp]
    try simp only [sA, sB, sC]
    refine tG 5 104 (.int .i64 N2) rfl (by kernel_rfl) rfl (fun _ _ _ h => h) (fun V hV => ?_) (.inr hS) ?_
    ·simp [go_sem, execOp, hgz, h2, q2]
    try simp only [sA, sB, sC]
    refine tG 6 105 (.agg #[.int .i64 N1, .int .i64 N2]) rfl (by kernel_rfl) rfl (fun _ _ _ h => h) (fun V hV => ?_) (.inr hS) ?_
    ·simp [go_sem, execOp]
    try simp only [sA, sB, sC]
    refine wpAnyG_step 7 rfl (by kernel_rfl) (fun K hK => ?_)
    refine Eq.mpr (if_pos (by kernel_rfl)) ?_
    refine wp_store_row 49 _ _ rfl (w.heap.size + 1) #[.int .i64 N1, .int .i64 N2] rfl rfl 49 _ HZ.out (by kernel_rfl) rfl (by simp [Value.oneCell']) ?_
    refine hK.out _ _ (.inl ⟨7, rfl, by kernel_rfl⟩) ?_
    clear hK K
    try simp only [Act.put, List.setIfInBounds_toArray]
    refine wpAnyG_done (by kernel_rfl) ?_ _
    go_wp2_with fail
    try simp only [Exit.noGoto]
    refine bodyPost_ret (v := .agg #[.int .i64 N1, .int .i64 N2]) (results_cell_row1 Tryz.results116 _ _ (w.heap.size + 1) 49 _ (0,0) _ rfl (setRow_heap _ _ _ _ _ _ HZ.out) Tryz.underlying49 rfl (by kernel_rfl)) rfl ⟨rfl, below_setRow J5.out.drew.b (by omega) _⟩
  ·obtain rfl : k = K := by omega
   have d1 : decide ((u : Int) < (E : Int)) = false := by simp; omega
   have d1' : decide (u < E) = false := by simp; omega
   have hen := HEND.out (fun i hi => HB.out i (by omega) hi)
   rw [hKL] at hen
   have e1 : N1 = areaTo G k := (congrArg Prod.fst hen).symm
   have e2 : N2 = 1 := (congrArg Prod.snd hen).symm
   obtain ⟨sm, hsm⟩ : ∃ z, areaTo G k = z := ⟨_, rfl⟩
   rw [hu, hsm]
   rw [hsm] at e1
   subst e1 e2
   have HZ := hidE HQ.out.2.1
   have z0 := ce (i := 0) HZ.out rfl
   have z1 := ce (i := 1) HZ.out rfl
   have z2 : wx.frozen? ⟨w.heap.size + 1, 0, none⟩ = false := frozen_of_row _ _ _ _ _ HZ.out
   have z3 : wx.frozen? ⟨w.heap.size + 1, 1, none⟩ = false := frozen_of_row _ _ _ _ _ HZ.out
   clear hen hsm hE hKL hu
   go_wp2_with fail
   try simp only [Exit.noGoto]
   refine bodyPost_ret (v := .agg #[.int .i64 N1, .int .i64 1]) (results_cell_row1 Tryz.results116 _ _ (w.heap.size + 1) 49 _ (0,0) _ rfl (heap_setCell_same _ _ 1 _ _ _ (heap_setCell_same _ _ 0 _ _ _ HZ.out)) Tryz.underlying49 rfl (by kernel_rfl)) rfl ⟨rfl, ((HJ.out.b.setCell (by simp) _).setCell (by simp) _)⟩
set_option maxRecDepth 100000 in
set_option maxHeartbeats 4000000 in
theorem rcut_any (w : World) (x : FV) (F : Fld) (i : Nat) (M : Int) (a2 : Option Addr) (cap2 : Nat) (y : List Int) (hz : uprightE F y i = 0) (hm0 : 0 ≤ M) (hm1 : M ≤ 2400000000000) (h : FldAt w x F) (h2 : IntsAt w a2 y) :
 Calls Tryz.prog 118 #[x.val F, .slice a2 y.length cap2, .int .i64 (i : Int), .int .i64 M] w fun e w' => e = .returned (.int .i64 (cutP (grP F y (F.par i)) M)) ∧ Below w.heap.size w w' := by
 obtain ⟨hf, hv, hgr, hin, hc⟩ := upright_ok hz
 obtain ⟨_, n, hni, hn, hpar⟩ := fielded_one hf
 obtain rfl : n = i := by omega
 have hlen := check0_len hc
 have HWE := hidE (fun (W : World) (J : FJ w x F a2 y W) (X : Int) hX => rwest_any W x F n X a2 cap2 y hz hX J.fld J.ints)
 have hex := ends_X (y := y) hin
 rw [hpar] at HWE hgr hin hex ⊢
 obtain ⟨bP, oP, haP, hbP, hcP⟩ := RecsAt.at h.pr hn
 obtain ⟨p, hp⟩ : ∃ p, F.prs[n] = p := ⟨_, rfl⟩
 rw [hp] at HWE hgr hin hcP hex ⊢
 obtain ⟨G, hG⟩ : ∃ G, grP F y p = G := ⟨_, rfl⟩
 rw [hG] at HWE hgr hex ⊢
 obtain ⟨m, hm⟩ : ∃ m : Nat, p.wst = m := ⟨p.wst.toNat, by obtain ⟨_, _, _, _, _⟩ := hin; omega⟩
 obtain ⟨E, hE⟩ : ∃ E : Nat, p.est = E := ⟨p.est.toNat, by obtain ⟨_, _, _, _, _⟩ := hin; omega⟩
 have hml : m < F.sts.length := by obtain ⟨_, _, _, _, _⟩ := hin; omega
 have hEl : E < F.sts.length := by obtain ⟨_, _, _, _, _⟩ := hin; omega
 rw [show p.wst.toNat = m by omega, show p.est.toNat = E by omega, stX_get hml, stX_get hEl] at hex
 have HPB := hidE (fun (X : Int) (h0 : fromP G ≤ X) (h1 : X ≤ toP G) => hgr.part_bd h0 h1)
 have HBD := hidE (fun (X : Int) (h0 : fromP G ≤ X) (h1 : X ≤ toP G) => low_bd hgr h0 h1)
 have he := hgr.ends
 obtain ⟨R, hR⟩ : ∃ R, cutP G M = R := ⟨_, rfl⟩
 rw [hR]
 unfold cutP at hR
 obtain ⟨fr, hfr⟩ : ∃ z, fromP G = z := ⟨_, rfl⟩
 obtain ⟨up, hup⟩ : ∃ z, toP G = z := ⟨_, rfl⟩
 rw [hfr, hup] at hR he hex HWE HPB HBD
 obtain ⟨hx0, hx1⟩ := hex
 have HRR := hidE hR
 obtain ⟨pn, ps, pw, pe⟩ := p
 dsimp only at hm hE
 subst hm hE
 obtain ⟨aS, cS, aL, cL, aP, cP, aV, cV⟩ := x
 dsimp only at haP
 subst haP
 have c0 := hcP 0 (by omega)
 have c1 := hcP 1 (by omega)
 have c2 := hcP 2 (by omega)
 have c3 := hcP 3 (by omega)
 simp only [Par.cells, List.getElem?_cons_zero, List.getElem?_cons_succ, Nat.add_zero] at c0 c1 c2 c3
 obtain ⟨bS, oS, haS, hbS, hcS⟩ := RecsAt.at h.st hml
 obtain ⟨bS', oS', haS', _, hcS'⟩ := RecsAt.at h.st hEl
 dsimp only at haS haS'
 subst haS
 cases haS'
 have x0 := hcS 1 (by omega)
 have x1 := hcS' 1 (by omega)
 simp only [Sta.cells, List.getElem?_cons_zero, List.getElem?_cons_succ] at x0 x1
 rw [← hx0] at x0
 rw [← hx1] at x1
 have HH := hidE (FJ.begin h h2)
 obtain ⟨w0, hw0⟩ : ∃ W, W = (w.alloc (.cells #[.slice (some ⟨bS, oS, none⟩) F.sts.length cS, .slice aL F.lms.length cL, .slice (some ⟨bP, oP, none⟩) F.prs.length cP, .slice aV F.vrs.length cV] 46)).alloc (.cells #[.string pn, .int .i64 ps, .int .i64 (m : Int), .int .i64 (E : Int)] 53) := ⟨_, rfl⟩
 have J0 := hidE (show FJ w _ F a2 y w0 by rw [hw0]; exact HH.out.alloc _)
 have Q0 := (show Kb [(w.heap.size + 1, .cells #[.string pn, .int .i64 ps, .int .i64 (m : Int), .int .i64 (E : Int)] 53)] w0 by
  have := (Kb.alloc (o := .cells #[.string pn, .int .i64 ps, .int .i64 (m : Int), .int .i64 (E : Int)] 53) (L := []) (W := w.alloc (.cells #[.slice (some ⟨bS, oS, none⟩) F.sts.length cS, .slice aL F.lms.length cL, .slice (some ⟨bP, oP, none⟩) F.prs.length cP, .slice aV F.vrs.length cV] 46)) trivial)
  rw [hw0]; simpa using this)
 have y0 := (J0.out.b.cell (p := ⟨bS, oS + m * 2 + 1, none⟩) hbS).trans x0
 have y1 := (J0.out.b.cell (p := ⟨bS, oS + E * 2 + 1, none⟩) hbS).trans x1
 have k2 := ce (i := 2) Q0.1 rfl
 have k3 := ce (i := 3) Q0.1 rfl
 obtain ⟨f0, _, f2, _⟩ := J0.out.c
 dsimp only at f0 f2
 unfold FV.val FV.arr at *
 dsimp only at *
 clear hz h h2 hf hv hgr hin hc hni hpar hcP hp hG hlen hR hx0 hx1 hcS hcS' HH x0 x1 Q0 hfr hup
 go_enter Tryz.func118, Tryz.ntmps118
 go_upto_region 2 with fail
 rw [← hw0]
 clear hw0 c0 c1 c2 c3
 go_wp2_with fail
 clear k2 k3 y0 y1 f0 f2
 go_loopw [10, 11] (fun a b wr => ∃ (lo hi : Int) (f : Nat), a = .int .i64 lo ∧ b = .int .i64 hi ∧ fr ≤ lo ∧ lo ≤ hi ∧ hi ≤ up ∧ Hid (cutGo G M f lo hi = R) ∧ (hi - lo).toNat ≤ f ∧ Hid (FJ w ⟨some ⟨bS, oS, none⟩, cS, aL, cL, some ⟨bP, oP, none⟩, cP, aV, cV⟩ F a2 y wr)) (fun a b _ => (intOf b - intOf a).toNat)
 case atStart => exact ⟨fr, up, (up - fr).toNat, rfl, rfl, Int.le_refl _, by omega, Int.le_refl _, HRR, Nat.le_refl _, J0⟩
 case round =>
  obtain ⟨lo, hi, f, rfl, rfl, g1, g2, g3, hgo, hf, HJ⟩ := hrel
  obtain ⟨wx, rfl⟩ : ∃ W : World, W = wr := ⟨wr, rfl⟩
  by_cases hlt : lo < hi
  ·have d1 : decide (lo < hi) = true := by simpa using hlt
   obtain ⟨g, rfl⟩ : ∃ g, f = g + 1 := ⟨f - 1, by omega⟩
   have hgo2 := hgo.out
   unfold cutGo at hgo2
   rw [if_pos hlt] at hgo2
   obtain ⟨mid, hmid⟩ : ∃ z, lo + (hi - lo + 1).tdiv 2 = z := ⟨_, rfl⟩
   rw [hmid] at hgo2
   have hq : (lo + hi + 1).tdiv 2 = mid ∧ lo < mid ∧ mid ≤ hi ∧ (hi - mid).toNat ≤ g ∧ (mid - 1 - lo).toNat ≤ g := by
    rw [Int.tdiv_eq_ediv_of_nonneg (by omega)] at hmid ⊢; omega
   obtain ⟨q0, q1, q2, q3, q4⟩ := hq
   have w0 : IntKind.i64.wrap (lo + hi) = lo + hi := IntWalk.i64_in _ (by omega)
   have w1' : IntKind.i64.wrap (lo + hi + 1) = lo + hi + 1 := IntWalk.i64_in _ (by omega)
   have w3 : IntKind.i64.wrap mid = mid := IntWalk.i64_in _ (by omega)
   have w4 : IntKind.i64.wrap (mid - 1) = mid - 1 := IntWalk.i64_in _ (by omega)
   have hpb := HPB.out mid (by omega) (by omega)
   have hbd := HBD.out mid (by omega) (by omega)
   have hwe := HWE.out wx HJ.out mid ⟨by omega, by omega⟩
   have hle := lowest_le hpb.1 (show 0 < (partP G mid).2 by omega) M
   obtain ⟨nu, hnu⟩ : ∃ z, (lowest (partP G mid)).1 = z := ⟨_, rfl⟩
   obtain ⟨de, hde⟩ : ∃ z, (lowest (partP G mid)).2 = z := ⟨_, rfl⟩
   rw [hnu, hde] at hbd hwe hle
   have HAM := hidE (fun W => ratmost_any W nu de M hbd.2.1 (by omega) (by omega))
   have HG2 := hidE (show (if nu ≤ M * de then cutGo G M g mid hi else cutGo G M g lo (mid - 1)) = R by
    rw [← hgo2]; by_cases q : nu ≤ M * de
    ·rw [if_pos q, if_pos (hle.1 q)]
    ·rw [if_neg q, if_neg (fun z => q (hle.2 z))])
   obtain ⟨T, hT⟩ : ∃ t, decide (nu ≤ M * de) = t := ⟨_, rfl⟩
   rw [hT] at HAM
   have HWX := hidE hwe
   have HTT := hidE hT
   clear hgo2 hwe hnu hde hpb hbd hle hmid hgo hT
   obtain ⟨f0, f1, f2, f3⟩ := HJ.out.c
   dsimp only at f0 f1 f2 f3
   go_wp2_with fail
   refine HWX.out.mono ?_
   rintro e wq ⟨rfl, hbq⟩
   have JQ := hidE (HJ.out.next hbq)
   clear hbq HWX HJ f0 f1 f2 f3
   go_wp2_with fail
   refine (HAM.out _).mono ?_
   rintro e wz ⟨rfl, hbz⟩
   have JZ := hidE (JQ.out.next hbz)
   clear hbz HAM JQ
   cases T with
   | true =>
     have HG3 := hidE (show cutGo G M g mid hi = R by have := HG2.out; rw [if_pos (of_decide_eq_true HTT.out)] at this; exact this)
     go_wp2_with fail
     go_roundw
     case rel => exact ⟨mid, hi, g, rfl, rfl, by omega, by omega, g3, HG3, by omega, JZ⟩
     case measure => simp [intOf]; omega
   | false =>
     have HG3 := hidE (show cutGo G M g lo (mid - 1) = R by have := HG2.out; rw [if_neg (of_decide_eq_false HTT.out)] at this; exact this)
     go_wp2_with fail
     go_roundw
     case rel => exact ⟨lo, mid - 1, g, rfl, rfl, g1, by omega, by omega, HG3, by omega, JZ⟩
     case measure => simp [intOf]; omega
  ·have d1 : decide (lo < hi) = false := by simpa using hlt
   have hR : R = lo := by
    have := hgo.out
    cases f with
    | zero => exact this.symm
    | succ g => unfold cutGo at this; rw [if_neg hlt] at this; exact this.symm
   subst hR
   go_wp2_with fail
   go_ret
   exact ⟨rfl, HJ.out.b⟩
theorem par_ends {w : World} {x : FV} {F : Fld} {y : List Int} {i : Int} (hz : uprightE F y i = 0) (h : FldAt w x F) :
 ∃ (n m E : Nat) (bP oP bS oS : Nat) (pn : ByteArray) (ps : Int), i = n ∧ n < F.prs.length ∧ m < F.sts.length ∧ E < F.sts.length ∧ F.sts.length ≤ 12 ∧ x.aP = some ⟨bP, oP, none⟩ ∧ x.aS = some ⟨bS, oS, none⟩ ∧
  (∀ W, Below w.heap.size w W → W.cell? ⟨bP, oP + n * 4, none⟩ = some (.string pn) ∧ W.cell? ⟨bP, oP + n * 4 + 1, none⟩ = some (.int .i64 ps) ∧ W.cell? ⟨bP, oP + n * 4 + 2, none⟩ = some (.int .i64 (m : Int)) ∧ W.cell? ⟨bP, oP + n * 4 + 3, none⟩ = some (.int .i64 (E : Int)) ∧
   W.cell? ⟨bS, oS + m * 2 + 1, none⟩ = some (.int .i64 (fromP (grP F y (F.par i)))) ∧ W.cell? ⟨bS, oS + E * 2 + 1, none⟩ = some (.int .i64 (toP (grP F y (F.par i))))) := by
 obtain ⟨hf, hv, hgr, hin, hc⟩ := upright_ok hz
 obtain ⟨_, n, rfl, hn, hpar⟩ := fielded_one hf
 have hlen := check0_len hc
 have hex := ends_X (y := y) hin
 rw [hpar] at hin hex ⊢
 obtain ⟨bP, oP, haP, hbP, hcP⟩ := RecsAt.at h.pr hn
 obtain ⟨p, hp⟩ : ∃ p, F.prs[n] = p := ⟨_, rfl⟩
 rw [hp] at hin hcP hex ⊢
 obtain ⟨m, hm⟩ : ∃ m : Nat, p.wst = m := ⟨p.wst.toNat, by obtain ⟨_, _, _, _, _⟩ := hin; omega⟩
 obtain ⟨E, hE⟩ : ∃ E : Nat, p.est = E := ⟨p.est.toNat, by obtain ⟨_, _, _, _, _⟩ := hin; omega⟩
 have hml : m < F.sts.length := by obtain ⟨_, _, _, _, _⟩ := hin; omega
 have hEl : E < F.sts.length := by obtain ⟨_, _, _, _, _⟩ := hin; omega
 rw [show p.wst.toNat = m by omega, show p.est.toNat = E by omega, stX_get hml, stX_get hEl] at hex
 obtain ⟨pn, ps, pw, pe⟩ := p
 dsimp only at hm hE
 subst hm hE
 have c0 := hcP 0 (by omega)
 have c1 := hcP 1 (by omega)
 have c2 := hcP 2 (by omega)
 have c3 := hcP 3 (by omega)
 simp only [Par.cells, List.getElem?_cons_zero, List.getElem?_cons_succ, Nat.add_zero] at c0 c1 c2 c3
 obtain ⟨bS, oS, haS, hbS, hcS⟩ := RecsAt.at h.st hml
 obtain ⟨bS', oS', haS', _, hcS'⟩ := RecsAt.at h.st hEl
 rw [haS] at haS'
 cases haS'
 have x0 := hcS 1 (by omega)
 have x1 := hcS' 1 (by omega)
 simp only [Sta.cells, List.getElem?_cons_zero, List.getElem?_cons_succ] at x0 x1
 rw [← hex.1] at x0
 rw [← hex.2] at x1
 exact ⟨n, m, E, bP, oP, bS, oS, pn, ps, rfl, hn, hml, hEl, hlen.1.2, haP, haS, fun W hb => ⟨(hb.cell (p := ⟨bP, oP + n * 4, none⟩) hbP).trans c0, (hb.cell (p := ⟨bP, oP + n * 4 + 1, none⟩) hbP).trans c1, (hb.cell (p := ⟨bP, oP + n * 4 + 2, none⟩) hbP).trans c2, (hb.cell (p := ⟨bP, oP + n * 4 + 3, none⟩) hbP).trans c3,
  (hb.cell (p := ⟨bS, oS + m * 2 + 1, none⟩) hbS).trans x0, (hb.cell (p := ⟨bS, oS + E * 2 + 1, none⟩) hbS).trans x1⟩⟩
set_option maxRecDepth 100000 in
set_option maxHeartbeats 4000000 in
theorem rcutE_any (w : World) (x : FV) (F : Fld) (i M : Int) (a2 : Option Addr) (cap2 : Nat) (y : List Int) (hy : y.length ≤ 9223372036854775807) (h : FldAt w x F) (h2 : IntsAt w a2 y) :
 Calls Tryz.prog 46 #[x.val F, .slice a2 y.length cap2, .int .i64 i, .int .i64 M] w fun e w' => e = .returned (.tuple #[.int .i64 (cutE F y i M).1, .int .i64 (cutE F y i M).2]) ∧ Below w.heap.size w w' := by
 obtain ⟨P1, hP1⟩ : ∃ z, (cutE F y i M).1 = z := ⟨_, rfl⟩
 obtain ⟨P2, hP2⟩ : ∃ z, (cutE F y i M).2 = z := ⟨_, rfl⟩
 rw [hP1, hP2]
 have HUP := hidE (fun (W : World) (J : FJ w x F a2 y W) => rupright_any W x F i a2 cap2 y hy J.fld J.ints)
 obtain ⟨w0, hw0⟩ : ∃ W, W = w.alloc (.cells (x.arr F) 46) := ⟨_, rfl⟩
 have J0 := hidE (show FJ w x F a2 y w0 by rw [hw0]; exact FJ.begin h h2)
 obtain ⟨f0, f1, f2, f3⟩ := J0.out.c
 unfold cutE at hP1 hP2
 by_cases hz : uprightE F y i = 0
 ·rw [if_neg (by omega)] at hP1 hP2
  obtain ⟨hf, hv, hgr, hin, hc⟩ := upright_ok hz
  obtain ⟨_, n, rfl, hn, hpar⟩ := fielded_one hf
  have hpn := points_nat hc
  have hin2 := hin
  rw [hpar] at hin2
  have hwb := weightsOf_bd hc hin2
  have hvb := valuesB_iff.1 (show valuesB (F.points.toNat : Int) y = true by rw [show (F.points.toNat : Int) = F.points by omega]; exact hv)
  have HWT := hidE (fun (W : World) (J : FJ w x F a2 y W) => rweights_any W x F n hc hn J.fld)
  have HFO := hidE (fun (W : World) (g : Nat) (J : FJ w x F a2 y W) (hg : W.heap[g]? = some (.cells (rowA (weightsOf F F.prs[n])) 3 (0,0))) => refform_any W (some ⟨g, 0, none⟩) F.points.toNat _ a2 cap2 y (by rw [weightsOf_len]; omega) (by rw [weightsOf_len]; omega) (ints_of_row hg) J.ints (fun v hv => by
   obtain ⟨j, hj, rfl⟩ := List.getElem_of_mem hv
   have := hwb j
   rw [getD_get _ 0 hj] at this
   omega) hvb.2.2)
  rw [weightsOf_len] at HFO
  rw [show formP (weightsOf F F.prs[n]) y = wholeP (grP F y (F.par n)) by rw [hpar, form_area F y hin2, ← hpar, hgr.whole]] at HFO
  have HCU := hidE (fun (W : World) (J : FJ w x F a2 y W) (h0 : 0 ≤ M) (h1 : M ≤ 2400000000000) => rcut_any W x F n M a2 cap2 y hz h0 h1 J.fld J.ints)
  have hwl := (whole_bd hgr).2
  rw [hz] at HUP
  obtain ⟨L, hL⟩ : ∃ L, weightsOf F F.prs[n] = L := ⟨_, rfl⟩
  rw [hL] at HWT HFO
  obtain ⟨WH, hWH⟩ : ∃ z, wholeP (grP F y (F.par n)) = z := ⟨_, rfl⟩
  rw [hWH] at HFO hP1 hP2 hwl
  obtain ⟨R, hR⟩ : ∃ z, cutP (grP F y (F.par n)) M = z := ⟨_, rfl⟩
  rw [hR] at HCU hP1
  obtain ⟨N, hN⟩ : ∃ N, F.points.toNat = N := ⟨_, rfl⟩
  rw [hN] at HWT HFO
  have HP1 := hidE hP1
  have HP2 := hidE hP2
  have HWL := hidE hwl
  unfold FV.val FV.arr at *
  clear hz hf hv hgr hin hc hpar hpn hin2 hwb hvb hL hWH hR hN h h2 hP1 hP2 hwl
  go_enter Tryz.func46, Tryz.ntmps46
  go_upto_region 1 with fail
  rw [← hw0]
  clear hw0
  go_wp2_with fail
  refine (HUP.out _ J0.out).mono ?_
  rintro e w1 ⟨rfl, hb⟩
  have J1 := hidE (J0.out.next hb)
  clear hb f0 f1 f2 f3 J0 HUP
  obtain ⟨f0, f1, f2, f3⟩ := J1.out.c
  by_cases h0 : M < 0
  ·have d0 : decide (M < 0) = true := by simpa using h0
   have hq : inR M 0 WH = false := by rw [Bool.eq_false_iff]; intro q; have := inR_iff.1 q; omega
   have e1 := HP1.out
   have e2 := HP2.out
   rw [if_pos hq] at e1 e2
   obtain rfl : (0 : Int) = P1 := e1
   obtain rfl : (51 : Int) = P2 := e2
   clear hq h0
   go_wp2_with fail
   go_ret2
   exact ⟨rfl, J1.out.b⟩
  ·have d0 : decide (M < 0) = false := by simpa using h0
   go_wp2_with fail
   refine (HWT.out _ J1.out).mono ?_
   rintro e w2 ⟨g, rfl, hg, hgb, hb⟩
   have J2 := hidE (J1.out.next hb)
   have HG := hidE hg
   clear hb f0 f1 f2 f3 J1 HWT hg hgb
   go_wp2_with fail
   refine (HFO.out _ g J2.out HG.out).mono ?_
   rintro e w3 ⟨rfl, hb⟩
   have J3 := hidE (J2.out.next hb)
   clear hb J2 HFO
   obtain ⟨f0, f1, f2, f3⟩ := J3.out.c
   by_cases h1 : WH < M
   ·have d1 : decide (M > WH) = true := by simpa using h1
    have d1' : decide (WH < M) = true := by simpa using h1
    have hq : inR M 0 WH = false := by rw [Bool.eq_false_iff]; intro q; have := inR_iff.1 q; omega
    have e1 := HP1.out
    have e2 := HP2.out
    rw [if_pos hq] at e1 e2
    obtain rfl : (0 : Int) = P1 := e1
    obtain rfl : (51 : Int) = P2 := e2
    clear hq h0 h1
    go_wp2_with fail
    go_ret2
    exact ⟨rfl, J3.out.b⟩
   ·have d1 : decide (M > WH) = false := by simpa using h1
    have d1' : decide (WH < M) = false := by simpa using h1
    have hq : inR M 0 WH = true := by rw [inR_iff]; omega
    have e1 := HP1.out
    have e2 := HP2.out
    rw [if_neg (by rw [hq]; simp)] at e1 e2
    obtain rfl : R = P1 := e1
    obtain rfl : (0 : Int) = P2 := e2
    have HC := hidE (HCU.out _ J3.out (by omega) (by have := HWL.out; omega))
    clear hq h0 h1 HCU
    go_wp2_with fail
    refine HC.out.mono ?_
    rintro e w4 ⟨rfl, hb⟩
    have J4 := hidE (J3.out.next hb)
    clear hb
    go_wp2_with fail
    go_ret2
    exact ⟨rfl, J4.out.b⟩
 ·rw [if_pos hz] at hP1 hP2
  obtain rfl : (0 : Int) = P1 := hP1
  have hzb : (P2 != 0) = true := by rw [← hP2]; simpa using hz
  rw [show uprightE F y i = P2 from hP2] at HUP
  unfold FV.val FV.arr at *
  clear hz hP2 h h2
  go_enter Tryz.func46, Tryz.ntmps46
  go_upto_region 1 with fail
  rw [← hw0]
  clear hw0
  go_wp2_with fail
  refine (HUP.out _ J0.out).mono ?_
  rintro e w1 ⟨rfl, hb⟩
  have J1 := hidE (J0.out.next hb)
  clear hb f0 f1 f2 f3 J0 HUP
  go_wp2_with fail
  go_ret2
  exact ⟨rfl, J1.out.b⟩
end Go.Proofs.YthjmkmjojlfejaaGreat
namespace Go.Proofs.YthjmkmjojlfejaaGreat
def best1 (cut : List Int) (b : Int) (i : Nat) : Int := if 0 < cut.getD i 0 ∧ (b < 0 ∨ cut.getD b.toNat 0 < cut.getD i 0) then i else b
def bestTo (cut : List Int) (k : Nat) : Int := (List.range k).foldl (best1 cut) (-1)
theorem bestTo_succ (cut : List Int) (k : Nat) : bestTo cut (k + 1) = best1 cut (bestTo cut k) k := by
 unfold bestTo; rw [List.range_succ, List.foldl_append]; rfl
theorem bestTo_spec (cut : List Int) (k : Nat) : (bestTo cut k = -1 ∧ ∀ j, j < k → cut.getD j 0 ≤ 0) ∨
 ∃ i : Nat, i < k ∧ bestTo cut k = i ∧ 0 < cut.getD i 0 ∧ ∀ j, j < k → cut.getD j 0 < cut.getD i 0 ∨ (cut.getD j 0 = cut.getD i 0 ∧ i ≤ j) := by
 induction k with
 | zero => exact .inl ⟨rfl, fun j hj => by omega⟩
 | succ k ih =>
   rw [bestTo_succ]
   rcases ih with ⟨h1, h2⟩ | ⟨i, hi, h1, h2, h3⟩
   ·rw [h1]
    unfold best1
    by_cases h : 0 < cut.getD k 0
    ·rw [if_pos ⟨h, .inl (by omega)⟩]
     refine .inr ⟨k, by omega, rfl, h, fun j hj => ?_⟩
     by_cases hjk : j = k
     ·subst hjk; exact .inr ⟨rfl, Nat.le_refl _⟩
     ·have := h2 j (by omega); exact .inl (by omega)
    ·rw [if_neg (fun q => h q.1)]
     refine .inl ⟨rfl, fun j hj => ?_⟩
     by_cases hjk : j = k
     ·subst hjk; omega
     ·exact h2 j (by omega)
   ·rw [h1]
    unfold best1
    by_cases h : cut.getD i 0 < cut.getD k 0
    ·rw [if_pos ⟨by omega, .inr (by rw [Int.toNat_natCast]; exact h)⟩]
     refine .inr ⟨k, by omega, rfl, by omega, fun j hj => ?_⟩
     by_cases hjk : j = k
     ·subst hjk; exact .inr ⟨rfl, Nat.le_refl _⟩
     ·rcases h3 j (by omega) with q | ⟨q, _⟩ <;> exact .inl (by omega)
    ·rw [if_neg (fun q => q.2.elim (fun q => by omega) (fun q => h (by rw [Int.toNat_natCast] at q; exact q)))]
     refine .inr ⟨i, by omega, rfl, h2, fun j hj => ?_⟩
     by_cases hjk : j = k
     ·subst hjk
      rcases Int.lt_or_eq_of_le (Int.not_lt.1 h) with q | q
      ·exact .inl q
      ·exact .inr ⟨q, by omega⟩
     ·exact h3 j (by omega)
theorem bestTo_eq {cut : List Int} {k i : Nat} (hi : i < k) (h0 : 0 < cut.getD i 0) (h : ∀ j, j < k → cut.getD j 0 < cut.getD i 0 ∨ (cut.getD j 0 = cut.getD i 0 ∧ i ≤ j)) : bestTo cut k = i := by
 rcases bestTo_spec cut k with ⟨_, h2⟩ | ⟨m, hm, h1, _, h3⟩
 ·have := h2 i hi; omega
 ·rw [h1]
  have a := h m hm
  have b := h3 i hi
  omega
def zeros (l : List Nat) (c : List Int) : List Int := l.foldl (fun c i => c.set i 0) c
theorem zeros_len (l : List Nat) : ∀ c : List Int, (zeros l c).length = c.length := by
 induction l with
 | nil => intro c; rfl
 | cons i l ih => intro c; unfold zeros; rw [List.foldl_cons]; exact (ih _).trans (by simp)
theorem zeros_get : ∀ (l : List Nat) (c : List Int) (j : Nat), (zeros l c).getD j 0 = if j ∈ l then 0 else c.getD j 0
 | [], c, j => by simp [zeros]
 | i :: l, c, j => by
   have e : zeros (i :: l) c = zeros l (c.set i 0) := rfl
   rw [e, zeros_get l (c.set i 0) j]
   by_cases h : i = j
   ·subst h
    by_cases h2 : i ∈ l
    ·simp [h2]
    ·simp only [h2, if_false, List.mem_cons, true_or, if_true]
     rw [List.getD_eq_getElem?_getD, List.getElem?_set]
     by_cases h3 : i < c.length <;> simp [h3]
   ·have h' : ¬ j = i := fun e => h e.symm
    simp only [List.mem_cons, h', false_or]
    rw [List.getD_eq_getElem?_getD, List.getD_eq_getElem?_getD, List.getElem?_set_ne h]
theorem best_ord {total : Int} {parts : List Int} (h : ShOk total parts) {k : Nat} (hk : (k : Int) < shLeft total parts) (hkl : k < (remOrd (shRem total parts)).length) :
 bestTo (zeros ((remOrd (shRem total parts)).take k) (shRem total parts)) (zeros ((remOrd (shRem total parts)).take k) (shRem total parts)).length = (remOrd (shRem total parts))[k] := by
 have hkl' := hkl
 have hpos := ord_pos h hk hkl
 have hsorted := remOrd_sorted (shRem total parts)
 have hnd := remOrd_nodup (shRem total parts)
 have hmem : ∀ j, j < (shRem total parts).length → j ∈ remOrd (shRem total parts) := fun j hj => (remOrd_perm _).mem_iff.2 (List.mem_range.2 hj)
 have hlt := fun i (hi : i ∈ remOrd (shRem total parts)) => remOrd_lt hi
 obtain ⟨rest, hr⟩ : ∃ r, shRem total parts = r := ⟨_, rfl⟩
 simp only [hr] at *
 obtain ⟨ord, ho⟩ : ∃ o, remOrd rest = o := ⟨_, rfl⟩
 simp only [ho] at *
 have hnot : ∀ m (hm : m < ord.length), k ≤ m → ord[m] ∉ ord.take k := by
  intro m hm hkm hin
  obtain ⟨q, hq, e⟩ := List.getElem_of_mem hin
  rw [List.getElem_take] at e
  rw [List.length_take] at hq
  exact List.pairwise_iff_getElem.1 hnd q m (by omega) hm (by omega) e
 refine bestTo_eq ?_ ?_ fun j hj => ?_
 ·rw [zeros_len]; exact hlt _ (List.getElem_mem hkl')
 ·rw [zeros_get, if_neg (hnot k hkl' (Nat.le_refl _))]; exact hpos
 ·rw [zeros_len] at hj
  rw [zeros_get, zeros_get, if_neg (hnot k hkl' (Nat.le_refl _))]
  by_cases hin : j ∈ ord.take k
  ·rw [if_pos hin]; exact .inl hpos
  ·rw [if_neg hin]
   obtain ⟨m, hm, e⟩ := List.getElem_of_mem (hmem j hj)
   have hkm : k ≤ m := by
    apply Nat.not_lt.1
    intro q
    exact hin (by rw [← e]; exact List.mem_take_iff_getElem.2 ⟨m, by omega, rfl⟩)
   rcases Nat.eq_or_lt_of_le hkm with q | q
   ·subst q; rw [e]; exact .inr ⟨rfl, Nat.le_refl _⟩
   ·have := List.pairwise_iff_getElem.1 hsorted k m hkl' hm q
    simp only [remLe, Bool.or_eq_true, Bool.and_eq_true, decide_eq_true_eq] at this
    rw [e] at this
    omega
end Go.Proofs.YthjmkmjojlfejaaGreat
namespace Go.Proofs.YthjmkmjojlfejaaGreat
open Go Go.RowKit Go.Shelf
set_option maxRecDepth 100000 in
set_option maxHeartbeats 4000000 in
theorem rwestE_any (w : World) (x : FV) (F : Fld) (i X : Int) (a2 : Option Addr) (cap2 : Nat) (y : List Int) (hy : y.length ≤ 9223372036854775807) (h : FldAt w x F) (h2 : IntsAt w a2 y) :
 Calls Tryz.prog 45 #[x.val F, .slice a2 y.length cap2, .int .i64 i, .int .i64 X] w fun e w' => e = .returned (.tuple #[.agg #[.int .i64 (westE F y i X).1.1, .int .i64 (westE F y i X).1.2], .int .i64 (westE F y i X).2]) ∧ Below w.heap.size w w' := by
 obtain ⟨P1, hP1⟩ : ∃ z, (westE F y i X).1.1 = z := ⟨_, rfl⟩
 obtain ⟨P2, hP2⟩ : ∃ z, (westE F y i X).1.2 = z := ⟨_, rfl⟩
 obtain ⟨P3, hP3⟩ : ∃ z, (westE F y i X).2 = z := ⟨_, rfl⟩
 rw [hP1, hP2, hP3]
 have HUP := hidE (fun (W : World) (J : FJ w x F a2 y W) => rupright_any W x F i a2 cap2 y hy J.fld J.ints)
 obtain ⟨w0, hw0⟩ : ∃ W, W = (w.alloc (.cells (x.arr F) 46)).alloc (.cells #[.int .i64 0, .int .i64 0] 49) := ⟨_, rfl⟩
 have J0 := hidE (show FJ w x F a2 y w0 by rw [hw0]; exact (FJ.begin h h2).alloc _)
 have Q0 := hidE (show Kb [(w.heap.size + 1, .cells #[.int .i64 0, .int .i64 0] 49)] w0 by
  have := (Kb.alloc (o := .cells #[.int .i64 0, .int .i64 0] 49) (L := []) (W := w.alloc (.cells (x.arr F) 46)) trivial)
  rw [hw0]; simpa using this)
 unfold westE at hP1 hP2 hP3
 by_cases hz : uprightE F y i = 0
 ·rw [if_neg (by omega)] at hP1 hP2 hP3
  obtain ⟨n, m, E, bP, oP, bS, oS, pn, ps, rfl, hn, hml, hEl, hs12, haP, haS, HC⟩ := par_ends hz h
  have HWE := hidE (fun (W : World) (J : FJ w x F a2 y W) hX => rwest_any W x F n X a2 cap2 y hz hX J.fld J.ints)
  obtain ⟨G, hG⟩ : ∃ G, grP F y (F.par n) = G := ⟨_, rfl⟩
  rw [hG] at hP1 hP2 hP3 HC HWE
  obtain ⟨fr, hfr⟩ : ∃ z, fromP G = z := ⟨_, rfl⟩
  obtain ⟨up, hup⟩ : ∃ z, toP G = z := ⟨_, rfl⟩
  rw [hfr, hup] at hP1 hP2 hP3 HC HWE
  obtain ⟨N1, hN1⟩ : ∃ z, (lowest (partP G X)).1 = z := ⟨_, rfl⟩
  obtain ⟨N2, hN2⟩ : ∃ z, (lowest (partP G X)).2 = z := ⟨_, rfl⟩
  have HTR := hidE (fun (q : inR X fr up = true) => show N1 = P1 ∧ N2 = P2 ∧ 0 = P3 by
   rw [if_neg (by rw [q]; simp)] at hP1 hP2 hP3
   exact ⟨by rw [← hN1]; exact hP1, by rw [← hN2]; exact hP2, hP3⟩)
  have HFA := hidE (fun (q : inR X fr up = false) => show 0 = P1 ∧ 0 = P2 ∧ 1 = P3 by
   rw [if_pos q] at hP1 hP2 hP3
   exact ⟨hP1, hP2, hP3⟩)
  rw [hN1, hN2] at HWE
  rw [hz] at HUP
  obtain ⟨aS, cS, aL, cL, aP, cP, aV, cV⟩ := x
  dsimp only at haP haS
  subst haP haS
  have HCC := hidE HC
  obtain ⟨f0, f1, f2, f3⟩ := J0.out.c
  dsimp only at f0 f1 f2 f3
  unfold FV.val FV.arr at *
  dsimp only at *
  clear hz hP1 hP2 hP3 h h2 hG hfr hup hN1 hN2 HC
  go_enter Tryz.func45, Tryz.ntmps45
  go_upto_region 1 with fail
  rw [← hw0]
  clear hw0
  go_wp2_with fail
  refine (HUP.out _ J0.out).mono ?_
  rintro e w1 ⟨rfl, hb⟩
  have J1 := hidE (J0.out.next hb)
  have Q1 := hidE (Q0.out.next hb)
  clear hb f0 f1 f2 f3 J0 Q0 HUP
  obtain ⟨f0, _, f2, _⟩ := J1.out.c
  dsimp only at f0 f2
  obtain ⟨k0, k1, k2, k3, k4, k5⟩ := HCC.out _ J1.out.b
  go_upto_region 5 with fail
  obtain ⟨w2, hw2⟩ : ∃ W, W = w1.alloc (.cells #[.string pn, .int .i64 ps, .int .i64 (m : Int), .int .i64 (E : Int)] 53) := ⟨_, rfl⟩
  rw [← hw2]
  have J2 := hidE (show FJ w _ F a2 y w2 by rw [hw2]; exact J1.out.alloc _)
  have Q2 := hidE (show Kb _ w2 by rw [hw2]; exact Kb.alloc (o := .cells #[.string pn, .int .i64 ps, .int .i64 (m : Int), .int .i64 (E : Int)] 53) Q1.out)
  obtain ⟨g, hg⟩ : ∃ g, w1.heap.size = g := ⟨_, rfl⟩
  rw [hg] at Q2 ⊢
  clear hw2 hg f0 f2 k0 k1 k2 k3 k4 k5 J1 Q1
  obtain ⟨f0, f1, f2, f3⟩ := J2.out.c
  dsimp only at f0 f1 f2 f3
  obtain ⟨_, _, _, _, k4, k5⟩ := HCC.out _ J2.out.b
  have g2 := ce (i := 2) Q2.out.1 rfl
  have g3 := ce (i := 3) Q2.out.1 rfl
  have HZ := hidE Q2.out.2.1
  have z0 := ce (i := 0) HZ.out rfl
  have z1 := ce (i := 1) HZ.out rfl
  have z2 : w2.frozen? ⟨w.heap.size + 1, 0, none⟩ = false := frozen_of_row _ _ _ _ _ HZ.out
  have z3 : w2.frozen? ⟨w.heap.size + 1, 1, none⟩ = false := frozen_of_row _ _ _ _ _ HZ.out
  clear HCC
  by_cases h0 : X < fr ∨ up < X
  ·have hq : inR X fr up = false := by rw [Bool.eq_false_iff]; intro q; have := inR_iff.1 q; omega
   obtain ⟨rfl, rfl, rfl⟩ := HFA.out hq
   clear hq
   by_cases h1 : X < fr
   ·have d0 : decide (X < fr) = true := by simpa using h1
    clear h0 h1
    go_wp2_with fail
    try simp only [Exit.noGoto]
    refine bodyPost_ret (v := .tuple #[.agg #[.int .i64 0, .int .i64 0], .int .i64 1]) (results_cell_row2 Tryz.results45 _ _ (w.heap.size + 1) 49 _ (0,0) _ rfl (heap_setCell_same _ _ 1 _ _ _ (heap_setCell_same _ _ 0 _ _ _ HZ.out)) Tryz.underlying49 rfl (by kernel_rfl)) rfl ⟨rfl, ((J2.out.b.setCell (by simp) _).setCell (by simp) _)⟩
   ·have d0 : decide (X < fr) = false := by simpa using h1
    have d1 : decide (X > up) = true := by simp; omega
    have d1' : decide (up < X) = true := by simp; omega
    clear h0 h1
    go_wp2_with fail
    try simp only [Exit.noGoto]
    refine bodyPost_ret (v := .tuple #[.agg #[.int .i64 0, .int .i64 0], .int .i64 1]) (results_cell_row2 Tryz.results45 _ _ (w.heap.size + 1) 49 _ (0,0) _ rfl (heap_setCell_same _ _ 1 _ _ _ (heap_setCell_same _ _ 0 _ _ _ HZ.out)) Tryz.underlying49 rfl (by kernel_rfl)) rfl ⟨rfl, ((J2.out.b.setCell (by simp) _).setCell (by simp) _)⟩
  ·have hq : inR X fr up = true := by rw [inR_iff]; omega
   obtain ⟨rfl, rfl, rfl⟩ := HTR.out hq
   have d0 : decide (X < fr) = false := by simp; omega
   have d1 : decide (X > up) = false := by simp; omega
   have d1' : decide (up < X) = false := by simp; omega
   have HW := hidE (HWE.out _ J2.out ⟨by omega, by omega⟩)
   clear hq h0 HWE z0 z1 z2 z3
   go_wp2_with fail
   refine HW.out.mono ?_
   rintro e w3 ⟨rfl, hb⟩
   have J3 := hidE (J2.out.next hb)
   have HZ3 := hidE (Q2.out.next hb).2.1
   clear hb
   have z0 := ce (i := 0) HZ3.out rfl
   have z1 := ce (i := 1) HZ3.out rfl
   have z2 : w3.frozen? ⟨w.heap.size + 1, 0, none⟩ = false := frozen_of_row _ _ _ _ _ HZ3.out
   have z3 : w3.frozen? ⟨w.heap.size + 1, 1, none⟩ = false := frozen_of_row _ _ _ _ _ HZ3.out
   go_wp2_with fail
   try simp only [Exit.noGoto]
   refine bodyPost_ret (v := .tuple #[.agg #[.int .i64 N1, .int .i64 N2], .int .i64 0]) (results_cell_row2 Tryz.results45 _ _ (w.heap.size + 1) 49 _ (0,0) _ rfl (heap_setCell_same _ _ 1 _ _ _ (heap_setCell_same _ _ 0 _ _ _ HZ3.out)) Tryz.underlying49 rfl (by kernel_rfl)) rfl ⟨rfl, ((J3.out.b.setCell (by simp) _).setCell (by simp) _)⟩
 ·rw [if_pos hz] at hP1 hP2 hP3
  obtain rfl : (0 : Int) = P1 := hP1
  obtain rfl : (0 : Int) = P2 := hP2
  have hzb : (P3 != 0) = true := by rw [← hP3]; simpa using hz
  rw [show uprightE F y i = P3 from hP3] at HUP
  obtain ⟨f0, f1, f2, f3⟩ := J0.out.c
  unfold FV.val FV.arr at *
  clear hz hP3 h h2
  go_enter Tryz.func45, Tryz.ntmps45
  go_upto_region 1 with fail
  rw [← hw0]
  clear hw0
  go_wp2_with fail
  refine (HUP.out _ J0.out).mono ?_
  rintro e w1 ⟨rfl, hb⟩
  have J1 := hidE (J0.out.next hb)
  have HZ := hidE (Q0.out.next hb).1
  clear hb f0 f1 f2 f3 J0 HUP
  have z0 := ce (i := 0) HZ.out rfl
  have z1 := ce (i := 1) HZ.out rfl
  have z2 : w1.frozen? ⟨w.heap.size + 1, 0, none⟩ = false := frozen_of_row _ _ _ _ _ HZ.out
  have z3 : w1.frozen? ⟨w.heap.size + 1, 1, none⟩ = false := frozen_of_row _ _ _ _ _ HZ.out
  go_wp2_with fail
  try simp only [Exit.noGoto]
  refine bodyPost_ret (v := .tuple #[.agg #[.int .i64 0, .int .i64 0], .int .i64 P3]) (results_cell_row2 Tryz.results45 _ _ (w.heap.size + 1) 49 _ (0,0) _ rfl (heap_setCell_same _ _ 1 _ _ _ (heap_setCell_same _ _ 0 _ _ _ HZ.out)) Tryz.underlying49 rfl (by kernel_rfl)) rfl ⟨rfl, ((J1.out.b.setCell (by simp) _).setCell (by simp) _)⟩
theorem map_take_succ (f : Int → Int) (l : List Int) {k : Nat} (hk : k < l.length) : (l.take (k + 1)).map f = (l.take k).map f ++ [f l[k]] := by
 rw [List.take_succ_eq_append_getElem hk, List.map_append]; rfl
theorem zeros_succ (ord : List Nat) (c : List Int) {k : Nat} (hk : k < ord.length) : zeros (ord.take (k + 1)) c = (zeros (ord.take k) c).set ord[k] 0 := by
 rw [List.take_succ_eq_append_getElem hk]; unfold zeros; rw [List.foldl_append]; rfl
theorem intsV_set (l : List Int) (i : Nat) (v : Int) : (intsV l).set i (.int .i64 v) = intsV (l.set i v) := by simp [intsV, List.map_set]
theorem intsV_get {l : List Int} {i : Nat} (h : i < l.length) : (intsV l)[i]? = some (.int .i64 (l.getD i 0)) := by simp [intsV, h]
theorem own_later {w w' : World} {base : Nat} {e : TypeId} {k : Nat} {v : Value} {n : Nat} {cs : List Value} (h : w.ownsRow base e k v n cs) (hb : Below w.heap.size w w') : w'.ownsRow base e k v n cs := by
 rcases h with ⟨h1, h2 | ⟨gb, cp, cur, e1, e2, hh, e3⟩⟩
 ·exact ⟨h1, .inl h2⟩
 ·exact ⟨h1, .inr ⟨gb, cp, cur, e1, e2, blk_below hb (lt_of_block hh) hh, e3⟩⟩
set_option maxRecDepth 100000 in
set_option maxHeartbeats 16000000 in
theorem shares5_any (w : World) (total : Int) (a : Option Addr) (cap : Nat) (parts : List Int) (hl : parts.length ≤ 50) (h : IntsAt w a parts) (ht : 0 ≤ total ∧ total ≤ 100000000000) (hp : ∀ x ∈ parts, 0 ≤ x ∧ x ≤ 1000000) (hok : ShOk total parts) :
 Calls Tryz.prog 98 #[.int .i64 total, .slice a parts.length cap] w fun e w' => IntsOut (sharesP total parts) w.heap.size e w' ∧ Below w.heap.size w w' := by
 obtain ⟨n, hn⟩ : ∃ n, parts.length = n := ⟨_, rfl⟩
 have HP := hidE hp
 have HOK := hidE hok
 have H := hidE h
 have HN := hidE hn
 obtain ⟨Wh, hWh⟩ : ∃ Wh, shWhole parts = Wh := ⟨_, rfl⟩
 have HWH := hidE hWh
 have hW1 : 1 ≤ Wh := by rw [← hWh]; exact shWhole_pos parts
 have hbq : ∀ x ∈ shQuo total parts, 0 ≤ x ∧ x ≤ 100000000000000000 := by
  intro x hx
  obtain ⟨y, hy, rfl⟩ := List.mem_map.1 hx
  have h1 := hp y hy
  have h2 := shWhole_pos parts
  have h3 : 0 ≤ total * y := Int.mul_nonneg ht.1 h1.1
  have h4 : total * y ≤ 100000000000 * 1000000 := Int.mul_le_mul ht.2 h1.2 h1.1 (by decide)
  exact ⟨Int.ediv_nonneg h3 (by omega), Int.le_trans (Int.ediv_le_self _ h3) h4⟩
 have HBQ := hidE hbq
 have HS1 := hidE (sum5_any w a cap parts (by omega) h (fun k hk => by
  have := isum_take_bd (by decide) hp k
  omega))
 have hsb : 0 ≤ isum parts ∧ isum parts ≤ 50000000 := by
  have := isum_take_bd (by decide) hp parts.length
  rw [List.take_length] at this
  omega
 rw [hn] at hl HS1 ⊢
 have hmx : max (isum parts) 1 = Wh := by rw [← hWh, Int.max_comm]; rfl
 obtain ⟨s, hs⟩ : ∃ s, isum parts = s := ⟨_, rfl⟩
 rw [hs] at HS1 hmx hsb
 have hWle : Wh ≤ 50000000 := by omega
 clear h hp hok hWh hbq hn hs
 go_enter Tryz.func98, Tryz.ntmps98
 go_wp2_with fail
 refine HS1.out.mono ?_
 rintro e w4 ⟨rfl, rfl⟩
 go_wp2_with fail
 go_loopw [5, 6, 8] (fun u v i wr => ∃ k : Nat, k ≤ n ∧ i = .int .i64 k ∧ Hid (wr.ownsRow w4.heap.size 3 1 u ((parts.take k).map fun x => total * x / Wh).length (intsV ((parts.take k).map fun x => total * x / Wh))) ∧ Hid (wr.ownsRow w4.heap.size 3 1 v ((parts.take k).map fun x => total * x % Wh).length (intsV ((parts.take k).map fun x => total * x % Wh))) ∧ Hid (Apart u v) ∧ Hid (Below w4.heap.size w4 wr)) (fun _ _ i _ => n - (intOf i).toNat)
 case atStart => exact ⟨0, Nat.zero_le _, rfl, hidE (World.ownsRow_nil _ _ _ _), hidE (World.ownsRow_nil _ _ _ _), hidE (fun q e => by simp [Value.ownBlock] at e), hidE (Below.refl _ _)⟩
 case round =>
  obtain ⟨k, hk, rfl, HO0, HO1, HAP, HBB⟩ := hrel
  obtain ⟨wx, rfl⟩ : ∃ x : World, x = wr := ⟨wr, rfl⟩
  by_cases hlt : k < n
  ·obtain ⟨b, off, rfl, hbl, hc⟩ := H.out.at (show k < parts.length by rw [HN.out]; exact hlt)
   rw [← HBB.out.cell hbl] at hc
   have hv := HP.out _ (List.getElem_mem (show k < parts.length by rw [HN.out]; exact hlt))
   have HS0 := hidE (map_take_succ (fun x => total * x / Wh) parts (show k < parts.length by rw [HN.out]; exact hlt))
   have HS2 := hidE (map_take_succ (fun x => total * x % Wh) parts (show k < parts.length by rw [HN.out]; exact hlt))
   obtain ⟨q, hq⟩ : ∃ q, parts[k]'(by rw [HN.out]; exact hlt) = q := ⟨_, rfl⟩
   rw [hq] at hc HS0 HS2 hv
   clear hq
   have hp0 : 0 ≤ total * q := Int.mul_nonneg ht.1 hv.1
   have hp1 : total * q ≤ 100000000000000000 := Int.le_trans (Int.mul_le_mul ht.2 hv.2 hv.1 (by decide)) (by decide)
   have hwm : IntKind.i64.wrap (total * q) = total * q := IntWalk.i64_in _ (by omega)
   have hdv : 0 ≤ total * q / Wh ∧ total * q / Wh ≤ 100000000000000000 := ⟨Int.ediv_nonneg hp0 (by omega), Int.le_trans (Int.ediv_le_self _ hp0) hp1⟩
   have hwq : IntKind.i64.wrap (total * q / Wh) = total * q / Wh := IntWalk.i64_in _ (by omega)
   have htd : (total * q).tdiv Wh = total * q / Wh := Int.tdiv_eq_ediv_of_nonneg hp0
   have htm : (total * q).tmod Wh = total * q % Wh := Int.tmod_eq_emod_of_nonneg hp0
   have hmd : 0 ≤ total * q % Wh ∧ total * q % Wh ≤ 100000000000000000 := ⟨Int.emod_nonneg _ (by omega), by have := Int.emod_lt_of_pos (total * q) (show 0 < Wh by omega); omega⟩
   have hwr : IntKind.i64.wrap (total * q % Wh) = total * q % Wh := IntWalk.i64_in _ (by omega)
   have hW0 : ¬ Wh = 0 := by omega
   have hW2 : (Wh == 0) = false := by simpa using hW0
   obtain ⟨v5, wa, hrun1, own5, hb1, hk1⟩ := append_int HO0.out (total * q / Wh) (by have := HN.out; simp; omega) HBB.out.size
   obtain ⟨own6, ap1⟩ := hk1 _ _ HO1.out HAP.out.symm
   have hsz1 : w4.heap.size ≤ wa.heap.size := Nat.le_trans HBB.out.size hb1.size
   obtain ⟨v6, wb, hrun2, own7, hb2, hk2⟩ := append_int own6 (total * q % Wh) (by have := HN.out; simp; omega) hsz1
   obtain ⟨own8, ap2⟩ := hk2 _ _ own5 ap1.symm
   have ca : wa.cell? ⟨b, off + k, none⟩ = some (.int .i64 q) := (hb1.cell (p := ⟨b, off + k, none⟩) hbl).trans hc
   have HRUN1 := hidE hrun1
   have HRUN2 := hidE hrun2
   have HN0 := hidE own8
   have HN1 := hidE own7
   have HN2 := hidE ap2
   have HN3 := hidE (HBB.out.trans (hb1.trans hb2))
   clear hrun1 hrun2 own5 own6 own7 own8 ap1 ap2 hk1 hk2 hb1 hb2
   go_wp2_with (at_builtin; first | (refine wpList_op_append rfl (s := .tmp 21) (x := .tmp 30) (t := 25) rfl rfl rfl HRUN1.out ?_) | (refine wpList_op_append rfl (s := .tmp 32) (x := .tmp 41) (t := 25) rfl rfl rfl HRUN2.out ?_))
   go_roundw
   case rel => exact ⟨k + 1, by omega, by go_num, hidE (by rw [HS0.out]; exact HN0.out), hidE (by rw [HS2.out]; exact HN1.out), HN2, HN3⟩
   case measure => simp [intOf]; omega
  ·obtain rfl : k = n := by omega
   have e5 : ((parts.take k).map fun x => total * x / Wh) = shQuo total parts := by rw [← HN.out, List.take_length, ← HWH.out]; rfl
   have e6 : ((parts.take k).map fun x => total * x % Wh) = shRem total parts := by rw [← HN.out, List.take_length, ← HWH.out]; rfl
   rw [e5] at HO0
   rw [e6] at HO1
   have hLe : total - isum (shQuo total parts) = shLeft total parts := rfl
   have hL0 := shLeft_nonneg HOK.out
   have hL1 := shLeft_le HOK.out
   rw [HN.out] at hL1
   have hql : (shQuo total parts).length = k := by unfold shQuo; rw [List.length_map]; exact HN.out
   have hrl : (shRem total parts).length = k := by unfold shRem; rw [List.length_map]; exact HN.out
   have hol := remOrd_len (shRem total parts)
   rw [hrl] at hol
   have hbs : ∀ j, 0 ≤ isum ((shQuo total parts).take j) ∧ isum ((shQuo total parts).take j) ≤ j * 100000000000000000 := isum_take_bd (by decide) HBQ.out
   obtain ⟨o5, c5, rfl, hi5, _⟩ := intsAt_of_owns HO0.out
   obtain ⟨o6, c6, rfl, _, _⟩ := intsAt_of_owns HO1.out
   have HSUM := hidE (sum5_any wx o5 c5 (shQuo total parts) (by omega) hi5 (fun j hj => by have := hbs j; omega))
   have hq2 : ∀ j, 0 ≤ (shQuo total parts).getD j 0 ∧ (shQuo total parts).getD j 0 ≤ 100000000000000000 := fun j => by
    by_cases hj : j < (shQuo total parts).length
    ·rw [getD_get _ _ hj]; exact HBQ.out _ (List.getElem_mem hj)
    ·rw [List.getD_eq_getElem?_getD, List.getElem?_eq_none (by omega)]; decide
   have HOB := hidE (fun (i j : Nat) => outP_bd (L := (shLeft total parts).toNat) (quo := shQuo total parts) (remOrd_nodup (shRem total parts)) (fun i hi => by rw [hql, ← hrl]; exact remOrd_lt hi) i j)
   have HOP := hidE (fun (i : Nat) (hi : i ∈ remOrd (shRem total parts)) => show i < k by rw [← hrl]; exact remOrd_lt hi)
   have HBO := hidE (fun (i : Nat) (hi : (i : Int) < shLeft total parts) (hi2 : i < (remOrd (shRem total parts)).length) => best_ord HOK.out hi hi2)
   have HFIN := hidE (show outP (remOrd (shRem total parts)) (shLeft total parts).toNat (shQuo total parts) (shLeft total parts).toNat = sharesP total parts by unfold outP sharesP; rw [List.take_take, Nat.min_self])
   obtain ⟨L, hL⟩ : ∃ L : Nat, shLeft total parts = (L : Int) := ⟨(shLeft total parts).toNat, by omega⟩
   have hLt : (shLeft total parts).toNat = L := by omega
   rw [hLt] at HOB HFIN
   rw [hL] at hLe hL1 HBO
   rw [hql] at HSUM ⊢
   rw [hrl]
   obtain ⟨ord, hord⟩ : ∃ o, remOrd (shRem total parts) = o := ⟨_, rfl⟩
   rw [hord] at hol HOB HOP HFIN
   have HBO2 := hidE (fun (i : Nat) (hi : i < L) (hi2 : i < ord.length) => show bestTo (zeros (ord.take i) (shRem total parts)) (zeros (ord.take i) (shRem total parts)).length = (ord[i] : Int) by
    subst hord; exact HBO.out i (by omega) hi2)
   obtain ⟨quo, hquo⟩ : ∃ o, shQuo total parts = o := ⟨_, rfl⟩
   obtain ⟨rem, hrem⟩ : ∃ o, shRem total parts = o := ⟨_, rfl⟩
   rw [hquo] at HO0 HSUM HOB hLe hql hq2 HFIN
   rw [hrem] at HO1 hrl HBO2
   have HBDQ := hidE hq2
   have HQL := hidE hql
   have HRL := hidE hrl
   rw [hql] at HO0
   rw [hrl] at HO1
   have HOL := hidE hol
   obtain ⟨sq, hsq⟩ : ∃ o, isum quo = o := ⟨_, rfl⟩
   rw [hsq] at HSUM hLe
   have HSS := hidE (sharesP_len total parts)
   clear hL0 hbs hL hLt hord hquo hrem HBQ hq2 hol hsq hql hrl HBO e5 e6 hi5 HOK HWH HP H
   go_wp2_with fail
   refine HSUM.out.mono ?_
   rintro e w5 ⟨rfl, rfl⟩
   go_wp2_with fail
   go_loopw [9] (fun x wr => ∃ i : Nat, i ≤ L ∧ x = .int .i64 ((L - i : Nat) : Int) ∧ Hid (wr.ownsRow w4.heap.size 3 1 (.slice o5 k c5) k (intsV (outP ord L quo i))) ∧ Hid (wr.ownsRow w4.heap.size 3 1 (.slice o6 k c6) k (intsV (zeros (ord.take i) rem))) ∧ Hid (Below w4.heap.size w4 wr)) (fun x _ => (intOf x).toNat)
   case atStart => exact ⟨0, Nat.zero_le _, by simp, hidE (by rw [show outP ord L quo 0 = quo by unfold outP; simp]; exact HO0.out), HO1, HBB⟩
   case round =>
    obtain ⟨i, hi, rfl, HR5, HR6, HB3⟩ := hrel
    obtain ⟨wy, rfl⟩ : ∃ x : World, x = wr := ⟨wr, rfl⟩
    obtain ⟨M, hM⟩ : ∃ M : Nat, L - i = M := ⟨_, rfl⟩
    rw [hM]
    by_cases hpos : 0 < M
    ·have hk0 : 0 < k := by omega
     have HPOS := hidE hpos
     have hio : i < ord.length := by have := HOL.out; omega
     have hbo := HBO2.out i (by omega) hio
     have HSU := hidE (outP_succ (ord := ord) (L := L) (quo := quo) (k := i) hio)
     have HZS := hidE (zeros_succ ord rem hio)
     have hpk := HOP.out ord[i] (List.getElem_mem hio)
     have HIL := hidE (show i < L by omega)
     have HM := hidE (show L - (i + 1) = M - 1 by omega)
     have hd : decide ((M : Int) > 0) = true := by simp; omega
     have hd2 : decide (0 < M) = true := by simp; omega
     have hm1 : (M : Int) - 1 = ((M - 1 : Nat) : Int) := by omega
     have hM2 : M ≤ 1000 := by omega
     obtain ⟨p, hp⟩ : ∃ p, ord[i] = p := ⟨_, rfl⟩
     rw [hp] at hbo HSU HZS hpk
     have hcl := zeros_len (ord.take i) rem
     rw [HRL.out] at hcl
     rw [hcl] at hbo
     obtain ⟨CUT, hCUT⟩ : ∃ c, zeros (ord.take i) rem = c := ⟨_, rfl⟩
     rw [hCUT] at hbo HR6 HZS hcl
     have hb1 := HOB.out i p
     have hb2 := HBDQ.out p
     have hol2 := outP_len ord L quo i
     rw [HQL.out] at hol2
     obtain ⟨OUT, hOUT⟩ : ∃ c, outP ord L quo i = c := ⟨_, rfl⟩
     rw [hOUT] at hb1 hol2 HR5 HSU
     have HBE := hidE hbo
     have HCL := hidE hcl
     have HOL2 := hidE hol2
     obtain ⟨v, hv⟩ : ∃ v, OUT.getD p 0 = v := ⟨_, rfl⟩
     rw [hv] at hb1
     have HV := hidE hv
     have hv1 : 0 ≤ v ∧ v ≤ 100000000000000001 := by omega
     clear hp hCUT hOUT hbo hcl hol2 hM hv hb1 hb2
     rcases HR5.out.2 with ⟨e, _⟩ | ⟨g5, cp5, cur5, e, _⟩
     ·simp only [Value.slice.injEq] at e; omega
     simp only [Value.slice.injEq, true_and] at e
     obtain ⟨rfl, rfl⟩ := e
     rcases HR6.out.2 with ⟨e, _⟩ | ⟨g6, cp6, cur6, e, _⟩
     ·simp only [Value.slice.injEq] at e; omega
     simp only [Value.slice.injEq, true_and] at e
     obtain ⟨rfl, rfl⟩ := e
     have hg65 : g6 ≠ g5 := fun e => HAP.out g5 rfl (by rw [e]; rfl)
     have HG65 := hidE hg65
     have HLT6 := hidE ((HR6.out.lt g6 rfl).2)
     go_wp2_with fail
     go_loopw [10, 11] (fun b y wr => ∃ m : Nat, m ≤ k ∧ b = .int .i64 (bestTo CUT m) ∧ y = .int .i64 m ∧ Hid (OnlyG wy.heap.size wy wr)) (fun _ y _ => k - (intOf y).toNat)
     case atStart => exact ⟨0, Nat.zero_le _, rfl, rfl, hidE (OnlyG.refl _ _)⟩
     case round =>
      obtain ⟨m, hm, rfl, rfl, HD⟩ := hrel
      obtain ⟨wz, rfl⟩ : ∃ x : World, x = wr := ⟨wr, rfl⟩
      by_cases hmk : m < k
      ·have hcell : ∀ j, j < k → wz.cell? ⟨g6, j, none⟩ = some (.int .i64 (CUT.getD j 0)) := fun j hj => by
        rw [HD.out.cell (p := ⟨g6, j, none⟩) (Nat.ne_of_lt HLT6.out), HR6.out.cellAt j (by omega), intsV_get (by rw [HCL.out]; exact hj)]
       have c1 := hcell m hmk
       have HSP := hidE (bestTo_spec CUT m)
       have HBS := hidE (bestTo_succ CUT m)
       unfold best1 at HBS
       obtain ⟨x, hx⟩ : ∃ x, CUT.getD m 0 = x := ⟨_, rfl⟩
       rw [hx] at c1 HBS
       clear hx
       by_cases hx0 : 0 < x
       ·have dx : decide (x > 0) = true := by simpa using hx0
        have dx' : decide (0 < x) = true := by simpa using hx0
        rcases HSP.out with ⟨e1, _⟩ | ⟨q, hqm, e1, _, _⟩
        ·rw [e1] at HBS ⊢
         have HBF := hidE (show bestTo CUT (m + 1) = (m : Int) by rw [HBS.out, if_pos ⟨hx0, .inl (by omega)⟩])
         clear hcell hx0 e1
         go_wp2_with fail
         go_upto_region 15 with fail
         go_quiet (fail)
         go_wp2_with fail
         go_roundw
         case rel => exact ⟨m + 1, by omega, by rw [HBF.out], by go_num, hidE (HD.out.trans (OnlyG.drewN _ _))⟩
         case measure => simp [intOf]; omega
        ·rw [e1, Int.toNat_natCast] at HBS
         rw [e1]
         have c2 := hcell q (by omega)
         have hq0 : decide ((q : Int) < 0) = false := by simp
         obtain ⟨y, hy⟩ : ∃ y, CUT.getD q 0 = y := ⟨_, rfl⟩
         rw [hy] at c2 HBS
         clear hy
         by_cases hyx : y < x
         ·have dy : decide (x > y) = true := by simpa using hyx
          have dy' : decide (y < x) = true := by simpa using hyx
          have HBF := hidE (show bestTo CUT (m + 1) = (m : Int) by rw [HBS.out, if_pos ⟨hx0, .inr hyx⟩])
          clear hcell hx0 e1 hyx
          go_upto_region 15 with fail
          go_quiet (fail)
          go_wp2_with fail
          go_roundw
          case rel => exact ⟨m + 1, by omega, by rw [HBF.out], by go_num, hidE (HD.out.trans (OnlyG.drewN _ _))⟩
          case measure => simp [intOf]; omega
         ·have dy : decide (x > y) = false := by simpa using hyx
          have dy' : decide (y < x) = false := by simpa using hyx
          have HBF := hidE (show bestTo CUT (m + 1) = (q : Int) by rw [HBS.out, if_neg (by omega)])
          clear hcell hx0 e1 hyx
          go_upto_region 15 with fail
          go_quiet (fail)
          go_wp2_with fail
          go_roundw
          case rel => exact ⟨m + 1, by omega, by rw [HBF.out], by go_num, hidE (HD.out.trans (OnlyG.drewN _ _))⟩
          case measure => simp [intOf]; omega
       ·have dx : decide (x > 0) = false := by simpa using hx0
        have dx' : decide (0 < x) = false := by simpa using hx0
        have HBF := hidE (show bestTo CUT (m + 1) = bestTo CUT m by rw [HBS.out, if_neg (fun h => hx0 h.1)])
        clear hcell hx0
        go_upto_region 15 with fail
        go_quiet (fail)
        go_wp2_with fail
        go_roundw
        case rel => exact ⟨m + 1, by omega, by rw [HBF.out], by go_num, hidE (HD.out.trans (OnlyG.drewN _ _))⟩
        case measure => simp [intOf]; omega
      ·obtain rfl : m = k := by omega
       rw [HBE.out]
       have own5 := own_later HR5.out HD.out.bl
       have own6 := own_later HR6.out HD.out.bl
       have q5 : wz.cell? ⟨g5, p, none⟩ = some (.int .i64 v) := by rw [own5.cellAt p (by omega), intsV_get (by rw [HOL2.out]; exact hpk), HV.out]
       have f5 : wz.frozen? ⟨g5, p, none⟩ = false := own5.frozenAt p
       have hwv : IntKind.i64.wrap (v + 1) = v + 1 := IntWalk.i64_in _ (by omega)
       have S1 := (own5.stored p (.int .i64 (v + 1))).1
       have T6 := ownsRow_setCell_other own6 (a := ⟨g5, p, none⟩) (by simp only [Value.ownBlock, ne_eq, Option.some.injEq]; exact HG65.out) (.int .i64 (v + 1))
       have q6 : (wz.setCell ⟨g5, p, none⟩ (.int .i64 (v + 1))).cell? ⟨g6, p, none⟩ = some (.int .i64 (CUT.getD p 0)) := by rw [T6.cellAt p (by omega), intsV_get (by rw [HCL.out]; exact hpk)]
       have f6 : (wz.setCell ⟨g5, p, none⟩ (.int .i64 (v + 1))).frozen? ⟨g6, p, none⟩ = false := T6.frozenAt p
       have q7 : wz.cell? ⟨g6, p, none⟩ = some (.int .i64 (CUT.getD p 0)) := by rw [own6.cellAt p (by omega), intsV_get (by rw [HCL.out]; exact hpk)]
       have f7 : wz.frozen? ⟨g6, p, none⟩ = false := own6.frozenAt p
       have S2 := (T6.stored p (.int .i64 0)).1
       have S3 := ownsRow_setCell_other S1 (a := ⟨g6, p, none⟩) (by simp only [Value.ownBlock, ne_eq, Option.some.injEq]; exact fun e => HG65.out e.symm) (.int .i64 0)
       rw [intsV_set] at S2 S3
       have HF5 := hidE S3
       have HF6 := hidE S2
       have HBF := hidE ((HB3.out.trans (HD.out.bl.mono HB3.out.size)).setCell (p := ⟨g5, p, none⟩) (HR5.out.lt g5 rfl).1 (.int .i64 (v + 1)) |>.setCell (p := ⟨g6, p, none⟩) (HR6.out.lt g6 rfl).1 (.int .i64 0))
       obtain ⟨z6, hz6⟩ : ∃ z, CUT.getD p 0 = z := ⟨_, rfl⟩
       rw [hz6] at q6 q7
       clear hz6 S1 S2 S3 T6 own5 own6
       go_wp2_with fail
       go_roundw
       case rel => exact ⟨i + 1, HIL.out, by rw [HM.out], hidE (by rw [HSU.out, if_pos HIL.out]; unfold bump; rw [HV.out]; exact HF5.out), hidE (by rw [HZS.out]; exact HF6.out), HBF⟩
       case measure => simp only [intOf, Int.toNat_natCast]; exact Nat.sub_lt HPOS.out Nat.one_pos
    ·obtain rfl : M = 0 := by omega
     obtain rfl : i = L := by omega
     rw [HFIN.out] at HR5
     go_wp2_with fail
     go_ret
     exact ⟨⟨_, rfl, by rw [HSS.out, HN.out]; exact HR5.out⟩, HB3.out⟩
set_option maxRecDepth 100000 in
set_option maxHeartbeats 8000000 in
theorem divideE_any (w : World) (x : FV) (F : Fld) (i : Int) (a2 : Option Addr) (cap2 : Nat) (y : List Int) (a3 : Option Addr) (cap3 : Nat) (parts : List Int) (hy : y.length ≤ 9223372036854775807) (hl : parts.length ≤ 9223372036854775807) (h : FldAt w x F) (h2 : IntsAt w a2 y) (h3 : IntsAt w a3 parts) :
 Calls Tryz.prog 47 #[x.val F, .slice a2 y.length cap2, .int .i64 i, .slice a3 parts.length cap3] w fun e w' => ListErr (divideE F y i parts).1 (divideE F y i parts).2 w.heap.size e w' ∧ Below w.heap.size w w' := by
 obtain ⟨W0, hW0⟩ : ∃ W0, W0 = w.alloc (.cells (x.arr F) 46) := ⟨_, rfl⟩
 have B0 := hidE (show Below w.heap.size w W0 by rw [hW0]; exact (Below.refl _ _).alloc (Nat.le_refl _) _)
 have x0 : W0.heap[w.heap.size]? = some (.cells (x.arr F) 46 (0,0)) := by rw [hW0]; exact heap_alloc_new _ _
 have f0 : W0.cell? ⟨w.heap.size, 0, none⟩ = some (.slice x.aS F.sts.length x.cS) := c_e x0 rfl
 have f1 : W0.cell? ⟨w.heap.size, 1, none⟩ = some (.slice x.aL F.lms.length x.cL) := c_e x0 rfl
 have f2 : W0.cell? ⟨w.heap.size, 2, none⟩ = some (.slice x.aP F.prs.length x.cP) := c_e x0 rfl
 have f3 : W0.cell? ⟨w.heap.size, 3, none⟩ = some (.slice x.aV F.vrs.length x.cV) := c_e x0 rfl
 have HUP := hidE (upright_any W0 x F i a2 cap2 y hy (h.below B0.out) (h2.below B0.out (Nat.le_refl _)))
 have H3 := hidE (h3.below B0.out (Nat.le_refl _))
 obtain ⟨Q, hQ⟩ : ∃ z, divideE F y i parts = z := ⟨_, rfl⟩
 rw [hQ]
 have HW0 := hidE hW0
 clear x0 h h2 h3
 unfold FV.val at HUP ⊢
 unfold FV.arr at HUP hW0 ⊢
 by_cases hz : uprightE F y i = 0
 ·obtain ⟨u1, u2, hgr, u4, u5⟩ := upright_ok hz
  obtain ⟨G, hG⟩ : ∃ G, grP F y (F.par i) = G := ⟨_, rfl⟩
  rw [hG] at hgr
  have HGG := hidE hG
  have HZZ := hidE hz
  unfold divideE at hQ
  rw [if_neg (by omega), hG] at hQ
  have hwb := whole_bd hgr
  obtain ⟨WH, hWH⟩ : ∃ z, wholeP G = z := ⟨_, rfl⟩
  rw [hWH] at hQ hwb
  have HGR := hidE hgr
  have HQ := hidE hQ
  have HWH := hidE hWH
  clear hz u1 u2 u4 u5 hG hgr hQ hWH
  go_enter Tryz.func47, Tryz.ntmps47
  go_upto_region 1 with fail
  first | rw [← hW0] | skip
  clear hW0
  go_wp2_with fail
  refine HUP.out.mono ?_
  rintro e w1 ⟨hp, hb1⟩
  obtain ⟨gb, rfl, hgb, hga⟩ := hp.ok HZZ.out
  rw [HGG.out] at hga
  have B1 := hidE (B0.out.trans (hb1.mono B0.out.size))
  have HGA := hidE hga
  have H31 := hidE (H3.out.below hb1 (Nat.le_refl _))
  have HWO := hidE (by have := whole_any w1 gb _ G hga HGR.out; rw [HWH.out] at this; exact this)
  clear hb1 HUP hga hp f0 f1 f2 f3 H3
  go_wp2_with fail
  refine HWO.out.mono ?_
  rintro e w2 ⟨rfl, hb2⟩
  have B2 := hidE (B1.out.trans (hb2.mono B1.out.size))
  have HGA2 := hidE (HGA.out.below hb2)
  have HSH := hidE (sharesE_any w2 WH a3 cap3 parts hl (H31.out.below hb2 (Nat.le_refl _)))
  clear hb2 HWO HGA
  go_wp2_with fail
  refine HSH.out.mono ?_
  rintro e w3 ⟨⟨v3, rfl, ho3⟩, hb3⟩
  have B3 := hidE (B2.out.trans (hb3.mono B2.out.size))
  have HGA3 := hidE (HGA2.out.below hb3)
  clear hb3 HSH HGA2 H31
  by_cases hze : checkSharesP WH parts = 0
  ·obtain ⟨q1, q2, q3, q4⟩ := checkShares_ok hze
   have hE : sharesE WH parts = (sharesP WH parts, 0) := by unfold sharesE; rw [if_pos hze]
   have hQ2 := HQ.out
   rw [hE] at ho3 hQ2
   rw [hE]
   rw [if_neg (by simp)] at hQ2
   have hlen := sharesP_len WH parts
   have hsum := sharesP_sum q4
   have hnn := shares_nonneg q4
   obtain ⟨L, hL⟩ : ∃ L, sharesP WH parts = L := ⟨_, rfl⟩
   rw [hL] at ho3 hQ2 hlen hsum hnn ⊢
   have HTK := hidE (fun k => isum_take_le hnn k)
   have HNN := hidE (fun k => isum_nonneg (l := L.take k) (fun x hx => hnn x (List.mem_of_mem_take hx)))
   rw [hsum] at HTK
   obtain ⟨o, c, rfl, hia, hcap⟩ := owns_cap ho3
   have HIA := hidE hia
   rw [← hlen] at hQ2
   obtain ⟨n, hn⟩ : ∃ n, L.length = n := ⟨_, rfl⟩
   have hn50 : n ≤ 50 := by omega
   have HN := hidE hn
   rw [hn] at hQ2 hcap ⊢
   have HQ2 := hidE hQ2
   obtain ⟨K, hK⟩ : ∃ K, n - 1 = K := ⟨_, rfl⟩
   rw [hK] at HQ2
   have hKn : K ≤ n := by omega
   have hKc : K ≤ c := by omega
   have hw1 : IntKind.i64.wrap ((n : Int) - 1) = (n : Int) - 1 := IntWalk.i64_in _ (by omega)
   have hmx : max (0 : Int) ((n : Int) - 1) = (K : Int) := by omega
   have HCU := hidE (fun (W : World) (m : Int) (hb : Below w3.heap.size w3 W) (h0 : 0 ≤ m) (h1 : m ≤ WH) => cut_any W gb _ G m (HGA3.out.below hb) HGR.out h0 (by omega))
   have HKK := hidE hK
   clear hE q1 q2 q3 q4 hze ho3 hlen hsum hnn hL hia hn hQ2 hK HQ
   go_wp2_with fail
   go_loopw [13, 14, 44] (fun v t i wr => ∃ k : Nat, k ≤ K ∧ i = .int .i64 k ∧ t = .int .i64 (isum (L.take k)) ∧ Hid (wr.ownsRow w3.heap.size 3 1 v (cutsTo G L k).length (intsV (cutsTo G L k))) ∧ Hid (Below w3.heap.size w3 wr)) (fun _ _ i _ => K - (intOf i).toNat)
   case atStart => exact ⟨0, Nat.zero_le _, rfl, by simp [isum], hidE (World.ownsRow_nil _ _ _ _), hidE (Below.refl _ _)⟩
   case round =>
    obtain ⟨k, hk, rfl, rfl, HO, HBB⟩ := hrel
    obtain ⟨wx, rfl⟩ : ∃ x : World, x = wr := ⟨wr, rfl⟩
    by_cases hlt : k < K
    ·have hkL : k < L.length := by rw [HN.out]; omega
     obtain ⟨b, off, rfl, hbl, hc⟩ := HIA.out.at hkL
     rw [← HBB.out.cell hbl] at hc
     have hst := isum_take L hkL
     have t0 := HNN.out k
     have t1 := HNN.out (k + 1)
     have t2 := HTK.out k
     have t3 := HTK.out (k + 1)
     obtain ⟨q, hq⟩ : ∃ q, L[k]'hkL = q := ⟨_, rfl⟩
     obtain ⟨s0, hs0⟩ : ∃ s, isum (L.take k) = s := ⟨_, rfl⟩
     obtain ⟨s1, hs1⟩ : ∃ s, isum (L.take (k + 1)) = s := ⟨_, rfl⟩
     rw [hq] at hc hst
     rw [hs0] at hst t0 t2 ⊢
     rw [hs1] at hst t1 t3
     have HSS := hidE (cutsTo_succ G L k)
     rw [hs1] at HSS
     have HS1 := hidE hs1
     subst hst
     have hws : IntKind.i64.wrap (s0 + q) = s0 + q := IntWalk.i64_in _ (by omega)
     have HC1 := hidE (HCU.out wx (s0 + q) HBB.out t1 t3)
     have HLT := hidE hlt
     clear hq hs0 hs1 t0 t2
     go_wp2_with fail
     refine HC1.out.mono ?_
     rintro e w5 ⟨rfl, hb5⟩
     have HO5 := hidE (own_later HO.out hb5)
     have HB5 := hidE (HBB.out.trans (hb5.mono HBB.out.size))
     clear hb5 HC1
     obtain ⟨v5, wa, hrun1, own5, hb1, _⟩ := append_int HO5.out (cutP G (s0 + q)) (by rw [cutsTo_len]; omega) HB5.out.size
     have HRUN1 := hidE hrun1
     have HO6 := hidE own5
     have HB6 := hidE (HB5.out.trans hb1)
     clear hrun1 own5 hb1 HO5
     go_wp2_with (at_builtin; (refine wpList_op_append rfl (s := .tmp 51) (x := .tmp 55) (t := 25) rfl rfl rfl HRUN1.out ?_))
     go_roundw
     case rel => exact ⟨k + 1, HLT.out, by go_num, by rw [HS1.out], hidE (by rw [HSS.out]; exact HO6.out), HB6⟩
     case measure => have := HLT.out; simp [intOf]; omega
    ·obtain rfl : k = K := by omega
     go_wp2_with fail
     go_ret2
     rw [← HQ2.out]
     exact ⟨⟨_, rfl, HO.out.mono B3.out.size⟩, B3.out.trans (HBB.out.mono B3.out.size)⟩
  ·have hE : sharesE WH parts = ([], checkSharesP WH parts) := by unfold sharesE; rw [if_neg hze]
   have hQ2 := HQ.out
   rw [hE] at hQ2 ⊢
   rw [if_pos hze] at hQ2
   obtain ⟨E, hEE⟩ : ∃ E, checkSharesP WH parts = E := ⟨_, rfl⟩
   rw [hEE] at hQ2 hze ⊢
   subst hQ2
   have hz3 : (E != 0) = true := by simpa using hze
   clear hE hze hEE HQ ho3
   go_wp2_with fail
   go_ret2
   exact ⟨⟨.slice none 0 0, rfl, World.ownsRow_nil _ _ _ _⟩, B3.out⟩
 ·unfold divideE at hQ
  rw [if_pos hz] at hQ
  obtain ⟨E, hE⟩ : ∃ E, uprightE F y i = E := ⟨_, rfl⟩
  rw [hE] at hQ hz
  subst hQ
  have hz3 : (E != 0) = true := by simpa using hz
  have HE := hidE hE
  have HZ := hidE hz
  clear hE hz
  go_enter Tryz.func47, Tryz.ntmps47
  go_upto_region 1 with fail
  first | rw [← hW0] | skip
  clear hW0
  go_wp2_with fail
  refine HUP.out.mono ?_
  rintro e w1 ⟨hp, hb1⟩
  obtain rfl := hp.err HE.out HZ.out
  have B1 := hidE (B0.out.trans (hb1.mono B0.out.size))
  clear hb1 HUP hp f0 f1 f2 f3
  go_wp2_with fail
  go_ret2
  exact ⟨⟨.slice none 0 0, rfl, World.ownsRow_nil _ _ _ _⟩, B1.out⟩
set_option maxHeartbeats 2000000 in
theorem shares5E_any (w : World) (total : Int) (a : Option Addr) (cap : Nat) (parts : List Int) (hl : parts.length ≤ 9223372036854775807) (h : IntsAt w a parts) :
 Calls Tryz.prog 42 #[.int .i64 total, .slice a parts.length cap] w fun e w' => ListErr (sharesE total parts).1 (sharesE total parts).2 w.heap.size e w' ∧ Below w.heap.size w w' := by
 have HC := hidE (shared_any w total a cap parts hl h)
 have H := hidE h
 obtain ⟨Q, hQ⟩ : ∃ Q, sharesE total parts = Q := ⟨_, rfl⟩
 rw [hQ]
 clear h
 by_cases hz : checkSharesP total parts = 0
 ·obtain ⟨h1, h2, h3, h4⟩ := checkShares_ok hz
  unfold sharesE at hQ
  rw [if_pos hz] at hQ
  subst hQ
  rw [hz] at HC
  have HS := hidE (fun W hW => shares5_any W total a cap parts h1 hW h2 h3 h4)
  clear hz h1 h2 h3 h4
  go_enter Tryz.func42, Tryz.ntmps42
  go_wp2_with fail
  refine HC.out.mono ?_
  rintro e w1 ⟨rfl, rfl⟩
  go_wp2_with fail
  refine (HS.out _ H.out).mono ?_
  rintro e w2 ⟨⟨v, rfl, ho⟩, hb⟩
  have HO := hidE ho
  have HB := hidE hb
  clear ho hb
  go_wp2_with fail
  go_ret2
  exact ⟨⟨_, rfl, HO.out⟩, HB.out⟩
 ·unfold sharesE at hQ
  rw [if_neg hz] at hQ
  subst hQ
  obtain ⟨z, hz2⟩ : ∃ z, checkSharesP total parts = z := ⟨_, rfl⟩
  rw [hz2] at hz HC
  have hz3 : (z != 0) = true := by simpa using hz
  have HZ := hidE hz2
  clear hz2
  go_enter Tryz.func42, Tryz.ntmps42
  go_wp2_with fail
  refine HC.out.mono ?_
  rintro e w1 ⟨rfl, rfl⟩
  go_wp2_with fail
  go_ret2
  exact ⟨⟨.slice none 0 0, by rw [HZ.out]; rfl, World.ownsRow_nil _ _ _ _⟩, Below.refl _ _⟩
set_option maxRecDepth 100000 in
set_option maxHeartbeats 4000000 in
theorem rdivideE_any (w : World) (x : FV) (F : Fld) (i : Int) (a2 : Option Addr) (cap2 : Nat) (y : List Int) (a3 : Option Addr) (cap3 : Nat) (parts : List Int) (hy : y.length ≤ 9223372036854775807) (hl : parts.length ≤ 9223372036854775807) (h : FldAt w x F) (h2 : IntsAt w a2 y) (h3 : IntsAt w a3 parts) :
 Calls Tryz.prog 48 #[x.val F, .slice a2 y.length cap2, .int .i64 i, .slice a3 parts.length cap3] w fun e w' => ListErr (divideE F y i parts).1 (divideE F y i parts).2 w.heap.size e w' ∧ Below w.heap.size w w' := by
 obtain ⟨Q, hQ⟩ : ∃ z, divideE F y i parts = z := ⟨_, rfl⟩
 rw [hQ]
 have HUP := hidE (fun (W : World) (J : FJ w x F a2 y W) => rupright_any W x F i a2 cap2 y hy J.fld J.ints)
 obtain ⟨w0, hw0⟩ : ∃ W, W = w.alloc (.cells (x.arr F) 46) := ⟨_, rfl⟩
 have J0 := hidE (show FJ w x F a2 y w0 by rw [hw0]; exact FJ.begin h h2)
 have H3 := hidE (show IntsAt w0 a3 parts by rw [hw0]; exact h3.alloc _)
 obtain ⟨f0, f1, f2, f3⟩ := J0.out.c
 unfold divideE at hQ
 by_cases hz : uprightE F y i = 0
 ·rw [if_neg (by omega)] at hQ
  obtain ⟨hf, hv, hgr, hin, hc⟩ := upright_ok hz
  obtain ⟨_, n, rfl, hn, hpar⟩ := fielded_one hf
  have hpn := points_nat hc
  have hin2 := hin
  rw [hpar] at hin2
  have hwb := weightsOf_bd hc hin2
  have hvb := valuesB_iff.1 (show valuesB (F.points.toNat : Int) y = true by rw [show (F.points.toNat : Int) = F.points by omega]; exact hv)
  have HWT := hidE (fun (W : World) (J : FJ w x F a2 y W) => rweights_any W x F n hc hn J.fld)
  have HFO := hidE (fun (W : World) (g : Nat) (J : FJ w x F a2 y W) (hg : W.heap[g]? = some (.cells (rowA (weightsOf F F.prs[n])) 3 (0,0))) => refform_any W (some ⟨g, 0, none⟩) F.points.toNat _ a2 cap2 y (by rw [weightsOf_len]; omega) (by rw [weightsOf_len]; omega) (ints_of_row hg) J.ints (fun v hv => by
   obtain ⟨j, hj, rfl⟩ := List.getElem_of_mem hv
   have := hwb j
   rw [getD_get _ 0 hj] at this
   omega) hvb.2.2)
  rw [weightsOf_len] at HFO
  rw [show formP (weightsOf F F.prs[n]) y = wholeP (grP F y (F.par n)) by rw [hpar, form_area F y hin2, ← hpar, hgr.whole]] at HFO
  have HCU := hidE (fun (W : World) (J : FJ w x F a2 y W) (M : Int) (h0 : 0 ≤ M) (h1 : M ≤ 2400000000000) => rcut_any W x F n M a2 cap2 y hz h0 h1 J.fld J.ints)
  have hwl := (whole_bd hgr).2
  rw [hz] at HUP
  obtain ⟨L, hL⟩ : ∃ L, weightsOf F F.prs[n] = L := ⟨_, rfl⟩
  rw [hL] at HWT HFO
  obtain ⟨WH, hWH⟩ : ∃ z, wholeP (grP F y (F.par n)) = z := ⟨_, rfl⟩
  rw [hWH] at HFO hQ hwl
  obtain ⟨G, hG⟩ : ∃ z, grP F y (F.par n) = z := ⟨_, rfl⟩
  rw [hG] at HCU hQ
  obtain ⟨N, hN⟩ : ∃ N, F.points.toNat = N := ⟨_, rfl⟩
  rw [hN] at HWT HFO
  have HQ := hidE hQ
  have HWL := hidE hwl
  unfold FV.val FV.arr at *
  clear hz hf hv hgr hin hc hpar hpn hin2 hwb hvb hL hWH hG hN h h2 h3 hQ hwl
  go_enter Tryz.func48, Tryz.ntmps48
  go_upto_region 1 with fail
  rw [← hw0]
  clear hw0
  go_wp2_with fail
  refine (HUP.out _ J0.out).mono ?_
  rintro e w1 ⟨rfl, hb⟩
  have J1 := hidE (J0.out.next hb)
  have H31 := hidE (H3.out.below hb (Nat.le_refl _))
  clear hb f0 f1 f2 f3 J0 H3 HUP
  obtain ⟨f0, f1, f2, f3⟩ := J1.out.c
  go_wp2_with fail
  refine (HWT.out _ J1.out).mono ?_
  rintro e w2 ⟨g, rfl, hg, hgb, hb⟩
  have J2 := hidE (J1.out.next hb)
  have H32 := hidE (H31.out.below hb (Nat.le_refl _))
  have HG := hidE hg
  clear hb f0 f1 f2 f3 J1 H31 HWT hg hgb
  go_wp2_with fail
  refine (HFO.out _ g J2.out HG.out).mono ?_
  rintro e w3 ⟨rfl, hb⟩
  have J3 := hidE (J2.out.next hb)
  have HSH := hidE (shares5E_any w3 WH a3 cap3 parts hl (H32.out.below hb (Nat.le_refl _)))
  clear hb J2 H32 HFO
  go_wp2_with fail
  refine HSH.out.mono ?_
  rintro e w4 ⟨⟨v3, rfl, ho3⟩, hb⟩
  have J4 := hidE (J3.out.next hb)
  clear hb HSH J3
  by_cases hze : checkSharesP WH parts = 0
  ·obtain ⟨q1, q2, q3, q4⟩ := checkShares_ok hze
   have hE : sharesE WH parts = (sharesP WH parts, 0) := by unfold sharesE; rw [if_pos hze]
   have hQ2 := HQ.out
   rw [hE] at ho3 hQ2
   rw [hE]
   rw [if_neg (by simp)] at hQ2
   have hlen := sharesP_len WH parts
   have hsum := sharesP_sum q4
   have hnn := shares_nonneg q4
   obtain ⟨L, hL⟩ : ∃ L, sharesP WH parts = L := ⟨_, rfl⟩
   rw [hL] at ho3 hQ2 hlen hsum hnn ⊢
   have HTK := hidE (fun k => isum_take_le hnn k)
   have HNN := hidE (fun k => isum_nonneg (l := L.take k) (fun x hx => hnn x (List.mem_of_mem_take hx)))
   rw [hsum] at HTK
   obtain ⟨o, c, rfl, hia, hcap⟩ := owns_cap ho3
   have HIA := hidE hia
   rw [← hlen] at hQ2
   obtain ⟨n, hn⟩ : ∃ n, L.length = n := ⟨_, rfl⟩
   have hn50 : n ≤ 50 := by omega
   have HN := hidE hn
   rw [hn] at hQ2 ⊢
   have HQ2 := hidE hQ2
   obtain ⟨K, hK⟩ : ∃ K, n - 1 = K := ⟨_, rfl⟩
   rw [hK] at HQ2
   have HKK := hidE hK
   have HB4 := hidE J4.out.b
   clear hE q1 q2 q3 q4 hze ho3 hlen hsum hnn hL hia hn hQ2 hK HQ hcap
   go_wp2_with fail
   go_loopw [13, 14, 15] (fun v t i wr => ∃ k : Nat, k ≤ K ∧ i = .int .i64 k ∧ t = .int .i64 (isum (L.take k)) ∧ Hid (wr.ownsRow w4.heap.size 3 1 v (cutsTo G L k).length (intsV (cutsTo G L k))) ∧ Hid (Below w4.heap.size w4 wr)) (fun _ _ i _ => K - (intOf i).toNat)
   case atStart => exact ⟨0, Nat.zero_le _, rfl, by simp [isum], hidE (World.ownsRow_nil _ _ _ _), hidE (Below.refl _ _)⟩
   case round =>
    obtain ⟨k, hk, rfl, rfl, HO, HBB⟩ := hrel
    obtain ⟨wx, rfl⟩ : ∃ x : World, x = wr := ⟨wr, rfl⟩
    obtain ⟨k1, hk1⟩ : ∃ k1 : Nat, k + 1 = k1 := ⟨_, rfl⟩
    have hki : (k : Int) + 1 = (k1 : Int) := by omega
    have hkw : IntKind.i64.wrap (k1 : Int) = (k1 : Int) := IntWalk.i64_in _ (by have := HKK.out; omega)
    have HK1 := hidE hk1
    have hK := HKK.out
    by_cases hlt : k < K
    ·have dn : decide ((k1 : Int) < (n : Int)) = true := by simp; omega
     have dn' : decide (k1 < n) = true := by simp; omega
     have hkL : k < L.length := by rw [HN.out]; omega
     have hkn : k < n := by omega
     obtain ⟨b, off, rfl, hbl, hc⟩ := HIA.out.at hkL
     rw [← HBB.out.cell hbl] at hc
     have hst := isum_take L hkL
     have t0 := HNN.out k
     have t1 := HNN.out (k + 1)
     have t2 := HTK.out k
     have t3 := HTK.out (k + 1)
     obtain ⟨q, hq⟩ : ∃ q, L[k]'hkL = q := ⟨_, rfl⟩
     obtain ⟨s0, hs0⟩ : ∃ s, isum (L.take k) = s := ⟨_, rfl⟩
     obtain ⟨s1, hs1⟩ : ∃ s, isum (L.take (k + 1)) = s := ⟨_, rfl⟩
     rw [hq] at hc hst
     rw [hs0] at hst t0 t2 ⊢
     rw [hs1] at hst t1 t3
     have HSS := hidE (cutsTo_succ G L k)
     rw [hs1] at HSS
     have HS1 := hidE hs1
     subst hst
     have hws : IntKind.i64.wrap (s0 + q) = s0 + q := IntWalk.i64_in _ (by have := HWL.out; omega)
     have HC1 := hidE (HCU.out wx (J4.out.next HBB.out) (s0 + q) t1 (by have := HWL.out; omega))
     have HLT := hidE hlt
     have HJ := hidE (J4.out.next HBB.out)
     obtain ⟨f0, f1, f2, f3⟩ := HJ.out.c
     clear hq hs0 hs1 t0 t2 hk1 hK
     go_wp2_with fail
     refine HC1.out.mono ?_
     rintro e w5 ⟨rfl, hb5⟩
     have HO5 := hidE (own_later HO.out hb5)
     have HB5 := hidE (HBB.out.trans (hb5.mono HBB.out.size))
     clear hb5 HC1 HJ f0 f1 f2 f3
     obtain ⟨v5, wa, hrun1, own5, hb1, _⟩ := append_int HO5.out (cutP G (s0 + q)) (by rw [cutsTo_len]; omega) HB5.out.size
     have HRUN1 := hidE hrun1
     have HO6 := hidE own5
     have HB6 := hidE (HB5.out.trans hb1)
     clear hrun1 own5 hb1 HO5
     go_wp2_with (at_builtin; (refine wpList_op_append rfl (s := .tmp 49) (x := .tmp 55) (t := 25) rfl rfl rfl HRUN1.out ?_))
     go_roundw
     case rel => exact ⟨k + 1, HLT.out, by rw [HK1.out], by rw [HS1.out], hidE (by rw [HSS.out]; exact HO6.out), HB6⟩
     case measure => have := HLT.out; have := HK1.out; simp [intOf]; omega
    ·obtain rfl : k = K := by omega
     have dn : decide ((k1 : Int) < (n : Int)) = false := by simp; omega
     have dn' : decide (k1 < n) = false := by simp; omega
     clear hK hk1
     go_wp2_with fail
     go_ret2
     rw [← HQ2.out]
     exact ⟨⟨_, rfl, HO.out.mono HB4.out.size⟩, HB4.out.trans (HBB.out.mono HB4.out.size)⟩
  ·have hE : sharesE WH parts = ([], checkSharesP WH parts) := by unfold sharesE; rw [if_neg hze]
   have hQ2 := HQ.out
   rw [hE] at hQ2 ⊢
   rw [if_pos hze] at hQ2
   obtain ⟨E, hEE⟩ : ∃ E, checkSharesP WH parts = E := ⟨_, rfl⟩
   rw [hEE] at hQ2 hze ⊢
   subst hQ2
   have hz3 : (E != 0) = true := by simpa using hze
   clear hE hze hEE HQ ho3
   go_wp2_with fail
   go_ret2
   exact ⟨⟨.slice none 0 0, rfl, World.ownsRow_nil _ _ _ _⟩, J4.out.b⟩
 ·rw [if_pos hz] at hQ
  obtain ⟨E, hE⟩ : ∃ E, uprightE F y i = E := ⟨_, rfl⟩
  rw [hE] at hQ hz HUP
  subst hQ
  have hz3 : (E != 0) = true := by simpa using hz
  unfold FV.val FV.arr at *
  clear hE hz h h2 h3
  go_enter Tryz.func48, Tryz.ntmps48
  go_upto_region 1 with fail
  rw [← hw0]
  clear hw0
  go_wp2_with fail
  refine (HUP.out _ J0.out).mono ?_
  rintro e w1 ⟨rfl, hb⟩
  have J1 := hidE (J0.out.next hb)
  clear hb f0 f1 f2 f3 J0 HUP
  go_wp2_with fail
  go_ret2
  exact ⟨⟨.slice none 0 0, rfl, World.ownsRow_nil _ _ _ _⟩, J1.out.b⟩
theorem same_twice (W : World) (o1 o2 : Option Addr) (c1 c2 : Nat) (Q : List Int) (hq : Q.length ≤ 4000) (h1 : IntsAt W o1 Q) (h2 : IntsAt W o2 Q) :
 Calls Tryz.prog 32 #[.slice o1 Q.length c1, .slice o2 Q.length c2] W fun e w' => e = .returned (.bool true) ∧ Below W.heap.size W w' := by
 refine (same_any W o1 c1 Q o2 c2 Q (by omega) (by omega) h1 h2).mono ?_
 rintro e w' ⟨rfl, rfl⟩
 exact ⟨by simp, Below.refl _ _⟩
theorem divideE_len (F : Fld) (y : List Int) (i : Int) (parts : List Int) : (divideE F y i parts).1.length ≤ 4000 := by
 unfold divideE
 split
 ·simp
 ·split
  ·simp
  ·rename_i h
   rw [cutsTo_len]
   have : checkSharesP (wholeP (grP F y (F.par i))) parts = 0 := by
    unfold sharesE at h
    split at h
    ·assumption
    ·rename_i q; exact Classical.not_not.1 h
   have := (checkShares_ok this).1
   omega
structure CJ (w : World) (x : FV) (F : Fld) (a : Option Addr) (y : List Int) (a3 : Option Addr) (parts : List Int) (W : World) : Prop where
 j : FJ w x F a y W
 p : IntsAt W a3 parts
theorem CJ.next {w W W' : World} {x : FV} {F : Fld} {a : Option Addr} {y : List Int} {a3 : Option Addr} {parts : List Int} (h : CJ w x F a y a3 parts W) (hb : Below W.heap.size W W') : CJ w x F a y a3 parts W' :=
 ⟨h.j.next hb, h.p.below hb (Nat.le_refl _)⟩
set_option maxRecDepth 100000 in
set_option maxHeartbeats 64000000 in
theorem areaCuts_of (hal : AliveOk) (w : World) (x : FV) (F : Fld) (a : Option Addr) (cap : Nat) (y : List Int) (i X M : Int) (a3 : Option Addr) (cap3 : Nat) (parts : List Int) (hF : FldAt w x F) (hy : y.length ≤ 9223372036854775807) (h2 : IntsAt w a y) (hl : parts.length ≤ 9223372036854775807) (h3 : IntsAt w a3 parts) :
 Calls Tryz.prog 10 #[x.val F, .slice a y.length cap, .int .i64 i, .int .i64 X, .int .i64 M, .slice a3 parts.length cap3] w fun e w' => e = .returned (.bool true) ∧ Below w.heap.size w w' := by
 have HAL := hidE hal
 obtain ⟨w0, hw0⟩ : ∃ W, W = w.alloc (.cells (x.arr F) 46) := ⟨_, rfl⟩
 have J0 := hidE (show CJ w x F a y a3 parts w0 by rw [hw0]; exact ⟨FJ.begin hF h2, h3.alloc _⟩)
 have HPL := hidE (fun (W : World) => plain_any W x F (by have := hF.ls; omega) (by have := hF.ll; omega) (by have := hF.lp; omega) (by have := hF.lv; omega))
 have H1 := hidE (fun W (J : CJ w x F a y a3 parts W) => westE_any W x F i X a cap y hy J.j.fld J.j.ints)
 have H2 := hidE (fun W (J : CJ w x F a y a3 parts W) => rwestE_any W x F i X a cap y hy J.j.fld J.j.ints)
 have H3 := hidE (fun W (J : CJ w x F a y a3 parts W) => cutE_any W x F i M a cap y hy J.j.fld J.j.ints)
 have H4 := hidE (fun W (J : CJ w x F a y a3 parts W) => rcutE_any W x F i M a cap y hy J.j.fld J.j.ints)
 have H5 := hidE (fun W (J : CJ w x F a y a3 parts W) => divideE_any W x F i a cap y a3 cap3 parts hy hl J.j.fld J.j.ints J.p)
 have H6 := hidE (fun W (J : CJ w x F a y a3 parts W) => rdivideE_any W x F i a cap y a3 cap3 parts hy hl J.j.fld J.j.ints J.p)
 have hl1 := divideE_len F y i parts
 obtain ⟨P1, hP1⟩ : ∃ z, (westE F y i X).1.1 = z := ⟨_, rfl⟩
 obtain ⟨P2, hP2⟩ : ∃ z, (westE F y i X).1.2 = z := ⟨_, rfl⟩
 obtain ⟨P3, hP3⟩ : ∃ z, (westE F y i X).2 = z := ⟨_, rfl⟩
 rw [hP1, hP2, hP3] at H1 H2
 obtain ⟨C1, hC1⟩ : ∃ z, (cutE F y i M).1 = z := ⟨_, rfl⟩
 obtain ⟨C2, hC2⟩ : ∃ z, (cutE F y i M).2 = z := ⟨_, rfl⟩
 rw [hC1, hC2] at H3 H4
 obtain ⟨L, hL⟩ : ∃ z, (divideE F y i parts).1 = z := ⟨_, rfl⟩
 obtain ⟨e1, he1⟩ : ∃ z, (divideE F y i parts).2 = z := ⟨_, rfl⟩
 rw [hL] at hl1
 rw [hL, he1] at H5 H6
 have HL1 := hidE hl1
 obtain ⟨f0, f1, f2, f3⟩ := J0.out.j.c
 clear hal hF h2 h3 hP1 hP2 hP3 hC1 hC2 hL he1 hl1
 unfold FV.val FV.arr at *
 by_cases hp : plainP F = false
 ·rw [hp] at HPL
  go_enter Tryz.func10, Tryz.ntmps10
  go_upto_region 1 with fail
  rw [← hw0]
  clear hw0
  go_wp2_with fail
  refine (HPL.out _).mono ?_
  rintro e w1 ⟨rfl, hb⟩
  have J1 := hidE (J0.out.next hb)
  clear hb
  go_wp2_with fail
  refine (HAL.out _).mono ?_
  rintro e w2 ⟨rfl, hb⟩
  have J2 := hidE (J1.out.next hb)
  clear hb
  go_wp2_with fail
  go_ret
  exact ⟨by simp, J2.out.j.b⟩
 have hp2 : plainP F = true := by simpa using hp
 rw [hp2] at HPL
 clear hp hp2
 by_cases hv : 200 < y.length ∨ 60 < parts.length
 ·by_cases hv2 : 200 < y.length
  ·have hd : decide ((y.length : Int) > 200) = true := by simp; omega
   have hd' : decide (200 < y.length) = true := by simp; omega
   clear hv hv2
   go_enter Tryz.func10, Tryz.ntmps10
   go_upto_region 1 with fail
   rw [← hw0]
   clear hw0
   go_wp2_with fail
   refine (HPL.out _).mono ?_
   rintro e w1 ⟨rfl, hb⟩
   have J1 := hidE (J0.out.next hb)
   clear hb
   go_wp2_with fail
   refine (HAL.out _).mono ?_
   rintro e w2 ⟨rfl, hb⟩
   have J2 := hidE (J1.out.next hb)
   clear hb
   go_wp2_with fail
   go_ret
   exact ⟨by simp, J2.out.j.b⟩
  ·have hd : decide ((y.length : Int) > 200) = false := by simp; omega
   have hd' : decide (200 < y.length) = false := by simp; omega
   have hd2 : decide ((parts.length : Int) > 60) = true := by simp; omega
   have hd2' : decide (60 < parts.length) = true := by simp; omega
   clear hv hv2
   go_enter Tryz.func10, Tryz.ntmps10
   go_upto_region 1 with fail
   rw [← hw0]
   clear hw0
   go_wp2_with fail
   refine (HPL.out _).mono ?_
   rintro e w1 ⟨rfl, hb⟩
   have J1 := hidE (J0.out.next hb)
   clear hb
   go_wp2_with fail
   refine (HAL.out _).mono ?_
   rintro e w2 ⟨rfl, hb⟩
   have J2 := hidE (J1.out.next hb)
   clear hb
   go_wp2_with fail
   go_ret
   exact ⟨by simp, J2.out.j.b⟩
 have hd : decide ((y.length : Int) > 200) = false := by simp; omega
 have hd' : decide (200 < y.length) = false := by simp; omega
 have hd2 : decide ((parts.length : Int) > 60) = false := by simp; omega
 have hd2' : decide (60 < parts.length) = false := by simp; omega
 clear hv
 go_enter Tryz.func10, Tryz.ntmps10
 go_upto_region 1 with fail
 rw [← hw0]
 clear hw0
 go_wp2_with fail
 refine (HPL.out _).mono ?_
 rintro e w1 ⟨rfl, hb⟩
 have J1 := hidE (J0.out.next hb)
 clear hb f0 f1 f2 f3 J0 HPL
 obtain ⟨f0, f1, f2, f3⟩ := J1.out.j.c
 go_wp2_with fail
 refine (H1.out _ J1.out).mono ?_
 rintro e w2 ⟨rfl, hb⟩
 have J2 := hidE (J1.out.next hb)
 clear hb f0 f1 f2 f3 J1 H1 hd hd' hd2 hd2'
 go_upto_region 4 with fail
 obtain ⟨w3, hw3⟩ : ∃ W, W = w2.alloc (.cells #[.int .i64 P1, .int .i64 P2] 49) := ⟨_, rfl⟩
 rw [← hw3]
 have J3 := hidE (show CJ w x F a y a3 parts w3 by rw [hw3]; exact J2.out.next ((Below.refl _ _).alloc (Nat.le_refl _) _))
 have Q3 := hidE (show Kb [(w2.heap.size, .cells #[.int .i64 P1, .int .i64 P2] 49)] w3 by rw [hw3]; exact Kb.alloc (L := []) trivial)
 clear hw3 J2
 obtain ⟨g1, hg1⟩ : ∃ g, w2.heap.size = g := ⟨_, rfl⟩
 rw [hg1] at Q3 ⊢
 clear hg1
 obtain ⟨f0, f1, f2, f3⟩ := J3.out.j.c
 go_wp2_with fail
 refine (H2.out _ J3.out).mono ?_
 rintro e w4 ⟨rfl, hb⟩
 have J4 := hidE (J3.out.next hb)
 have Q4 := hidE (Q3.out.next hb)
 clear hb f0 f1 f2 f3 J3 Q3 H2
 go_upto_region 5 with fail
 obtain ⟨w5, hw5⟩ : ∃ W, W = w4.alloc (.cells #[.int .i64 P1, .int .i64 P2] 49) := ⟨_, rfl⟩
 rw [← hw5]
 have J5 := hidE (show CJ w x F a y a3 parts w5 by rw [hw5]; exact J4.out.next ((Below.refl _ _).alloc (Nat.le_refl _) _))
 have Q5 := hidE (show Kb [(w4.heap.size, .cells #[.int .i64 P1, .int .i64 P2] 49), (g1, .cells #[.int .i64 P1, .int .i64 P2] 49)] w5 by rw [hw5]; exact Kb.alloc Q4.out)
 clear hw5 J4 Q4
 obtain ⟨g2, hg2⟩ : ∃ g, w4.heap.size = g := ⟨_, rfl⟩
 rw [hg2] at Q5 ⊢
 clear hg2
 obtain ⟨f0, f1, f2, f3⟩ := J5.out.j.c
 go_wp2_with fail
 refine (H3.out _ J5.out).mono ?_
 rintro e w6 ⟨rfl, hb⟩
 have J6 := hidE (J5.out.next hb)
 have Q6 := hidE (Q5.out.next hb)
 clear hb f0 f1 f2 f3 J5 Q5 H3
 obtain ⟨f0, f1, f2, f3⟩ := J6.out.j.c
 go_wp2_with fail
 refine (H4.out _ J6.out).mono ?_
 rintro e w7 ⟨rfl, hb⟩
 have J7 := hidE (J6.out.next hb)
 have Q7 := hidE (Q6.out.next hb)
 clear hb f0 f1 f2 f3 J6 Q6 H4
 obtain ⟨f0, f1, f2, f3⟩ := J7.out.j.c
 go_wp2_with fail
 refine (H5.out _ J7.out).mono ?_
 rintro e w8 ⟨⟨v1, rfl, ho1⟩, hb⟩
 have J8 := hidE (J7.out.next hb)
 have Q8 := hidE (Q7.out.next hb)
 obtain ⟨o1, c1, rfl, hi1, _⟩ := owns_cap ho1
 have I8 := hidE hi1
 clear hb f0 f1 f2 f3 J7 Q7 H5 ho1 hi1
 obtain ⟨f0, f1, f2, f3⟩ := J8.out.j.c
 go_wp2_with fail
 refine (H6.out _ J8.out).mono ?_
 rintro e w9 ⟨⟨v2, rfl, ho2⟩, hb⟩
 have J9 := hidE (J8.out.next hb)
 have Q9 := hidE (Q8.out.next hb)
 have I9 := hidE (I8.out.below hb (Nat.le_refl _))
 obtain ⟨o2, c2, rfl, hi2, _⟩ := owns_cap ho2
 have K9 := hidE hi2
 clear hb f0 f1 f2 f3 J8 Q8 I8 H6 ho2 hi2
 go_wp2_with fail
 refine (HAL.out _).mono ?_
 rintro e wa ⟨rfl, hb⟩
 have JA := hidE (J9.out.next hb)
 have QA := hidE (Q9.out.next hb)
 have HSA := hidE (same_twice wa o1 o2 c1 c2 L (by have := HL1.out; omega) (I9.out.below hb (Nat.le_refl _)) (K9.out.below hb (Nat.le_refl _)))
 clear hb J9 Q9 I9 K9
 have z0 := ce (i := 0) QA.out.1 rfl
 have z1 := ce (i := 1) QA.out.1 rfl
 have z2 := ce (i := 0) QA.out.2.1 rfl
 have z3 := ce (i := 1) QA.out.2.1 rfl
 go_wp2_with fail
 refine HSA.out.mono ?_
 rintro e wb ⟨rfl, hb⟩
 have JB := hidE (JA.out.next hb)
 clear hb
 go_wp2_with fail
 go_ret
 exact ⟨by simp, JB.out.j.b⟩
end Go.Proofs.YthjmkmjojlfejaaGreat
namespace Go.Proofs.YthjmkmjojlfejaaGreat
open Go Go.ChangeShapes Go.WideShapes Go.ChangeAt Go.RowKit Go.Joins Go.Deep
theorem argOk27 : ArgOk 25 := ⟨by kernel_rfl, of_decide_eq_true (by kernel_rfl)⟩
section
variable {H : Type} {enc : TypeId × Value → H}
set_option maxRecDepth 100000 in
theorem open_list {b0 : Nat} {W : World} {v : Value} {d : DataW H} {p : List MemPlace} (hv : Value.okWide Tryz.prog W .any b0 25 v) (h : DataW.Trod enc Tryz.prog W 0 (fun _ => true) true 25 v d p) :
 ∃ (a : Option Addr) (cap : Nat) (l : List Int), v = .slice a l.length cap ∧ IntsAt W a l ∧ SliceOk a l.length cap ∧ l.length ≤ 9223372036854775807 ∧ ∀ x ∈ l, i64ok x := by
 obtain ⟨n, hn⟩ := h
 obtain ⟨a, cap, l, h1, h2⟩ := ints_trod hn
 have hc : v = .slice a l.length cap := by
  have hs := okWide_slice Tryz.underlying25 hv
  obtain ⟨a', n', c', rfl⟩ := hs
  simpa [Value.cells] using h1
 exact ⟨a, cap, l, hc, h2⟩
end
end Go.Proofs.YthjmkmjojlfejaaGreat
