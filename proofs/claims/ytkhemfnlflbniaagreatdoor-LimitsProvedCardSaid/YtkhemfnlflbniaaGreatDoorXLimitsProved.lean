/- What the law LimitsProved needs beyond the base: Wi2, Ww, PlH, PlQ, Y2, Lm2, Lm3, Lm4, Lm6, Lm7, Lm10, E39, E40, E42, E43, E44, E41, E45, E46, E47, E25, E35, Lp1, E37, Lp2, F7, Fr, Frf. No conditions beyond those stated. -/
import Derived.Test.YtkhemfnlflbniaaGreatDoorB03
import Derived.Test.YtkhemfnlflbniaaGreatDoorB01
import Derived.Test.YtkhemfnlflbniaaGreatDoorProg
import Derived.WalkKit
import Derived.Handy
import Derived.RangeFuncRecord
import Derived.Shelf.Abstract
import Derived.Deep.QuietTactic
import Derived.BigQuiet
import Derived.Laws.CopyOwn
import Derived.WalkSmall
import Derived.RangeFuncNested
import Derived.RangeFuncBound
import Derived.RangeFuncCalls
import Derived.RangeFuncLeaves
import Derived.Shelf.RegionOpen
import Derived.OwnWalkIn
import Derived.TacticsInMore
import Derived.LoopNIn
import Derived.LoopIn
import Derived.Maps.AppendAt
import Derived.Deep.Onto
import Derived.OrdersHeld
import Derived.StillTailTactics
import Derived.Great.Walk
import Derived.Great.BuildSlice
import Derived.Test.YtkhemfnlflbniaaGreatDoorB05
import Derived.Test.YtkhemfnlflbniaaGreatDoorB04
import Derived.Test.YtkhemfnlflbniaaGreatDoorB02
import Derived.Deep.LoopGhost
import Derived.Deep.WholeRow
import Derived.Deep.OwnRows
import Derived.WalkMore
import Derived.Deep.MidRow
import Derived.Deep.RegionHeld3
import Derived.Deep.DeepCutAuto
import Derived.Shelf.Small.Bits
import Derived.Shelf.Strconv.Itoa0
import Derived.Shelf.Sort.Plain
import Derived.Shelf.Slices.Turned
import Derived.Ground.Names2Prog
import Derived.Shelf.Slices.CompactI
import Derived.Shelf.Slices.SearchI
import Derived.Shelf.Slices.Cells
import Derived.Shelf.Slices.In.SortNone
import Derived.Lib.OwnBridge
import Derived.Lib.SliceRun
import Derived.WalkSpells
import Derived.Deep.RegionWith
import Derived.Test.YtkhemfnlflbniaaGreatDoorB06
import Derived.Test.YtkhemfnlflbniaaGreatDoorB07
import Derived.Lib.AppendZerosOnto
import Derived.Deep.CutBlock
import Derived.Test.YtkhemfnlflbniaaGreatDoorB09
import Derived.Test.YtkhemfnlflbniaaGreatDoorB08
import Derived.IntWalk
import Derived.Test.YtkhemfnlflbniaaGreatDoorB10
import Derived.Test.YtkhemfnlflbniaaGreatDoorB11
import Derived.Laws.Rows
import Derived.Laws.Tables
import Derived.Test.YtkhemfnlflbniaaGreatDoorB12
import Derived.Deep.Cut
import Derived.Laws.StructEq
import Derived.OrdersIn
import Derived.RangeFuncBox
import Derived.Test.YtkhemfnlflbniaaGreatDoorB15
import Derived.Test.YtkhemfnlflbniaaGreatDoorB14
import Derived.Test.YtkhemfnlflbniaaGreatDoorB13
import Derived.Test.YtkhemfnlflbniaaGreatDoorRows
import Derived.ProofKit
import Derived.OpenShut
import Derived.Carry
import Derived.Lib.SmallJoins
import Derived.Deep.Slices
import Derived.ChangeMaps5
namespace Go.Proofs.YtkhemfnlflbniaaGreatDoor
open Go Go.RowKit Go.Shelf
theorem wpListIn_of_wpList {P : Program} {ops : Array Oper} {Q : Exit → Act → World → Prop} (l n : Nat) (hout : ¬ LetsOut Q) : ∀ (ls : List Oper) (_ : ∀ o ∈ ls, ∀ c, o.op ≠ .defer c) (a : Act) (w : World), wpList P ops Q ls a w → wpListIn (Fence.wide.inRound l) n P ops Q ls a w
 | [], _, _, _, h => h
 | o :: rest, hnd, a, w, h => by
   have ih := wpListIn_of_wpList (P := P) (ops := ops) l n hout rest (fun x hx => hnd x (List.mem_cons_of_mem _ hx))
   unfold wpList at h
   unfold wpListIn
   split
   ·rename_i hw
    rw [if_pos hw] at h
    refine operIn_of_oper l n (hnd o (List.mem_cons_self ..)) hout ?_
    rcases h with h | h
    ·exact .inl (Oper.wp_mono ih h)
    ·exact .inr h
   ·rename_i hw
    rw [if_neg hw] at h
    exact ⟨fun _ _ => trivial, ih _ _ h⟩
theorem recordsP_len (bs : List Bd) : (recordsP bs).length ≤ bs.length := by
 unfold recordsP
 have := Lib.compact_length_le (sortP (rcds bs))
 have := sortP_length (rcds bs)
 have := rcds_len bs
 omega
end Go.Proofs.YtkhemfnlflbniaaGreatDoor
namespace Go.Proofs.YtkhemfnlflbniaaGreatDoor
open Go
theorem compactUpTo_asc (d : Array Int) (hs : ∀ i j, i ≤ j → j < d.size → d[i]! ≤ d[j]!) : ∀ m, m ≤ d.size → (Lib.compactUpTo d m).Pairwise (· < ·) ∧ ∀ x, x ∈ Lib.compactUpTo d m ↔ ∃ j, j < m ∧ d[j]! = x
 | 0, _ => by simp [Lib.compactUpTo]
 | m + 1, hm => by
   obtain ⟨h1, h2⟩ := compactUpTo_asc d hs m (by omega)
   rw [Lib.compactUpTo_succ]
   by_cases hk : Lib.keeps d m = true
   ·rw [if_pos hk]
    refine ⟨?_, fun x => ?_⟩
    ·rw [List.pairwise_append]
     refine ⟨h1, by simp, fun x hx y hy => ?_⟩
     rw [List.mem_singleton.1 hy]
     obtain ⟨j, hj, rfl⟩ := (h2 x).1 hx
     have hk2 := of_decide_eq_true hk
     rcases hk2 with e | e
     ·omega
     ·have := hs j (m - 1) (by omega) (by omega)
      have := hs (m - 1) m (by omega) (by omega)
      omega
    ·rw [List.mem_append, h2 x, List.mem_singleton]
     constructor
     ·rintro (⟨j, hj, e⟩ | e)
      ·exact ⟨j, by omega, e⟩
      ·exact ⟨m, by omega, e.symm⟩
     ·rintro ⟨j, hj, e⟩
      by_cases he : j = m
      ·subst he; exact .inr e.symm
      ·exact .inl ⟨j, by omega, e⟩
   ·rw [if_neg hk, List.append_nil]
    refine ⟨h1, fun x => ?_⟩
    rw [h2 x]
    have hk2 : ¬ (m = 0 ∨ d[m]! ≠ d[m - 1]!) := fun e => hk (decide_eq_true e)
    have hk3 : m ≠ 0 ∧ d[m]! = d[m - 1]! := ⟨fun e => hk2 (.inl e), Classical.byContradiction fun e => hk2 (.inr e)⟩
    constructor
    ·rintro ⟨j, hj, e⟩; exact ⟨j, by omega, e⟩
    ·rintro ⟨j, hj, e⟩
     by_cases he : j = m
     ·subst he; exact ⟨j - 1, by omega, by rw [← e, hk3.2]⟩
     ·exact ⟨j, by omega, e⟩
theorem compact_asc {l : List Int} (hs : l.Pairwise (· ≤ ·)) : (Lib.compact l).Pairwise (· < ·) ∧ ∀ x, x ∈ Lib.compact l ↔ x ∈ l := by
 have hs' : ∀ i j, i ≤ j → j < l.toArray.size → l.toArray[i]! ≤ l.toArray[j]! := by
  intro i j hij hj
  have hj' : j < l.length := by simpa using hj
  rw [List.getElem!_toArray, List.getElem!_toArray, getElem!_pos l i (by omega), getElem!_pos l j hj']
  rcases Nat.lt_or_eq_of_le hij with h | h
  ·exact List.pairwise_iff_getElem.1 hs i j (by omega) hj' h
  ·subst h; exact Int.le_refl _
 obtain ⟨h1, h2⟩ := compactUpTo_asc l.toArray hs' l.length (by simp)
 refine ⟨h1, fun x => (h2 x).trans ⟨?_, ?_⟩⟩
 ·rintro ⟨j, hj, rfl⟩
  rw [List.getElem!_toArray, getElem!_pos l j hj]; exact List.getElem_mem _
 ·intro hx
  obtain ⟨j, hj, e⟩ := List.mem_iff_getElem.1 hx
  exact ⟨j, hj, by rw [List.getElem!_toArray, getElem!_pos l j hj, e]⟩
theorem mem_sortP {l : List Int} {x : Int} : x ∈ sortP l ↔ x ∈ l := by unfold sortP; exact List.mem_mergeSort
theorem recordsP_asc (bs : List Bd) : (recordsP bs).Pairwise (· < ·) := (compact_asc (sortP_le _)).1
theorem mem_recordsP {bs : List Bd} {x : Int} : x ∈ recordsP bs ↔ ∃ b ∈ bs, 0 < b.rcd ∧ b.rcd = x := by
 unfold recordsP
 rw [(compact_asc (sortP_le _)).2, mem_sortP]
 unfold rcds
 simp only [List.mem_map, List.mem_filter, decide_eq_true_eq, and_assoc]
end Go.Proofs.YtkhemfnlflbniaaGreatDoor
namespace Go.Proofs.YtkhemfnlflbniaaGreatDoor
def valuesB (N : Int) (y : List Int) : Bool := decide ((y.length : Int) = N) && (y.getD 0 0 == 0) && !(y.any fun v => !inR v (-400000000) 400000000)
def keptB (y : List Int) (b : Bd) : Bool := decide (b.most < getI y b.dst - getI y b.src)
def keptE (N : Int) (bs : List Bd) (y : List Int) : Int × Bool × Int :=
 if checkP N bs ≠ 0 then (0, false, checkP N bs) else if valuesB N y = false then (0, false, 1) else (max (idxOf (keptB y) bs) 0, decide (idxOf (keptB y) bs < 0), 0)
theorem valuesB_iff {N : Nat} {y : List Int} : valuesB N y = true ↔ y.length = N ∧ y.getD 0 0 = 0 ∧ ∀ v ∈ y, -400000000 ≤ v ∧ v ≤ 400000000 := by
 unfold valuesB
 simp only [Bool.and_eq_true, decide_eq_true_eq, beq_iff_eq, Bool.not_eq_true', List.any_eq_false, and_assoc]
 constructor
 ·rintro ⟨h1, h2, h3⟩; exact ⟨by omega, h2, fun v hv => inR_true.1 (by simpa using h3 v hv)⟩
 ·rintro ⟨h1, h2, h3⟩; exact ⟨by omega, h2, fun v hv => by simp [inR_true.2 (h3 v hv)]⟩
theorem kept_pot {bs : List Bd} {y : List Int} : idxOf (keptB y) bs < 0 ↔ Pot y bs := by
 rw [idxOf_neg]
 unfold Pot keptB
 simp only [List.any_eq_false, decide_eq_true_eq]
 constructor
 ·intro h b hb; have := h b hb; omega
 ·intro h b hb; have := h b hb; omega
theorem keptE_iff {N : Nat} {bs : List Bd} {y : List Int} (hc : checkP N bs = 0) : (keptE N bs y).2.1 = true ↔ Keeps N bs y := by
 unfold keptE
 rw [if_neg (by simp [hc])]
 split
 ·rename_i h
  constructor
  ·intro e; simp at e
  ·intro k; rw [valuesB_iff.2 ⟨k.len, k.zero, k.bd⟩] at h; simp at h
 ·rename_i h
  have h2 := valuesB_iff.1 (by simpa using h)
  simp only [decide_eq_true_eq]
  rw [kept_pot]
  exact ⟨fun p => ⟨h2.1, h2.2.1, h2.2.2, p⟩, fun k => k.pot⟩
theorem keptE_err {N : Nat} {bs : List Bd} {y : List Int} (hc : checkP N bs = 0) (h : (keptE N bs y).2.1 = true) : (keptE N bs y).2.2 = 0 ∧ (keptE N bs y).1 = 0 := by
 unfold keptE at h ⊢
 rw [if_neg (by simp [hc])] at h ⊢
 split at h
 ·simp at h
 ·rename_i h2
  rw [if_neg h2]
  simp only [decide_eq_true_eq] at h
  exact ⟨rfl, by simp only; omega⟩
end Go.Proofs.YtkhemfnlflbniaaGreatDoor
namespace Go.Proofs.YtkhemfnlflbniaaGreatDoor
open Go Go.RowKit Go.Shelf
theorem within_at {n a b : Int} {r : Bool} (h : inR n a b = r) (w : World) : Calls Tryz.prog 232 #[.int .i64 n, .int .i64 a, .int .i64 b] w fun e w' => e = .returned (.bool r) ∧ w = w' := by
 rw [← h]; exact within_any n a b w
theorem values1_any (w : World) (v : Int) : Calls Tryz.prog 282 #[.int .i64 v] w fun e w' => e = .returned (.bool (!inR v (-400000000) 400000000)) ∧ w = w' := by
 obtain ⟨r, hr⟩ : ∃ r, inR v (-400000000) 400000000 = r := ⟨_, rfl⟩
 rw [hr]
 have HR := hidE hr
 clear hr
 go_enter Tryz.func282, Tryz.ntmps282
 go_wp2_with (go_at_call 232; refine (within_at HR.out _).mono ?_; rintro e w' ⟨rfl, rfl⟩)
 go_ret
 exact ⟨rfl, rfl⟩
set_option maxHeartbeats 400000 in
theorem values_any (w : World) (N : Int) (sv : Value) (a : Option Addr) (cap : Nat) (y : List Int) (hN0 : 1 ≤ N) (hN1 : N ≤ 128) (hl : y.length ≤ 9223372036854775807) (h : IntsAt w a y) :
 Calls Tryz.prog 247 #[.agg #[.int .i64 N, sv], .slice a y.length cap] w fun e w' => e = .returned (.bool (valuesB N y)) ∧ Below w.heap.size w w' := by
 by_cases h1 : (y.length : Int) = N
 ·have h1b : ((y.length : Int) == N) = true := by simpa using h1
  have hlt : 0 < y.length := by omega
  obtain ⟨b, off, rfl, hbl, hc⟩ := h.at hlt
  have hg : y.getD 0 0 = y[0] := getD_get y 0 hlt
  obtain ⟨v, hv⟩ : ∃ v, y[0] = v := ⟨_, rfl⟩
  rw [hv] at hc hg
  rw [Nat.add_zero] at hc
  by_cases h2 : v = 0
  ·have h2b : (v == 0) = true := by simpa using h2
   have hq := containsFuncInts_any (w.alloc (.cells #[.int .i64 N, sv] 61)) (some ⟨b, off, none⟩) cap y 282 #[] (fun v => !inR v (-400000000) 400000000) hl (h.alloc _) (fun k hk W hb => (values1_any W y[k]).mono fun _ _ ⟨he, hw⟩ => ⟨he, hw ▸ Below.refl _ _⟩) (enters_of Tryz.func282 (by kernel_rfl) rfl)
   have hval : valuesB N y = !(y.any fun v => !inR v (-400000000) 400000000) := by unfold valuesB; rw [hg, h1]; simp [h2]
   obtain ⟨r, hr⟩ : ∃ r, (y.any fun v => !inR v (-400000000) 400000000) = r := ⟨_, rfl⟩
   rw [hr] at hq hval
   have HQ := hidE hq
   have HV := hidE hval
   clear hq hval hr hg hv h1 h2 h
   go_enter Tryz.func247, Tryz.ntmps247
   go_wp2_with fail
   refine HQ.out.mono ?_
   rintro e w1 ⟨rfl, hb1⟩
   go_wp2_with fail
   go_ret
   exact ⟨by rw [HV.out]; rfl, ((Below.refl _ _).alloc (Nat.le_refl _) _).trans (hb1.mono (by simp))⟩
  ·have h2b : (v == 0) = false := by simpa using h2
   have hval : valuesB N y = false := by unfold valuesB; rw [hg]; simp [h2]
   have HV := hidE hval
   clear hval hg hv h1 h2 h
   go_enter Tryz.func247, Tryz.ntmps247
   go_wp2_with fail
   go_ret
   exact ⟨by rw [HV.out]; rfl, by go_grown⟩
 ·have h1b : ((y.length : Int) == N) = false := by simpa using h1
  have hval : valuesB N y = false := by unfold valuesB; simp [h1]
  have HV := hidE hval
  clear hval h1 h
  go_enter Tryz.func247, Tryz.ntmps247
  go_wp2_with fail
  go_ret
  exact ⟨by rw [HV.out]; rfl, by go_grown⟩
set_option maxHeartbeats 400000 in
theorem kept1_any (w : World) (b : Bd) (N bl : Nat) (a : Option Addr) (cap : Nat) (y : List Int) (hb : b.valid N) (hN : y.length = N) (_hN1 : N ≤ 128) (hv : ∀ v ∈ y, -400000000 ≤ v ∧ v ≤ 400000000) (h : IntsAt w a y) (hc : w.cell? ⟨bl, 0, none⟩ = some (.slice a y.length cap)) (hbl : bl < w.heap.size) :
 Calls Tryz.prog 249 #[b.val, .pointer (some ⟨bl, 0, none⟩)] w fun e w' => e = .returned (.bool (keptB y b)) ∧ Below w.heap.size w w' := by
 obtain ⟨v1, v2, v3, v4, v5, v6⟩ := hb
 obtain ⟨ys, yd, ym, yr⟩ := b
 simp only at v1 v2 v3 v4 v5 v6
 obtain ⟨si, rfl⟩ := Int.eq_ofNat_of_zero_le v1
 obtain ⟨di, rfl⟩ := Int.eq_ofNat_of_zero_le v3
 have hs : si < y.length := by omega
 have hd : di < y.length := by omega
 obtain ⟨b, off, rfl, hbw, hcs⟩ := h.at hs
 obtain ⟨b', off', e', _, hcd⟩ := h.at hd
 cases e'
 have q1 := hv y[si] (List.getElem_mem _)
 have q2 := hv y[di] (List.getElem_mem _)
 have hkb : keptB y ⟨si, di, ym, yr⟩ = decide (ym < y[di] - y[si]) := by
  unfold keptB getI
  rw [decide_eq_decide]
  simp only [Int.toNat_natCast]
  rw [getD_get y 0 hs, getD_get y 0 hd]
 obtain ⟨x, hx⟩ : ∃ x, y[si] = x := ⟨_, rfl⟩
 obtain ⟨z, hz⟩ : ∃ z, y[di] = z := ⟨_, rfl⟩
 rw [hx, hz] at hkb
 rw [hx] at hcs q1
 rw [hz] at hcd q2
 have s0 : (si : Int) < y.length := by omega
 have d0 : (di : Int) < y.length := by omega
 have hw1 : IntKind.i64.wrap (z - x) = z - x := IntWalk.i64_in _ (by omega)
 have HK := hidE hkb
 have hbl1 : bl < w.heap.size + 1 := by omega
 clear hkb hx hz hN h hv hbw
 unfold Bd.val
 go_enter Tryz.func249, Tryz.ntmps249
 go_wp2_with fail
 go_quiet (fail)
 go_wp2_with fail
 go_ret
 exact ⟨by rw [HK.out]; rfl, ((Below.refl _ _).alloc (Nat.le_refl _) _).trans (below_drewN' _ _)⟩
set_option maxHeartbeats 1000000 in
theorem kept_any (w : World) (N : Int) (a : Option Addr) (cap : Nat) (bs : List Bd) (a2 : Option Addr) (cap2 : Nat) (y : List Int) (hN : i64ok N) (hl : bs.length ≤ 9223372036854775807) (hl2 : y.length ≤ 9223372036854775807) (h : BoundsAt w a bs) (h2 : IntsAt w a2 y) :
 Calls Tryz.prog 198 #[.agg #[.int .i64 N, .slice a bs.length cap], .slice a2 y.length cap2] w fun e w' => e = .returned (.tuple #[.int .i64 (keptE N bs y).1, .bool (keptE N bs y).2.1, .int .i64 (keptE N bs y).2.2]) ∧ Below w.heap.size w w' := by
 obtain ⟨W0, hW0⟩ : ∃ W0, W0 = (w.alloc (.cells #[.int .i64 N, .slice a bs.length cap] 61)).alloc (.cells #[.slice a2 y.length cap2] 52) := ⟨_, rfl⟩
 have b0 : Below w.heap.size w W0 := by rw [hW0]; exact ((Below.refl _ _).alloc (Nat.le_refl _) _).alloc (by simp) _
 have x0 : W0.heap[w.heap.size]? = some (.cells #[.int .i64 N, .slice a bs.length cap] 61 (0,0)) := by rw [hW0, Below.heap_alloc _ _ _ (by simp), heap_alloc_new]
 have x1 : W0.heap[w.heap.size + 1]? = some (.cells #[.slice a2 y.length cap2] 52 (0,0)) := by rw [hW0, heap_alloc_at _ _ _ (by simp)]
 have hck := check_any W0 N a cap bs hN hl (h.below b0 (Nat.le_refl _))
 by_cases hc : checkP N bs = 0
 ·obtain ⟨n0, n1, n2, nv⟩ := checkP_zero hc
  rw [hc] at hck
  have HCK := hidE hck
  have H := hidE h
  have H2 := hidE h2
  have X0 := hidE x0
  have X1 := hidE x1
  have B0 := hidE b0
  have HW := hidE hW0
  have HC := hidE hc
  have NV := hidE nv
  clear hck h h2 x0 x1 b0 hW0 hc nv hN
  go_enter Tryz.func198, Tryz.ntmps198
  go_upto_region 1 with fail
  rw [← HW.out]
  have e0 : W0.cell? ⟨w.heap.size, 0, none⟩ = some (.int .i64 N) := c_e X0.out rfl
  have e1 : W0.cell? ⟨w.heap.size, 1, none⟩ = some (.slice a bs.length cap) := c_e X0.out rfl
  go_wp2_with fail
  refine HCK.out.mono ?_
  rintro e w1 ⟨rfl, hb1⟩
  have y0 := blk_below hb1 (lt_of_block X0.out) X0.out
  have y1 := blk_below hb1 (lt_of_block X1.out) X1.out
  have B1 := B0.out.trans (hb1.mono B0.out.size)
  have hva := values_any w1 N (.slice a bs.length cap) a2 cap2 y n0 n1 hl2 (H2.out.below B1 (Nat.le_refl _))
  have Y0 := hidE y0
  have Y1 := hidE y1
  have HB1 := hidE B1
  have HVA := hidE hva
  have f0 : w1.cell? ⟨w.heap.size, 0, none⟩ = some (.int .i64 N) := c_e Y0.out rfl
  have f1 : w1.cell? ⟨w.heap.size, 1, none⟩ = some (.slice a bs.length cap) := c_e Y0.out rfl
  have f2 : w1.cell? ⟨w.heap.size + 1, 0, none⟩ = some (.slice a2 y.length cap2) := cell_of_one Y1.out
  clear y0 y1 B1 hb1 hva e0 e1
  go_wp2_with fail
  refine HVA.out.mono ?_
  rintro e w2 ⟨rfl, hb2⟩
  have z0 := blk_below hb2 (lt_of_block Y0.out) Y0.out
  have z1 := blk_below hb2 (lt_of_block Y1.out) Y1.out
  have B2 := HB1.out.trans (hb2.mono HB1.out.size)
  have Z0 := hidE z0
  have Z1 := hidE z1
  have HB2 := hidE B2
  clear z0 z1 B2 hb2 f0 f1 f2
  cases hvb : valuesB N y with
  | false =>
    have hk : keptE N bs y = (0, false, 1) := by unfold keptE; rw [if_neg (by simp [HC.out]), if_pos hvb]
    have HK := hidE hk
    clear hvb hk
    go_wp2_with fail
    go_ret3
    exact ⟨by rw [HK.out]; rfl, HB2.out⟩
  | true =>
    have hk : keptE N bs y = (max (idxOf (keptB y) bs) 0, decide (idxOf (keptB y) bs < 0), 0) := by unfold keptE; rw [if_neg (by simp [HC.out]), if_neg (by rw [hvb]; simp)]
    obtain ⟨R, rfl⟩ := Int.eq_ofNat_of_zero_le (show 0 ≤ N by omega)
    obtain ⟨q1, q2, q3⟩ := valuesB_iff.1 hvb
    have e0 : w2.cell? ⟨w.heap.size, 0, none⟩ = some (.int .i64 (R : Int)) := c_e Z0.out rfl
    have e1 : w2.cell? ⟨w.heap.size, 1, none⟩ = some (.slice a bs.length cap) := c_e Z0.out rfl
    have l1 := lt_of_block Z1.out
    have hidx := indexFuncBounds_any w2 a cap bs 249 #[.pointer (some ⟨w.heap.size + 1, 0, none⟩)] (· < w2.heap.size) (keptB y) hl (H.out.below HB2.out (Nat.le_refl _)) (fun b hb => hb)
     (fun k hk W hkp => kept1_any W bs[k] R (w.heap.size + 1) a2 cap2 y (NV.out _ (List.getElem_mem _)).1 q1 (by omega) q3 ((H2.out.below HB2.out (Nat.le_refl _)).kept (fun b hb => hkp.same b hb) hkp.size) ((hkp.cell (by show w.heap.size + 1 < _; exact l1)).trans (cell_of_one Z1.out)) (Nat.lt_of_lt_of_le l1 hkp.size))
     (enters_of Tryz.func249 (by kernel_rfl) rfl)
    obtain ⟨ix, hix⟩ : ∃ x, idxOf (keptB y) bs = x := ⟨_, rfl⟩
    rw [hix] at hidx hk
    have HI := hidE hidx
    have HK := hidE hk
    clear hvb hk hidx hix q1 q2 q3
    go_wp2_with fail
    refine HI.out.mono ?_
    rintro e w3 ⟨rfl, hb3⟩
    have HB3 := hidE (HB2.out.trans (hb3.mono HB2.out.size))
    clear hb3 e0 e1
    go_wp2_with fail
    go_ret3
    exact ⟨by rw [HK.out]; rfl, HB3.out⟩
 ·have hk : keptE N bs y = (0, false, checkP N bs) := by unfold keptE; rw [if_pos hc]
  obtain ⟨c, hcc⟩ : ∃ c, checkP N bs = c := ⟨_, rfl⟩
  rw [hcc] at hk hc hck
  have hc2 : (c != 0) = true := by simpa using hc
  have HCK := hidE hck
  have HK := hidE hk
  have X0 := hidE x0
  have B0 := hidE b0
  have HW := hidE hW0
  clear hck hk hc hcc h h2 hN x0 x1 b0 hW0
  go_enter Tryz.func198, Tryz.ntmps198
  go_upto_region 1 with fail
  rw [← HW.out]
  have e0 : W0.cell? ⟨w.heap.size, 0, none⟩ = some (.int .i64 N) := c_e X0.out rfl
  have e1 : W0.cell? ⟨w.heap.size, 1, none⟩ = some (.slice a bs.length cap) := c_e X0.out rfl
  go_wp2_with fail
  refine HCK.out.mono ?_
  rintro e w1 ⟨rfl, hb1⟩
  clear e0 e1
  go_wp2_with fail
  go_ret3
  exact ⟨by rw [HK.out]; rfl, B0.out.trans (hb1.mono B0.out.size)⟩
end Go.Proofs.YtkhemfnlflbniaaGreatDoor
namespace Go.Proofs.YtkhemfnlflbniaaGreatDoor
theorem Tied.n0 {N : Nat} {bs : List Bd} (T : Tied N bs) : 1 ≤ N := by obtain ⟨t, _, H⟩ := T.net; exact H.n0
theorem far_takes {N : Nat} {bs : List Bd} (T : Tied N bs) {a b : Nat} (ha : a < N) (hb : b < N) : (farV N bs a).getD b 0 - (farV N bs a).getD a 0 = distN N bs a b := by
 obtain ⟨t, ht, H⟩ := T.net
 rw [farV_get hb, farV_get ha, dist_self H ht ha]
 omega
theorem dist_fewer {N : Nat} {bs cs : List Bd} (T : Tied N bs) (U : Tied N cs) (h : ∀ y, Keeps N cs y → Keeps N bs y) {a b : Nat} (ha : a < N) (hb : b < N) : distN N cs a b ≤ distN N bs a b := by
 rw [← far_takes U ha hb]
 exact tied_dist T (h _ (far_keeps U ha)) ha hb
theorem drw_ends {F : Fld} {l : List Rcd} (h : Good F l) (ha : agreeB F l = true) {y : List Int} (k : Drw F l y) {p : Nat} (h2 : p < ptN F) : lowE F l p ≤ y.getD p 0 ∧ y.getD p 0 ≤ highE F l p := by
 have T := tied h ha
 have d := tied_dist T k h2 (b := 0) T.n0
 have e := tied_dist T k (a := 0) T.n0 h2
 rw [k.zero] at d e
 unfold lowE highE
 omega
theorem more_narrow {F : Fld} {l m : List Rcd} (h : Good F l) (g : Good F m) (hs : ∀ r ∈ m, r ∈ l) (ha : agreeB F l = true) {a b : Nat} (h1 : a < ptN F) (h2 : b < ptN F) : distN (ptN F) (sysL F l) a b ≤ distN (ptN F) (sysL F m) a b :=
 dist_fewer (tied g (agree_sub h g hs ha)) (tied h ha) (fun _ => drw_sub hs) h1 h2
def risingB : List Int → Bool
 | [] => true
 | [_] => true
 | a :: b :: l => decide (a < b) && risingB (b :: l)
theorem rising_iff : ∀ (l : List Int), risingB l = true ↔ l.Pairwise (· < ·)
 | [] => by simp [risingB]
 | [_] => by simp [risingB]
 | a :: b :: l => by
   unfold risingB
   rw [Bool.and_eq_true, decide_eq_true_eq, rising_iff (b :: l), List.pairwise_cons (a := a)]
   constructor
   ·rintro ⟨h, k⟩
    refine ⟨fun x hx => ?_, k⟩
    rcases List.mem_cons.1 hx with rfl | hx
    ·exact h
    ·have := (List.pairwise_cons.1 k).1 x hx
     omega
   ·rintro ⟨h, k⟩
    exact ⟨h b (List.mem_cons_self ..), k⟩
def withIds (l : List Rcd) (ids : List Int) : List Rcd := l.filter fun r => ids.contains r.id
def namedR (l : List Rcd) (ids : List Int) : Bool := risingB ids && ids.all fun i => l.any fun r => r.id == i
def onlyB (l : List Rcd) (ids : List Int) : Bool := risingB ids && decide ((withIds l ids).length = ids.length)
theorem with_ids {l : List Rcd} {ids : List Int} : (withIds l ids).map Rcd.id = (l.map Rcd.id).filter fun i => ids.contains i := by
 unfold withIds
 rw [List.filter_map]
 rfl
theorem sub_eq : ∀ {a b : List Int}, a.Pairwise (· < ·) → b.Pairwise (· < ·) → (∀ x ∈ a, x ∈ b) → a.length = b.length → a = b := by
 intro a b ha hb hs hl
 have h : a.Sublist b := by
  induction b generalizing a with
  | nil => cases a with
    | nil => exact List.Sublist.slnil
    | cons x a => simp at hl
  | cons y b ih =>
    cases a with
    | nil => exact List.nil_sublist _
    | cons x a =>
      have hx := hs x (List.mem_cons_self ..)
      have ha2 := List.pairwise_cons.1 ha
      have hb2 := List.pairwise_cons.1 hb
      have key : ∀ z ∈ a, z ∈ b := fun z hz => by
       rcases List.mem_cons.1 (hs z (List.mem_cons_of_mem _ hz)) with rfl | q
       ·have := ha2.1 _ hz
        rcases List.mem_cons.1 hx with rfl | q
        ·omega
        ·have := hb2.1 _ q; omega
       ·exact q
      have hab := ih ha2.2 hb2.2 key (by simpa using hl)
      rcases List.mem_cons.1 hx with rfl | q
      ·exact hab.cons_cons _
      ·exfalso
       have e : a = b := hab.eq_of_length (by simpa using hl)
       subst e
       have := ha2.1 x q
       omega
 exact h.eq_of_length hl
theorem asc_sub_len : ∀ {a b : List Int}, a.Pairwise (· < ·) → (∀ x ∈ a, x ∈ b) → a.length ≤ b.length
 | [], _, _, _ => Nat.zero_le _
 | x :: a, b, ha, hs => by
   have hx := hs x (List.mem_cons_self ..)
   have ha2 := List.pairwise_cons.1 ha
   have := asc_sub_len (a := a) (b := b.erase x) ha2.2 fun z hz => by
    refine (List.mem_erase_of_ne ?_).2 (hs z (List.mem_cons_of_mem _ hz))
    have := ha2.1 z hz
    omega
   rw [List.length_erase_of_mem hx] at this
   have : 0 < b.length := List.length_pos_of_mem hx
   rw [List.length_cons]
   omega
theorem named_ref {l : List Rcd} (hl : l.Pairwise fun a b => a.id < b.id) (ids : List Int) : onlyB l ids = namedR l ids := by
 unfold onlyB namedR
 cases hr : risingB ids with
 | false => rfl
 | true =>
   rw [Bool.true_and, Bool.true_and, Bool.eq_iff_iff, decide_eq_true_eq]
   have hi := (rising_iff ids).1 hr
   have hm : (l.map Rcd.id).Pairwise (· < ·) := List.pairwise_map.2 hl
   have hf : ((withIds l ids).map Rcd.id).Pairwise (· < ·) := by rw [with_ids]; exact hm.filter _
   have hin : ∀ x ∈ (withIds l ids).map Rcd.id, x ∈ ids := fun x hx => by
    rw [with_ids, List.mem_filter] at hx
    simpa using hx.2
   simp only [List.all_eq_true, List.any_eq_true, beq_iff_eq]
   constructor
   ·intro h
    have e := sub_eq hf hi hin (by simpa using h)
    intro i hi2
    rw [← e, List.mem_map] at hi2
    obtain ⟨r, hr, rfl⟩ := hi2
    exact ⟨r, (List.mem_filter.1 hr).1, rfl⟩
   ·intro h
    apply Nat.le_antisymm
    ·have := asc_sub_len hf hin
     simpa using this
    ·have := asc_sub_len (b := (withIds l ids).map Rcd.id) hi fun x hx => by
      obtain ⟨r, hr, rfl⟩ := h x hx
      refine List.mem_map.2 ⟨r, List.mem_filter.2 ⟨hr, by simpa using hx⟩, rfl⟩
     simpa using this
structure IdsOf (q : List Bd) (ids : List Int) : Prop where
 asc : ids.Pairwise (· < ·)
 mem : ∀ x, x ∈ ids ↔ 0 < x ∧ ∃ b ∈ q, b.rcd = x
theorem sys_mem {F : Fld} {l : List Rcd} {b : Bd} : b ∈ sysL F l ↔ b ∈ natF F ∨ ∃ r ∈ l, b ∈ callBs F r.call r.id := by
 unfold sysL Rcd.bs
 rw [List.mem_append, List.mem_flatMap]
theorem ids_named {F : Fld} {l : List Rcd} (h : Good F l) {q : List Bd} (hq : ∀ b ∈ q, b ∈ sysL F l) {ids : List Int} (hi : IdsOf q ids) : onlyB l ids = true ∧ ∀ b ∈ q, b ∈ sysL F (withIds l ids) := by
 constructor
 ·rw [named_ref h.asc]
  unfold namedR
  rw [(rising_iff ids).2 hi.asc, Bool.true_and, List.all_eq_true]
  intro x hx
  obtain ⟨h0, b, hb, he⟩ := (hi.mem x).1 hx
  rw [List.any_eq_true]
  rcases sys_mem.1 (hq b hb) with k | ⟨r, hr, k⟩
  ·have := nat_rcd b k
   omega
  ·have := callBs_rcd b k
   exact ⟨r, hr, by rw [beq_iff_eq]; omega⟩
 ·intro b hb
  rcases sys_mem.1 (hq b hb) with k | ⟨r, hr, k⟩
  ·exact sys_mem.2 (.inl k)
  ·refine sys_mem.2 (.inr ⟨r, List.mem_filter.2 ⟨hr, ?_⟩, k⟩)
   have e := callBs_rcd b k
   have := right_id (h.each r hr).1
   have : r.id ∈ ids := (hi.mem r.id).2 ⟨by omega, b, hb, e⟩
   simpa using this
theorem with_sub (l : List Rcd) (ids : List Int) : (withIds l ids).Sublist l := List.filter_sublist
theorem with_good {F : Fld} {l : List Rcd} (h : Good F l) (ids : List Int) : Good F (withIds l ids) := good_sub h (with_sub l ids)
theorem with_agree {F : Fld} {l : List Rcd} (h : Good F l) (ha : agreeB F l = true) (ids : List Int) : agreeB F (withIds l ids) = true :=
 agree_sub h (with_good h ids) (fun _ hr => (with_sub l ids).subset hr) ha
theorem path_shows {F : Fld} {l : List Rcd} (h : Good F l) (ha : agreeB F l = true) {a b : Nat} (h1 : a < ptN F) (h2 : b < ptN F) {q : List Bd} (hw : Walk (a : Int) (b : Int) q) (ho : Over (sysL F l) q) (hd : wsum q = distN (ptN F) (sysL F l) a b) {ids : List Int} (hi : IdsOf q ids) :
 onlyB l ids = true ∧ distN (ptN F) (sysL F (withIds l ids)) a b = distN (ptN F) (sysL F l) a b := by
 have k := ids_named h (q := q) ho hi
 refine ⟨k.1, ?_⟩
 have g := with_good h ids
 have T := tied g (with_agree h ha ids)
 obtain ⟨t, ht, H⟩ := T.net
 apply Int.le_antisymm
 ·rcases dist_cases H ht h1 h2 with ⟨_, _, k3⟩ | ⟨k3, _⟩
  ·rw [← hd]; exact k3 q hw k.2
  ·have := T.fin a b h1 h2; omega
 ·exact more_narrow h g (fun _ hr => (with_sub l ids).subset hr) ha h1 h2
theorem shown_kept {F : Fld} {l : List Rcd} (h : Good F l) {ids : List Int} {y : List Int} (k : Drw F l y) {p : Nat} (hp : p < ptN F) : lowE F (withIds l ids) p ≤ y.getD p 0 ∧ y.getD p 0 ≤ highE F (withIds l ids) p :=
 have k2 := drw_sub (m := withIds l ids) (fun _ hr => (with_sub l ids).subset hr) k
 drw_ends (with_good h ids) (drw_agree (with_good h ids) k2) k2 hp
theorem kept_eq {F : Fld} {l : List Rcd} (h : Good F l) (y : List Int) : ((keptE (ptN F) (sysL F l) y).2.1 && decide ((keptE (ptN F) (sysL F l) y).2.2 = 0)) = true ↔ Drw F l y := by
 rw [Bool.and_eq_true, decide_eq_true_eq]
 constructor
 ·intro k
  exact (keptE_iff (sys_check h)).1 k.1
 ·intro k
  have := (keptE_iff (sys_check h)).2 k
  exact ⟨this, (keptE_err (sys_check h) this).1⟩
theorem flag_zero {b : Bool} : flagE b = 0 ↔ b = true := by cases b <;> simp [flagE]
theorem region_zero {F : Fld} {l : List Rcd} {i s : Int} (h : (regionE F l i s).2.2 = 0) : Good F l ∧ agreeB F l = true ∧ limB F i = true ∧ staB F s = true ∧ regionE F l i s = (lowE F l (ptS F i s), highE F l (ptS F i s), 0) := by
 unfold regionE at h ⊢
 by_cases k : matchE F l (flagE (cornB F i s)) ≠ 0
 ·rw [if_pos k] at h; exact absurd h k
 ·rw [if_neg k]
  have := match_zero.1 (Classical.not_not.1 k)
  have c := flag_zero.1 this.2.1
  unfold cornB at c
  rw [Bool.and_eq_true] at c
  exact ⟨this.1, this.2.2, c.1, c.2, rfl⟩
theorem region_bd {F : Fld} {l : List Rcd} {i s : Int} (h : (regionE F l i s).2.2 = 0) : 0 ≤ (regionE F l i s).1 ∧ (regionE F l i s).1 ≤ (regionE F l i s).2.1 ∧ (regionE F l i s).2.1 ≤ 100000 := by
 obtain ⟨g, a, hi, hs, e⟩ := region_zero h
 rw [e]
 have p := ptS_bd hi hs
 exact ends_bd g a p.1 p.2.1
def showB (F : Fld) (l : List Rcd) (p : Nat) (upper : Bool) (fin : Int) (ids : List Int) : Bool :=
 onlyB l ids && agreeB F (withIds l ids) && (if upper = true then decide (highE F (withIds l ids) p ≤ fin) else decide (fin ≤ lowE F (withIds l ids) p))
theorem proved_ends {F : Fld} {l : List Rcd} (h : Good F l) (ha : agreeB F l = true) {p : Nat} (hp : p < ptN F)
 {q r : List Bd} (q1 : Walk 0 (p : Int) q) (q2 : Over (sysL F l) q) (q3 : wsum q = distN (ptN F) (sysL F l) 0 p) (r1 : Walk (p : Int) 0 r) (r2 : Over (sysL F l) r) (r3 : wsum r = distN (ptN F) (sysL F l) p 0)
 {a b : List Int} (ia : IdsOf q a) (ib : IdsOf r b) :
 showB F l p true (highE F l p) a = true ∧ showB F l p false (lowE F l p) b = true ∧ showB F l p true (highE F l p - 1) a = false ∧ showB F l p false (lowE F l p + 1) b = false := by
 have n0 := (pt_le h.fld).1
 have u := path_shows h ha (a := 0) n0 hp q1 q2 q3 ia
 have v := path_shows h ha (b := 0) hp n0 r1 r2 r3 ib
 unfold showB highE lowE
 rw [u.1, u.2, v.1, v.2, with_agree h ha a, with_agree h ha b]
 refine ⟨?_, ?_, ?_, ?_⟩ <;> simp <;> omega
theorem proved_all {F : Fld} {l : List Rcd} (h : Good F l) (ha : agreeB F l = true) {p : Nat} (hp : p < ptN F) {upper : Bool} {fin : Int} {ids : List Int} (k : showB F l p upper fin ids = true) :
 (upper = true → highE F l p ≤ fin ∧ ∀ y, Drw F l y → y.getD p 0 ≤ fin) ∧ (upper = false → fin ≤ lowE F l p ∧ ∀ y, Drw F l y → fin ≤ y.getD p 0) := by
 unfold showB at k
 rw [Bool.and_eq_true] at k
 have n0 := (pt_le h.fld).1
 have g := with_good h ids
 have m1 := more_narrow h g (fun _ hr => (with_sub l ids).subset hr) ha (a := 0) n0 hp
 have m2 := more_narrow h g (fun _ hr => (with_sub l ids).subset hr) ha (b := 0) hp n0
 constructor
 ·intro e
  have k2 := k.2
  rw [if_pos e, decide_eq_true_eq] at k2
  refine ⟨by unfold highE at *; omega, fun y hy => ?_⟩
  have := shown_kept h (ids := ids) hy hp
  omega
 ·intro e
  have k2 := k.2
  rw [if_neg (by rw [e]; simp), decide_eq_true_eq] at k2
  refine ⟨by unfold lowE at *; omega, fun y hy => ?_⟩
  have := shown_kept h (ids := ids) hy hp
  omega
end Go.Proofs.YtkhemfnlflbniaaGreatDoor
namespace Go.Proofs.YtkhemfnlflbniaaGreatDoor
open Go Go.RowKit Go.Shelf
theorem wp_rangeCaps {α : Type} {P : Program} {g : Operand} {ps : Array Tmp} {assign body : Code} {Q : Exit → Act → World → Prop} {a : Act} {w : World} {gf : Nat} {cs : Array Value}
 (hg : a.eval g = .func (.func gf) #[] cs) (eg : ∀ args w, (callFunc gf args).run P w = .ok (.enter gf args) w)
 (encs : α → Array Value) (hps : ∀ x, (encs x).size = ps.size) (S : List α → Prop) (N : Nat) (Kp : World → World → Prop) (hKt : ∀ {A B C : World}, Kp A B → Kp B C → Kp A C)
 (hKb : ∀ (W : World) (l : Nat) (o o' : Obj), w.heap.size ≤ l → W.heap[l]? = some o → o.isCells = false → o.isWalk = false → Kp W (W.putObj l o'))
 (hseq : ∀ (l : Nat) (J : List α → World → Prop) (W : World), Below w.heap.size w W → AbidesFrom W.heap.size J →
  (∀ pre x W1, J pre W1 → pre.length < N → YieldAt Fence.wide 6 P l (encs x) W1 fun e W' => e = .returned (.bool true) ∧ J (pre ++ [x]) W' ∧ Kp W1 W') → J [] W →
  CallsIn Fence.wide 7 P gf (#[.func (.yield l) #[] #[]] ++ cs) W fun e W' => (∃ v, e = .returned v) ∧ ∃ ys, S ys ∧ J ys W')
 (I : List α → World → Prop) (hI : OwnFrom w.heap.size I) (h0 : I [] w) (Ax : α → Act → World → Prop) (hAx : ∀ x a', OwnFrom w.heap.size (fun (_ : Unit) W => Ax x a' W))
 (hassign : ∀ (l : Nat) (pre : List α) (x : α) (W : World) (K : Act → World → Prop), I pre W → (∀ a' W', KeepsFrom w.heap.size W W' → Kp W W' → I pre W' → Ax x a' W' → K a' W') →
  assign.wpIn (Fence.wide.inRound l) 6 P (Exit.then K (fun _ _ _ => False)) { tmps := (ps.zip (encs x)).foldl (fun t (p, v) => t.setIfInBounds p v) a.tmps, defers := [] } W)
 (hbody : ∀ (l : Nat) (pre : List α) (x : α) (a' : Act) (W : World), I pre W → Ax x a' W → pre.length < N → body.wpIn (Fence.wide.inRound l) 6 P (roundPost w.heap.size Kp I (pre ++ [x]) W) a' W)
 (hdone : ∀ (D : Nat) (xs : List α) (W : World), w.heap.size ≤ D → S xs → I xs W → W.heap[D]? = some (.deferred (some [])) → Q .normal { a with defers := { target := .collected D, args := #[] } :: a.defers } W) :
 (Code.rangeFunc g ps assign body).wp P Q a w := by
 refine (wpIn_wide (n := 8)).1 (wpIn_rangeFunc ?_)
 intro fn hfn
 obtain ⟨rec, hrec⟩ : ∃ rec : LoopState → Loop, rec = fun st => { state := st, pending := none, fn, tmps := a.tmps, params := ps, assign, body, defers := w.heap.size } := ⟨_, rfl⟩
 obtain ⟨W1, hW1⟩ : ∃ W1, (w.alloc (.deferred (some []))).alloc (.loop (rec .ready)) = W1 := ⟨_, rfl⟩
 have hL1 : W1.heap[w.heap.size + 1]? = some (.loop (rec .ready)) := by
  rw [← hW1]; have := World.alloc_heap_new (w.alloc (.deferred (some []))) (.loop (rec .ready)); rwa [World.size_alloc] at this
 have hD1 : W1.heap[w.heap.size]? = some (.deferred (some [])) := by
  rw [← hW1]; exact (Below.heap_alloc _ _ _ (by simp)).trans (World.alloc_heap_new w _)
 have hI1 : I [] W1 := by rw [← hW1]; exact hI.alloc _ (hI.alloc _ h0)
 have hb1 : Below w.heap.size w W1 := by rw [← hW1]; exact ((Below.refl _ w).alloc (Nat.le_refl _) _).alloc (by simp) _
 refine ⟨w.heap.size + 1, [{ target := .collected w.heap.size, args := #[] }], W1, { target := .fn (.func gf) cs, args := #[.func (.yield (w.heap.size + 1)) #[] #[]] }, W1, gf,
  (#[.func (.yield (w.heap.size + 1)) #[] #[]] ++ cs), W1, ?_, ?_, ?_, ?_, fun _ => by omega, ?_⟩
 ·rw [← hW1, hrec]; exact run_enterLoop_outer _ _ _ _ _
 ·simp only [resolve, hg]
  simp [go_sem]
 ·intro f' hf'; trivial
 ·simp [invoke, go_sem, eg]
 ·have hnw : ∀ {A : World} {row : Option Nat}, (∀ r, row = some r → W1.heap.size ≤ r ∧ ∃ o : Obj, A.heap[r]? = some o ∧ o.isWalk = true) → (∀ r, row = some r → w.heap.size ≤ r ∧ ∃ o : Obj, A.heap[r]? = some o ∧ o.isCells = false) :=
   fun hr r e => by obtain ⟨hB, o, ho, hw⟩ := hr r e; exact ⟨by rw [← hW1] at hB; simp at hB; omega, o, ho, Obj.not_cells_of_walk hw⟩
  refine (hseq (w.heap.size + 1) (fun pre W => I pre W ∧ W.heap[w.heap.size + 1]? = some (.loop (rec .ready)) ∧ W.heap[w.heap.size]? = some (.deferred (some []))) W1 hb1
   (fun s A B row hs hg' hr => ⟨hI s A B row hs.1 hg' (hnw hr), (grownBy_keeps hg' (fun r e => (hr r e).2) hs.2.1 rfl).trans hs.2.1, (grownBy_keeps hg' (fun r e => (hr r e).2) hs.2.2 rfl).trans hs.2.2⟩)
   ?_ ⟨hI1, hL1, hD1⟩).mono ?_
  ·rintro pre x W ⟨hi, hl, hk⟩ hlen
   have hy := run_yield (P := P) (args := encs x) hl (by rw [hrec]; exact hps x)
   rw [hrec] at hy
   refine ⟨fn, _, assign, body, hy, roundIn_of_wpIn hfn (hassign _ pre x W _ hi ?_)⟩
   clear hy
   intro a' Wa hkfa hkpa hia hax
   have hla := hkfa.same _ _ (by omega) hl rfl
   have hka := hkfa.same _ _ (Nat.le_refl _) hk rfl
   have hlt : w.heap.size + 1 < Wa.heap.size := (Array.getElem?_eq_some_iff.1 hla).1
   obtain ⟨Wb, hWb⟩ : ∃ Wb, Wa.putObj (w.heap.size + 1) (.loop { rec .ready with state := .busy }) = Wb := ⟨_, rfl⟩
   refine ⟨Wb, by rw [← hWb]; exact run_beginRound hla (by rw [hrec]), ?_⟩
   have hlb : Wb.heap[w.heap.size + 1]? = some (.loop { rec .ready with state := .busy }) := by rw [← hWb]; exact World.putObj_heap_same hlt
   have hkb : Wb.heap[w.heap.size]? = some (.deferred (some [])) := by rw [← hWb]; exact (World.putObj_heap_other (by omega)).trans hka
   have hwb : Kp Wa Wb := by rw [← hWb]; exact hKb _ _ _ _ (by omega) hla rfl rfl
   have hib : I pre Wb := by rw [← hWb]; exact hI.putObj _ hia (by omega) hla rfl
   have haxb : Ax x a' Wb := by rw [← hWb]; exact (hAx x a').putObj (s := ()) _ hax (by omega) hla rfl
   refine wpIn_mono (hbody _ pre x a' Wb hib haxb hlen) ?_
   rintro e a3 W3 ⟨rfl, hk3, hkp3, hi3⟩
   have hl3 := hk3.same _ _ (by omega) hlb rfl
   have hd3 := hk3.same _ _ (Nat.le_refl _) hkb rfl
   have hr := run_endRound (P := P) none hl3
   rw [hrec] at hr hl3
   refine ⟨_, _, hr, rfl, ⟨hI.putObj _ hi3 (by omega) hl3 rfl, ?_, (World.putObj_heap_other (by omega)).trans hd3⟩, hKt hkpa (hKt (hKt hwb hkp3) (hKb _ _ _ _ (by omega) hl3 rfl rfl))⟩
   rw [hrec]
   exact World.putObj_heap_same (Array.getElem?_eq_some_iff.1 hl3).1
  ·rintro e W2 ⟨⟨v, rfl⟩, xs, hS, hi, hl, hk⟩
   exact ⟨none, _, by have := run_endLoop (P := P) hl (by rw [hrec]; simp); rw [hrec] at this; exact this, hdone _ xs _ (Nat.le_refl _) hS (hI.putObj _ hi (by omega) hl rfl) ((World.putObj_heap_other (by omega)).trans hk)⟩
theorem adj_asc {l : List Int} (h : ∀ j (hj : j + 1 < l.length), l[j] < l[j + 1]) : l.Pairwise (· < ·) := by
 rw [List.pairwise_iff_getElem]
 intro i j hi hj hij
 induction j with
 | zero => omega
 | succ j ih =>
   by_cases e : i = j
   ·subst e; exact h i hj
   ·exact Int.lt_trans (ih (by omega) (by omega)) (h j hj)
theorem rising_of {l : List Int} (h : ∀ j (hj : j + 1 < l.length), l[j] < l[j + 1]) : risingB l = true := (rising_iff l).2 (adj_asc h)
theorem rising_not {l : List Int} {j : Nat} (hj : j + 1 < l.length) (h : l[j + 1] ≤ l[j]) : risingB l = false := by
 cases q : risingB l with
 | false => rfl
 | true =>
   have := List.pairwise_iff_getElem.1 ((rising_iff l).1 q) j (j + 1) (by omega) hj (by omega)
   omega
set_option maxRecDepth 10000 in
set_option maxHeartbeats 2000000 in
theorem risingI_any (w : World) (a : Option Addr) (c : Nat) (l : List Int) (h : IntsAt w a l) (hl : l.length ≤ 9223372036854775807) :
 Calls Tryz.prog 187 #[.slice a l.length c] w fun e w' => e = .returned (.bool (risingB l)) ∧ Below w.heap.size w w' := by
 have H := hidE h
 have HL := hidE hl
 have HOF := hidE (fun q => rising_of (l := l) q)
 have HNO := hidE (fun j hj q => rising_not (l := l) (j := j) hj q)
 obtain ⟨R, hR⟩ : ∃ R, risingB l = R := ⟨_, rfl⟩
 rw [hR] at HOF HNO ⊢
 clear h hl hR
 have hl := HL.out
 go_enter Tryz.func187, Tryz.ntmps187
 go_wp2_with fail
 go_loopw [3] (fun i wr => ∃ k : Nat, 1 ≤ k ∧ (k ≤ l.length ∨ k = 1) ∧ i = .int .i64 (k : Int) ∧ Hid (∀ j (hj : j + 1 < l.length), j + 1 < k → l[j] < l[j + 1]) ∧ Hid (Below w.heap.size w wr)) (fun i _ => l.length - (intOf i).toNat)
 case atStart => exact ⟨1, Nat.le_refl _, .inr rfl, rfl, hidE (fun j _ q => absurd q (by omega)), hidE (Below.refl _ _)⟩
 case round =>
  obtain ⟨k, k1, kl, rfl, hall, hb⟩ := hrel
  have hl := HL.out
  by_cases hlt : k < l.length
  ·obtain ⟨j, rfl⟩ : ∃ j, k = j + 1 := ⟨k - 1, by omega⟩
   have hj : j < l.length := by omega
   obtain ⟨b0, o0, rfl, hb0, d0⟩ := H.out.at hj
   obtain ⟨b1, o1, e2, hb1, d1⟩ := H.out.at hlt
   cases e2
   have d0' := (hb.out.cell (by exact hb0)).trans d0
   have d1' := (hb.out.cell (by exact hb1)).trans d1
   obtain ⟨x, hx⟩ : ∃ x, l[j] = x := ⟨_, rfl⟩
   obtain ⟨y, hy⟩ : ∃ y, l[j + 1] = y := ⟨_, rfl⟩
   rw [hx] at d0'
   rw [hy] at d1'
   have HX := hidE hx
   have HY := hidE hy
   obtain ⟨m, hm⟩ : ∃ m, j + 1 = m := ⟨_, rfl⟩
   have HM := hidE hm
   have e0 : (m : Int) - 1 = (j : Int) := by omega
   have e1 : IntKind.i64.wrap (j : Int) = (j : Int) := IntWalk.i64_in _ (by omega)
   have j0 : (0 : Int) ≤ (j : Int) := by omega
   have j1 : (j : Int) < (l.length : Int) := by omega
   have m0 : (0 : Int) ≤ (m : Int) := by omega
   have m1 : (m : Int) < (l.length : Int) := by omega
   have HNJ := hidE (fun q => HNO.out j hlt q)
   rw [hm] at d1' ⊢
   clear d0 d1 hx hy hm
   by_cases hxy : y ≤ x
   ·have q : decide (y ≤ x) = true := decide_eq_true hxy
    have hr := HNJ.out (by rw [HX.out, HY.out]; exact hxy)
    clear hxy HNJ
    go_wp2_with fail
    go_quiet (fail)
    go_wp2_with fail
    go_ret
    exact ⟨by rw [hr]; rfl, hb.out.trans (below_drewN' _ _)⟩
   ·have q : decide (y ≤ x) = false := decide_eq_false hxy
    have hq := hidE hxy
    clear hxy HNJ
    go_wp2_with fail
    go_quiet (fail)
    go_wp2_with fail
    go_roundw
    case rel => exact ⟨m + 1, by omega, .inl (by omega), by go_num, hidE (fun i hi hik => by
     by_cases z : i + 1 < j + 1
     ·exact hall.out i hi z
     ·have hm := HM.out
      obtain rfl : i = j := by omega
      have := hq.out
      rw [HX.out, HY.out]; omega), hidE (hb.out.trans (below_drewN' _ _))⟩
    case measure => simp [intOf]; omega
  ·have hr := HOF.out (fun j hj => hall.out j hj (by omega))
   go_wp2_with fail
   go_ret
   exact ⟨by rw [hr]; rfl, hb.out⟩
section
variable {P : Program} {ops : Array Oper} {Q : Exit → Act → World → Prop} {F : Fence} {n : Nat}
theorem wpListIn_value {rest : List Oper} {o : Oper} {a : Act} {w : World} {v : Value} (hro : F.round = none) (hg : o.guard = none) (hab : o.about P w a.eval = none) (hv : (execOp a.eval o).run P w = .ok (.value v) w) (h : wpListIn F n P ops Q rest (a.put o.dst v) w) : wpListIn F n P ops Q (o :: rest) a w := by
 refine wpListIn_plain hg fun K hK => ?_
 simp only [Oper.wpIn, hro, Oper.semAt_none, hv, Oper.uponIn]
 exact ⟨fun f hf => (by rw [hab] at hf; cases hf), hK _ _ h⟩
theorem wpListIn_load_mid {rest : List Oper} {o : Oper} {a : Act} {w : World} (hro : F.round = none) (hg : o.guard = none) (hab : o.about P w a.eval = none) (ty : TypeId) (x : Operand) (ho : o.op = .load ty x)
 (b off : Nat) (hx : a.eval x = .pointer (some ⟨b, off, none⟩)) (cs : List Value) (d : TypeDesc) (hc : w.rangeAt b off cs) (hu : P.underlying ty = some d) (hd : d.isRow = true) (hi : (P.info? ty).map (·.size) = some cs.length)
 (h : wpListIn F n P ops Q rest (a.put o.dst (.agg cs.toArray)) w) : wpListIn F n P ops Q (o :: rest) a w :=
 wpListIn_value hro hg hab (by unfold execOp; simp only [ho, hx, Instr.loadAt, Instr.sureAddr, Sem.run_bind, Sem.run_pure, Result.andThen_ok, run_loadVar_mid w b off ty cs d hc hu hd hi]) h
theorem wpListIn_store_row {rest : List Oper} {o : Oper} {a : Act} {w : World} (hnd : ∀ c, o.op ≠ .defer c) (hg : o.guard = none) (hab : o.about P w a.eval = none) (ty : TypeId) (x y : Operand) (ho : o.op = .store ty x y)
 (g : Nat) (cells : Array Value) (hx : a.eval x = .pointer (some ⟨g, 0, none⟩)) (hy : a.eval y = .agg cells) (t : TypeId) (old : Array Value) (hgb : w.heap[g]? = some (.cells old t (0, 0))) (hi : (P.info? ty).map (·.size) = some cells.size)
 (hold : old.size = cells.size) (h1 : cells.all (·.oneCell') = true) (h : wpListIn F n P ops Q rest (a.put o.dst undef) (w.setRow g cells)) : wpListIn F n P ops Q (o :: rest) a w := by
 refine wpListIn_plain hg fun K hK => ?_
 have e : (execOp a.eval o).run P w = .ok .skip (w.setRow g cells) := by
  unfold execOp
  simp only [ho, hx, hy, Instr.storeAt, Instr.sureAddr, Sem.run_bind, Sem.run_pure, Result.andThen_ok, run_storeVar_row w g t ty old cells hgb hi hold h1]
 rw [show o.wpIn F n P a w K Q = ((∀ f, o.about P w a.eval = some f → F.fn f) ∧ o.uponIn F n P a K Q ((o.semAt F.round a.eval).run P w)) from rfl, Oper.semAt_eq _ _ _ hnd, e]
 exact ⟨fun f hf => (by rw [hab] at hf; cases hf), hK _ _ h⟩
end
set_option maxRecDepth 10000 in
theorem recordsW_any (w : World) (b : Nat) (a2 : Option Addr) (n c2 : Nat) (u : Bool) :
 Calls Tryz.prog 186 #[.pointer (some ⟨b, 0, none⟩), .slice a2 n c2, .bool u] w fun e w' => e = .returned (.func (.func 245) #[] #[.pointer (some ⟨w.heap.size, 0, none⟩), .pointer (some ⟨w.heap.size + 1, 0, none⟩), .pointer (some ⟨w.heap.size + 1 + 1, 0, none⟩)]) ∧ w' = ((w.alloc (.cells #[.pointer (some ⟨b, 0, none⟩)] 103)).alloc (.cells #[.slice a2 n c2] 52)).alloc (.cells #[.bool u] 4) := by
 go_enter Tryz.func186, Tryz.ntmps186
 go_wp2_with fail
 go_ret
 exact ⟨rfl, rfl⟩
structure RJ (W : World) (A b : Nat) (y : WV) (F : Fld) (l : List Rcd) (a2 : Option Addr) (c2 : Nat) (ids : List Int) : Prop where
 k0 : W.heap[A]? = some (.cells #[.pointer (some ⟨b, 0, none⟩)] 103 (0,0))
 k1 : W.heap[A + 1]? = some (.cells #[.slice a2 ids.length c2] 52 (0,0))
 k2 : W.heap[A + 1 + 1]? = some (.cells #[.bool true] 4 (0,0))
 k3 : W.heap[b]? = some (.cells (y.arr F l) 119 (0,0))
 i : IntsAt W a2 ids
 r : RcdsAt W y.ar l
theorem RJ.next {W W' : World} {A b : Nat} {y : WV} {F : Fld} {l : List Rcd} {a2 : Option Addr} {c2 : Nat} {ids : List Int} (h : RJ W A b y F l a2 c2 ids) (hb : Below W.heap.size W W') : RJ W' A b y F l a2 c2 ids :=
 ⟨blk_below hb (lt_of_block h.k0) h.k0, blk_below hb (lt_of_block h.k1) h.k1, blk_below hb (lt_of_block h.k2) h.k2, blk_below hb (lt_of_block h.k3) h.k3, h.i.below hb (Nat.le_refl _), h.r.below hb (Nat.le_refl _)⟩
structure RK (Fix : Nat → Prop) (A b : Nat) (y : WV) (a2 : Option Addr) (l : List Rcd) (ids : List Int) : Prop where
 k0 : Fix A
 k1 : Fix (A + 1)
 k2 : Fix (A + 1 + 1)
 k3 : Fix b
 i : ids ≠ [] → ∀ q, a2 = some q → Fix q.block
 r : l ≠ [] → ∀ q, y.ar = some q → Fix q.block
theorem RJ.keep {Fix : Nat → Prop} {W W' : World} {A b : Nat} {y : WV} {F : Fld} {l : List Rcd} {a2 : Option Addr} {c2 : Nat} {ids : List Int} (h : RJ W A b y F l a2 c2 ids) (f : RK Fix A b y a2 l ids) (hk : KeepsB Fix W W') : RJ W' A b y F l a2 c2 ids := by
 refine ⟨(hk.same _ f.k0).trans h.k0, (hk.same _ f.k1).trans h.k1, (hk.same _ f.k2).trans h.k2, (hk.same _ f.k3).trans h.k3, ?_, ?_⟩
 ·by_cases z : ids = []
  ·exact .inl z
  rcases h.i with e | ⟨b', off, e, hl, hc⟩
  ·exact .inl e
  ·exact .inr ⟨b', off, e, Nat.lt_of_lt_of_le hl hk.size, fun i hi => (hk.cell (p := ⟨b', off + i, none⟩) (show Fix b' from f.i z _ e)).trans (hc i hi)⟩
 ·by_cases z : l = []
  ·exact .inl z
  rcases h.r with e | ⟨b', off, e, hl, hc⟩
  ·exact .inl e
  ·exact .inr ⟨b', off, e, Nat.lt_of_lt_of_le hl hk.size, fun i hi j hj => (hk.cell (p := ⟨b', off + i * 18 + j, none⟩) (show Fix b' from f.r z _ e)).trans (hc i hi j hj)⟩
def wthL (l : List Rcd) (ids : List Int) (k : Nat) : List Rcd := (l.take k).filter fun r => ids.contains r.id
theorem wthL_all (l : List Rcd) (ids : List Int) : wthL l ids l.length = withIds l ids := by unfold wthL withIds; rw [List.take_length]
theorem wthL_succ (l : List Rcd) (ids : List Int) {n : Nat} (hn : n < l.length) : wthL l ids (n + 1) = wthL l ids n ++ (if ids.contains l[n].id = true then [l[n]] else []) := by
 unfold wthL
 rw [List.take_succ_eq_append_getElem hn, List.filter_append]
 congr 1
 by_cases h : ids.contains l[n].id = true
 ·rw [List.filter_cons, if_pos h, if_pos h]; rfl
 ·rw [List.filter_cons, if_neg h, if_neg h]; rfl
theorem wthL_lt (l : List Rcd) (ids : List Int) {n : Nat} (hn : n < l.length) (h : ids.contains l[n].id = true) : (wthL l ids n).length < (withIds l ids).length := by
 have e := wthL_succ l ids hn
 rw [if_pos h] at e
 have : (wthL l ids (n + 1)).length ≤ (withIds l ids).length := by
  unfold wthL withIds
  exact (List.Sublist.filter _ (List.take_sublist _ _)).length_le
 rw [e, List.length_append] at this
 simp at this
 omega
section
variable {P : Program} {ops : Array Oper} {Q : Exit → Act → World → Prop} {md : Region.Mode} {S : World → Prop} {last : Nat} {F : Fence} {n : Nat}
theorem wpIn_nm {c : Code} {a : Act} {w : World} (h : ∀ W2, W2 = w → c.wpIn F n P Q a W2) : c.wpIn F n P Q a w := h w rfl
theorem oI {oi : Oper} {fuel : Nat} {listed : Array Bool} {a : Act} {w : World} (i d : Nat) (hi : ops[i]? = some oi) (hB : ((waitsAll md ops last && decide (i ≠ last) || decide (ops.size ≤ last)) && tkB md ops listed i d) = true) (hro : F.round = none)
 (hw : Region.wanted oi (yielded ops a.tmps) = false) (hab : ∀ w, oi.about P w a.eval = none) (hQ : ∀ c a w, Q (.panic c) (a.put oi.dst undef) w → Q (.panic c) a w) (hS : S w)
 (h : wpAnyI F n P md ops Q S last fuel (listed.setIfInBounds i true) { a with tmps := a.tmps.setIfInBounds d undef } w) : wpAnyI F n P md ops Q S last (fuel + 1) listed a w := by
 simp only [Bool.and_eq_true, Bool.or_eq_true, decide_eq_true_eq] at hB
 obtain ⟨h1, h2, h3, h4⟩ := tkB_spec hi hB.2
 exact wpAnyI_first hro hB.1 hi (Region.noSelect_spec h2) hQ fuel listed a w (Region.free_spec hi h3) (by simpa using h4) ⟨.inr ⟨hw, rfl⟩, hab⟩ hS (by rw [h1]; exact h)
theorem oper_value {o : Oper} {a : Act} {w : World} {v : Value} {K : Act → World → Prop} (hro : F.round = none) (hab : o.about P w a.eval = none) (hv : (execOp a.eval o).run P w = .ok (.value v) w) (h : K (a.put o.dst v) w) : Oper.wpIn F n P o a w K Q := by
 simp only [Oper.wpIn, hro, Oper.semAt_none, hv, Oper.uponIn]
 exact ⟨fun f hf => (by rw [hab] at hf; cases hf), h⟩
theorem oper_load_row {o : Oper} {a : Act} {w : World} {K : Act → World → Prop} (hro : F.round = none) (hab : o.about P w a.eval = none) (ty : TypeId) (x : Operand) (ho : o.op = .load ty x) (g : Nat) (hx : a.eval x = .pointer (some ⟨g, 0, none⟩)) (t : TypeId) (fr : Nat × Nat) (cs : Array Value) (d : TypeDesc)
 (hg : w.heap[g]? = some (.cells cs t fr)) (hu : P.underlying ty = some d) (hd : (match d with | .struct _ | .array _ _ => true | _ => false) = true) (hi : (P.info? ty).map (·.size) = some cs.size) (h : K (a.put o.dst (.agg cs)) w) : Oper.wpIn F n P o a w K Q :=
 oper_value hro hab (by unfold execOp; simp only [ho, hx, Instr.loadAt, Instr.sureAddr, Sem.run_bind, Sem.run_pure, Result.andThen_ok, run_loadVar_row w g t ty cs fr d hg hu hd hi]) h
end
set_option maxRecDepth 100000 in
set_option maxHeartbeats 8000000 in
theorem records1_in (l A b : Nat) (Fix : Nat → Prop) (W : World) (y : WV) (F : Fld) (rs : List Rcd) (a2 : Option Addr) (c2 : Nat) (ids : List Int) (fk : RK Fix A b y a2 rs ids) (hl : rs.length ≤ 100000) (hil : ids.length ≤ 9223372036854775807)
 (h : RJ W A b y F rs a2 c2 ids) (J : List Rcd → World → Prop) (hJ : AbidesFrom W.heap.size J)
 (hY : ∀ pre r W1, J pre W1 → pre.length < (withIds rs ids).length → YieldAt Fence.wide 6 Tryz.prog l #[.agg r.vals] W1 fun e W' => e = .returned (.bool true) ∧ J (pre ++ [r]) W' ∧ KeepsB Fix W1 W') (h0 : J [] W) :
 CallsIn Fence.wide 7 Tryz.prog 245 (#[.func (.yield l) #[] #[]] ++ #[.pointer (some ⟨A, 0, none⟩), .pointer (some ⟨A + 1, 0, none⟩), .pointer (some ⟨A + 1 + 1, 0, none⟩)]) W fun e W' => (∃ v, e = .returned v) ∧ ∃ ys, ys = withIds rs ids ∧ J ys W' := by
 have HY := hidE hY
 have HJ := hidE hJ
 have HR := hidE h
 have HSU := hidE (fun k (hk : k < rs.length) => wthL_succ rs ids hk)
 have HLT := hidE (fun k (hk : k < rs.length) (q : ids.contains rs[k].id = true) => wthL_lt rs ids hk q)
 have HAL := hidE (wthL_all rs ids)
 have HFK := hidE fk
 have HIL := hidE hil
 have k0 := rowc h.k0
 have k3 := rowc h.k3
 unfold WV.arr at k3
 clear hY hJ h fk hil
 refine callsIn_of_wp Tryz.func245 rfl trivial ?_ rfl
 simp only [Tryz.ntmps245, List.size_toArray, List.length_cons, List.length_nil, Nat.reduceAdd, Nat.reduceSub, Array.replicate_succ, Array.replicate_zero, List.push_toArray, List.append_toArray, List.nil_append, List.cons_append]
 gi_wp2_with fail
 clear k0 k3
 gi_loopw [12] (fun p wr => ∃ k : Nat, k ≤ rs.length ∧ p = .int .i64 (k : Int) ∧ Hid (J (wthL rs ids k) wr) ∧ Hid (RJ wr A b y F rs a2 c2 ids)) (fun p _ => rs.length - (intOf p).toNat)
 case atStart => exact ⟨0, Nat.zero_le _, rfl, hidE h0, HR⟩
 case round =>
  obtain ⟨k, hk, rfl, hJk, hRk⟩ := hrel
  by_cases hlt : k < rs.length
  rotate_left
  ·obtain rfl : k = rs.length := by omega
   gi_wp2_with fail
   go_end0
   have hfin := hJk.out
   rw [HAL.out] at hfin
   exact ⟨⟨_, rfl⟩, _, rfl, hfin⟩
  obtain ⟨rb, ro, e1, hbl, hcc⟩ := RecsAt.at hRk.out.r hlt
  have HCC := hidE (range_of_recs hcc)
  have HS := hidE (HSU.out k hlt)
  have HL := hidE (HLT.out k hlt)
  obtain ⟨r, hr⟩ : ∃ r, rs[k] = r := ⟨_, rfl⟩
  rw [hr] at HS HL HCC
  have q0 : (0 : Int) ≤ (k : Int) := by omega
  have q1 : (k : Int) < (rs.length : Int) := by omega
  obtain ⟨ct, hct⟩ : ∃ c, ids.contains r.id = c := ⟨_, rfl⟩
  rw [hct] at HS HL
  have HCT := hidE hct
  clear hcc hbl hr hct
  rw [e1]
  have HE1 := hidE e1
  clear e1
  obtain ⟨wA, rfl⟩ : ∃ z : World, z = wr := ⟨wr, rfl⟩
  gi_wp2_with (first | (refine wpListIn_load_mid rfl rfl rfl 50 _ rfl rb (ro + k * 18) rfl _ _ HCC.out Tryz.underlying50 rfl (by kernel_rfl) ?_) | (refine wpListIn_store_row (fun c e => by cases e) rfl rfl 50 _ _ rfl wA.heap.size r.vals rfl rfl 50 _ (heap_alloc_new _ _) (by kernel_rfl) (by kernel_rfl) (by simp [Rcd.vals, Value.oneCell']) ?_; rw [World.setRow_alloc_new]))
  refine wpIn_nm ?_
  intro W2 hW2
  obtain ⟨g, hg⟩ : ∃ g, wA.heap.size = g := ⟨_, rfl⟩
  have hbA : Below wA.heap.size wA W2 := by rw [hW2]; exact (Below.refl _ _).alloc (Nat.le_refl _) _
  have hG0 : W2.heap[g]? = some (.cells r.vals 50) := by rw [hW2, ← hg]; exact heap_alloc_new _ _
  rw [hg]
  have j0 := hidE (jNext HJ.out hJk.out hbA)
  have R0 := hidE (hRk.out.next hbA)
  clear hW2 hbA hJk hRk HCC
  have j0 := hidE (jNext HJ.out j0.out (Below.refl _ W2).drew)
  have hS1 : RJ W2.drew A b y F rs a2 c2 ids := R0.out.next (Below.refl _ W2).drew
  have hG1 : W2.drew.heap[g]? = some (.cells r.vals 50) := hG0
  have Hc := hidE (fun W (h : RJ W A b y F rs a2 c2 ids) => contains_any W a2 c2 ids r.id HIL.out h.i)
  rw [HCT.out] at Hc
  clear hG0 R0
  refine wpIn_region_I (S := fun W => RJ W A b y F rs a2 c2 ids) (last := 100) (by kernel_rfl) ?_
  refine tI 0 16 (.slice a2 ids.length c2) rfl (by kernel_rfl) rfl rfl (fun _ => rfl) (fun _ _ _ h => h) (fun V hV => ?_) hS1 ?_
  ·have z := rowc hV.k1; simp [go_sem, execOp, z]
  try simp only [sA, sB, sC]
  refine tI 1 17 (.pointer (some ⟨g, 0, none⟩)) rfl (by kernel_rfl) rfl rfl (fun _ => rfl) (fun _ _ _ h => h) (fun V hV => ?_) hS1 ?_
  ·simp [go_sem, execOp]
  try simp only
  refine tI 4 20 (.bool true) rfl (by kernel_rfl) rfl rfl (fun _ => rfl) (fun _ _ _ h => h) (fun V hV => ?_) hS1 ?_
  ·have z := rowc hV.k2; simp [go_sem, execOp, z]
  try simp only
  refine sI 2 rfl (by kernel_rfl) (fun K hK => ?_)
  refine Eq.mpr (if_pos (by kernel_rfl)) ?_
  refine oper_value (v := .int .i64 r.id) rfl rfl (by have z := rowc hG1; unfold Rcd.vals at z; simp [go_sem, execOp, z]) ?_
  refine hK.out _ _ ⟨.inr hS1, ?_⟩
  clear hK K
  try simp only [Act.put, sA, sB, sC]
  refine sI 3 rfl (by kernel_rfl) (fun K hK => ?_)
  refine Eq.mpr (if_pos (by kernel_rfl)) ?_
  gi_wp2_with fail
  refine ⟨trivial, (callsIn_wide.2 (Hc.out _ hS1)).mono ?_⟩
  rintro e u1 ⟨rfl, rfl⟩
  gi_wp2_with fail
  refine hK.out _ _ ⟨.inr hS1, ?_⟩
  clear hK K
  try simp only [Act.put, sA, sB, sC]
  refine tI 5 21 (.bool ct) rfl (by kernel_rfl) rfl rfl (fun _ => rfl) (fun _ _ _ h => h) (fun V hV => ?_) hS1 ?_
  ·cases ct <;> simp [go_sem, execOp]
  try simp only [sA, sB, sC]
  refine tI 6 22 (.bool ct) rfl (by kernel_rfl) rfl rfl (fun _ => rfl) (fun _ _ _ h => h) (fun V hV => ?_) hS1 ?_
  ·simp [go_sem, execOp]
  try simp only [sA, sB, sC]
  cases ct with
  | false =>
    refine oI 7 23 rfl (by kernel_rfl) rfl rfl (fun _ => rfl) (fun _ _ _ h => h) hS1 ?_
    try simp only [sA, sB, sC]
    refine oI 8 24 rfl (by kernel_rfl) rfl rfl (fun _ => rfl) (fun _ _ _ h => h) hS1 ?_
    try simp only [sA, sB, sC]
    refine sI 9 rfl (by kernel_rfl) (fun K hK => ?_)
    refine Eq.mpr (if_neg (fun h => Bool.false_ne_true ((by kernel_rfl : false = _).trans h))) ?_
    refine ⟨fun _ h => (by cases h), hK.out _ _ ⟨.inr hS1, ?_⟩⟩
    clear hK K
    try simp only [Act.put, sA]
    refine oI 10 26 rfl (by kernel_rfl) rfl rfl (fun _ => rfl) (fun _ _ _ h => h) hS1 ?_
    try simp only [sA, sB, sC]
    refine tI 11 27 (.bool false) rfl (by kernel_rfl) rfl rfl (fun _ => rfl) (fun _ _ _ h => h) (fun V hV => ?_) hS1 ?_
    ·simp [go_sem, execOp]
    try simp only
    refine wpAnyI_done (by kernel_rfl) ?_ _
    gi_wp2_with fail
    go_roundw
    case rel => exact ⟨k + 1, by omega, by go_num, by rw [HS.out]; simpa using j0, hidE hS1⟩
    case measure => simp [intOf]; omega
  | true =>
    refine tI 7 23 (.func (.yield l) #[] #[]) rfl (by kernel_rfl) rfl rfl (fun _ => rfl) (fun _ _ _ h => h) (fun V hV => ?_) hS1 ?_
    ·simp [go_sem, execOp]
    try simp only [sA, sB, sC]
    refine sI 8 rfl (by kernel_rfl) (fun K hK => ?_)
    refine Eq.mpr (if_pos (by kernel_rfl)) ?_
    refine oper_load_row rfl rfl 50 _ rfl g rfl 50 (0,0) r.vals _ hG1 Tryz.underlying50 rfl (by kernel_rfl) ?_
    refine hK.out _ _ ⟨.inr hS1, ?_⟩
    clear hK K
    try simp only [Act.put, sA]
    obtain ⟨fn, tmps, assign, body, hy, hR⟩ := HY.out _ r _ j0.out (HL.out (by trivial))
    refine sI 9 rfl (by kernel_rfl) (fun K hK => ?_)
    refine Eq.mpr (if_pos (by kernel_rfl)) ?_
    gi_wp2_with fail
    refine hR.mono ?_
    rintro e W3 ⟨rfl, hJ3, hk3⟩
    have hS3 := hS1.keep HFK.out hk3
    rw [if_pos trivial] at HS
    rw [← HS.out] at hJ3
    have HJ3 := hidE hJ3
    clear hJ3 hk3 hR hy
    gi_wp2_with fail
    refine hK.out _ _ ⟨.inr hS3, ?_⟩
    clear hK K
    try simp only [Act.put, sA, sB, sC]
    refine tI 10 26 (.bool false) rfl (by kernel_rfl) rfl rfl (fun _ => rfl) (fun _ _ _ h => h) (fun V hV => ?_) hS3 ?_
    ·simp [go_sem, execOp]
    try simp only [sA, sB, sC]
    refine tI 11 27 (.bool false) rfl (by kernel_rfl) rfl rfl (fun _ => rfl) (fun _ _ _ h => h) (fun V hV => ?_) hS3 ?_
    ·simp [go_sem, execOp]
    try simp only [sA, sB, sC]
    refine wpAnyI_done (by kernel_rfl) ?_ _
    gi_wp2_with fail
    go_roundw
    case rel => exact ⟨k + 1, by omega, by go_num, HJ3, hidE hS3⟩
    case measure => simp [intOf]; omega
theorem KeepsD.cell {B : Nat} {W W' : World} (h : KeepsD B W W') {p : Addr} {v : Value} (hp : W.cell? p = some v) : W'.cell? p = some v := by
 obtain ⟨o, ho, hc⟩ := cells_of_cell hp
 cases o <;> simp [Obj.isCells] at hc
 case cells c t f =>
  have := h.cells _ _ _ _ ho
  rw [← hp]
  unfold World.cell?
  rw [ho, this]
theorem KeepsD.recs {α : Type} {k : Nat} {g : α → List Value} {B : Nat} {W W' : World} (h : KeepsD B W W') (hs : W.heap.size ≤ W'.heap.size) {a : Option Addr} {xs : List α} (hx : RecsAt k g W a xs) (hg : ∀ x, (g x).length = k) : RecsAt k g W' a xs := by
 rcases hx with e | ⟨b, off, e, hl, hc⟩
 ·exact .inl e
 ·refine .inr ⟨b, off, e, Nat.lt_of_lt_of_le hl hs, fun i hi j hj => ?_⟩
  have := hc i hi j hj
  rw [List.getElem?_eq_getElem (by rw [hg]; exact hj)] at this ⊢
  exact h.cell this
theorem KeepsD.bnds {B : Nat} {W W' : World} (h : KeepsD B W W') (hs : W.heap.size ≤ W'.heap.size) {a : Option Addr} {xs : List Bd} (hx : BoundsAt W a xs) : BoundsAt W' a xs := by
 rcases hx with e | ⟨b, off, e, hl, hc⟩
 ·exact .inl e
 ·refine .inr ⟨b, off, e, Nat.lt_of_lt_of_le hl hs, fun i hi => ?_⟩
  obtain ⟨h0, h1, h2, h3⟩ := hc i hi
  exact ⟨h.cell h0, h.cell h1, h.cell h2, h.cell h3⟩
theorem KeepsD.fld {B : Nat} {W W' : World} (h : KeepsD B W W') (hs : W.heap.size ≤ W'.heap.size) {x : FV} {F : Fld} (hx : FldAt W x F) : FldAt W' x F :=
 ⟨h.recs hs hx.st (fun _ => rfl), h.recs hs hx.lm (fun _ => rfl), h.recs hs hx.pr (fun _ => rfl), h.recs hs hx.vr (fun _ => rfl), hx.ls, hx.ll, hx.lp, hx.lv, hx.nm, hx.sx, hx.px, hx.vx⟩
theorem KeepsD.wat {B : Nat} {W W' : World} (h : KeepsD B W W') (hs : W.heap.size ≤ W'.heap.size) {b : Nat} {y : WV} {F : Fld} {l : List Rcd} (hx : WAt W b y F l) : WAt W' b y F l :=
 ⟨h.cells _ _ _ _ hx.box, h.bnds hs hx.bnd, hx.cap, h.fld hs hx.fld, h.recs hs hx.rcd (fun _ => rfl)⟩
theorem wpListIn_out {P : Program} {ops : Array Oper} {Q : Exit → Act → World → Prop} {l n : Nat} {a : Act} {w : World} (ls : List Oper) (hnd : noDefer ls.toArray = true) (hout : ¬ LetsOut Q) (h : wpList P ops Q ls a w) : wpListIn (Fence.wide.inRound l) n P ops Q ls a w :=
 wpListIn_of_wpList l n hout ls (fun o ho c => by
  obtain ⟨j, hj, e⟩ := List.getElem_of_mem ho
  exact noDefer_spec hnd j o (by simp [← e]) c) a w h
theorem built_rcd (r : Rcd) : Tryz.prog.builtSlice 50 1 [(0, .agg r.vals)] = some r.vals := by kernel_rfl
attribute [local go_sem] Oper.semAt_some
def onlyP (F : Fld) (l : List Rcd) (ids : List Int) : Prop := risingB ids = true ∧ (withIds l ids).length = ids.length ∧ (checkE F (withIds l ids)).2 = 0
def OnlyPost (F : Fld) (l : List Rcd) (ids : List Int) (e : Ending) (w' : World) : Prop :=
 (onlyP F l ids ∧ ∃ b y, e = .returned (.tuple #[.pointer (some ⟨b, 0, none⟩), .bool true]) ∧ WAt w' b y F (withIds l ids)) ∨ (¬ onlyP F l ids ∧ e = .returned (.tuple #[.pointer none, .bool false]))
theorem ymid {P : Program} {o : Oper} {a : Act} {V : World} {ty : TypeId} {x : Operand} {b off : Nat} {cs : List Value} {d : TypeDesc} (ho : o.op = .load ty x) (hx : a.eval x = .pointer (some ⟨b, off, none⟩)) (hc : V.rangeAt b off cs)
 (hu : P.underlying ty = some d) (hd : d.isRow = true) (hi : (P.info? ty).map (·.size) = some cs.length) : (execOp a.eval o).run P V = .ok (.value (.agg cs.toArray)) V := by
 unfold execOp
 simp only [ho, hx, Instr.loadAt, Instr.sureAddr, Sem.run_bind, Sem.run_pure, Result.andThen_ok, run_loadVar_mid V b off ty cs d hc hu hd hi]
theorem fld_mid {V : World} {b : Nat} {y : WV} {F : Fld} {l : List Rcd} (h : V.heap[b]? = some (.cells (y.arr F l) 119 (0,0))) : V.rangeAt b 2 (y.x.arr F).toList := by
 intro j v hv
 have e : (y.x.arr F).toList[j]? = (y.arr F l)[2 + j]? := by
  unfold FV.arr WV.arr
  match j with
  | 0 => rfl
  | 1 => rfl
  | 2 => rfl
  | 3 => rfl
  | j + 4 =>
    have := (List.getElem?_eq_some_iff.1 hv).1
    unfold FV.arr at this
    simp at this
    omega
 rw [cell_of_row _ _ _ _ _ _ h, ← e]
 exact hv
def noPan (Q : Exit → Act → World → Prop) : Exit → Act → World → Prop := fun e a w => (∀ c, e ≠ .panic c) ∧ Q e a w
theorem wp_noPan {P : Program} {c : Code} {Q : Exit → Act → World → Prop} {a : Act} {w : World} (h : c.wp P (noPan Q) a w) : c.wp P Q a w := Code.wp_mono (fun _ _ _ h => h.2) h
theorem noPan_hQ {Q : Exit → Act → World → Prop} {d : Option Tmp} {v : Value} : ∀ c a w, noPan Q (.panic c) (a.put d v) w → noPan Q (.panic c) a w := fun _ _ _ h => (h.1 _ rfl).elim
theorem keep_typed50 {W wa : World} {tmp : Obj} {v nv : Value} {B k base n : Nat} {cs : Array Value} {t : TypeId} {f : Nat × Nat} {xs : List Value} (h : W.ownsRow base 50 18 v n xs) (hg : (W.alloc tmp).grownBy wa v.ownBlock) (hk : W.heap[k]? = some (.cells cs t f)) (ht : t ≠ 50) (hB : k ≠ B) : (wa.setCell ⟨B, 0, none⟩ nv).heap[k]? = W.heap[k]? := by
 rw [heap_setCell_other _ _ _ _ hB]
 have hlt := lt_of_block hk
 rw [hg.block k (by simp; omega) ?_]
 ·exact Below.heap_alloc _ _ _ hlt
 ·intro e
  rcases h.2 with ⟨rfl, _⟩ | ⟨g, cap, cur, rfl, _, hgb, _⟩
  ·cases e
  ·simp only [Value.ownBlock, Option.some.injEq] at e
   subst e
   rw [hk] at hgb
   cases hgb
   exact ht rfl
set_option maxRecDepth 100000 in
set_option maxHeartbeats 4000000 in
theorem only_any (w : World) (b : Nat) (y : WV) (F : Fld) (l : List Rcd) (a2 : Option Addr) (c2 : Nat) (ids : List Int) (h : WAt w b y F l) (hi : IntsAt w a2 ids) (hil : ids.length ≤ 9223372036854775807) (hn : l.length ≤ 100000) (hk : ∀ r ∈ l, (0 ≤ r.call.kind ∧ r.call.kind ≤ 255) ∧ r.deed.size ≤ 9223372036854775807) :
 Calls Tryz.prog 107 #[.pointer (some ⟨b, 0, none⟩), .slice a2 ids.length c2] w fun e w' => OnlyPost F l ids e w' ∧ Below w.heap.size w w' := by
 obtain ⟨i0, hi50, hz0, hz1, hz2⟩ := info_parts info50
 have HI0 := hidE hi50
 have HZ0 := hidE hz0
 have HZ1 := hidE hz1
 have HZ2 := hidE hz2
 obtain ⟨w1, hw1⟩ : ∃ W, W = w.alloc (.cells #[.slice none 0 0] 28) := ⟨_, rfl⟩
 have HS1 := hidE (show w1.heap.size = w.heap.size + 1 by rw [hw1]; simp)
 have HB1 := hidE (show Below w.heap.size w w1 by rw [hw1]; exact (Below.refl _ _).alloc (Nat.le_refl _) _)
 have HBX := hidE (show Boxed w1 w.heap.size 28 (.slice none 0 0) by rw [hw1]; exact Boxed.new w 28 (.slice none 0 0))
 have HW := hidE (h.next HB1.out)
 have HI := hidE (hi.below HB1.out (Nat.le_refl _))
 have HW0 := hidE h
 have HI00 := hidE hi
 have HW1 := hidE hw1
 have HK := hidE hk
 have HNN := hidE hn
 have HIL := hidE hil
 have HLT := hidE h.lt
 clear hi50 hz0 hz1 hz2 hw1 h hi hk
 refine (callsIn_wide (n := 8)).1 (callsIn_of_wp_marks Tryz.func107 rfl trivial (wpIn_wide.2 ?_) rfl)
 simp only [Tryz.ntmps107, List.size_toArray, List.length_cons, List.length_nil, Nat.reduceAdd, Nat.reduceSub, Array.replicate_succ, Array.replicate_zero, List.push_toArray, List.append_toArray, List.nil_append, List.cons_append]
 go_upto_region 2 with fail
 rw [← HW1.out]
 clear HW1
 go_wp2_with fail
 refine (recordsW_any _ b a2 ids.length c2 true).mono ?_
 rintro e w2 ⟨rfl, hw2⟩
 have HS2 := hidE (show w2.heap.size = w.heap.size + 4 by rw [hw2]; have := HS1.out; simp; omega)
 have hb2 : Below w1.heap.size w1 w2 := by rw [hw2]; exact (((Below.refl _ _).alloc (Nat.le_refl _) _).alloc (by simp) _).alloc (by simp; omega) _
 have HB2 := hidE (HB1.out.trans (hb2.mono HB1.out.size))
 have HBX2 := hidE (show Boxed w2 w.heap.size 28 (.slice none 0 0) by rw [hw2]; exact ((HBX.out.alloc _).alloc _).alloc _)
 have HR2 := hidE (show RJ w2 w1.heap.size b y F l a2 c2 ids by
  have hh := HW.out.next hb2
  refine ⟨?_, ?_, ?_, hh.box, HI.out.below hb2 (Nat.le_refl _), hh.rcd⟩
  ·rw [hw2, Below.heap_alloc _ _ _ (by simp; omega), Below.heap_alloc _ _ _ (by simp)]; exact heap_alloc_new _ _
  ·rw [hw2, Below.heap_alloc _ _ _ (by simp)]; have := heap_alloc_new (w1.alloc (.cells #[.pointer (some ⟨b, 0, none⟩)] 103)) (.cells #[.slice a2 ids.length c2] 52); simpa using this
  ·rw [hw2]; have := heap_alloc_new ((w1.alloc (.cells #[.pointer (some ⟨b, 0, none⟩)] 103)).alloc (.cells #[.slice a2 ids.length c2] 52)) (.cells #[.bool true] 4); simpa using this)
 clear hw2 hb2 HBX HW HI
 go_wp2_with fail
 obtain ⟨Fix, hFix⟩ : ∃ Fix : Nat → Prop, Fix = (fun k => k ≠ w.heap.size ∧ k < w.heap.size + 4) := ⟨_, rfl⟩
 have FK := hidE (show RK Fix w1.heap.size b y a2 l ids by
  have hlt := HLT.out
  have HL1 := HS1.out
  rw [hFix]
  refine ⟨⟨by omega, by omega⟩, ⟨by omega, by omega⟩, ⟨by omega, by omega⟩, ⟨by omega, by omega⟩, fun z q e => ?_, fun z q e => ?_⟩
  ·rcases HI00.out with e0 | ⟨b', o', e', hl, _⟩
   ·exact absurd e0 z
   ·rw [e] at e'; cases e'; exact ⟨by dsimp only; omega, by dsimp only; omega⟩
  ·rcases HW0.out.rcd with e0 | ⟨b', o', e', hl, _⟩
   ·exact absurd e0 z
   ·rw [e] at e'; cases e'; exact ⟨by dsimp only; omega, by dsimp only; omega⟩)
 have HFX := hidE hFix
 have HSPN := hidE (fun (lv : Nat) W (hr : RJ W w1.heap.size b y F l a2 c2 ids) => records1_in lv w1.heap.size b Fix W y F l a2 c2 ids FK.out HNN.out HIL.out hr)
 have HQL := hidE (show (withIds l ids).length ≤ 100000 from Nat.le_trans (List.length_filter_le _ _) HNN.out)
 have HQK := hidE (show ∀ r ∈ withIds l ids, (0 ≤ r.call.kind ∧ r.call.kind ≤ 255) ∧ r.deed.size ≤ 9223372036854775807 from fun r hr => HK.out r (List.mem_filter.1 hr).1)
 have HON := hidE (show onlyP F l ids ↔ (risingB ids = true ∧ (withIds l ids).length = ids.length ∧ (checkE F (withIds l ids)).2 = 0) from Iff.rfl)
 obtain ⟨R, hR⟩ : ∃ R, withIds l ids = R := ⟨_, rfl⟩
 rw [hR] at HSPN HQL HQK HON
 have HRR := hidE hR
 have HKB := hidE (show ∀ A B : World, w2.heap.size ≤ A.heap.size → Below A.heap.size A B → KeepsB Fix A B from fun A B hs hb => KeepsB.below hb (fun k hk => by rw [hFix] at hk; have := HS2.out; have := hk.2; omega))
 clear hFix hR
 obtain ⟨IX, hIX⟩ : ∃ IX : List Rcd → World → Prop, (fun pre W => (∃ v, Boxed W w.heap.size 28 v ∧ W.ownsRow w.heap.size 50 18 v pre.length (pre.flatMap Rcd.cells) ∧ pre.length ≤ R.length) ∧ Below w.heap.size w W ∧ w.heap.size + 4 ≤ W.heap.size ∧ RJ W w1.heap.size b y F l a2 c2 ids) = IX := ⟨_, rfl⟩
 refine wp_rangeCaps (gf := 245) (cs := #[.pointer (some ⟨w1.heap.size, 0, none⟩), .pointer (some ⟨w1.heap.size + 1, 0, none⟩), .pointer (some ⟨w1.heap.size + 1 + 1, 0, none⟩)]) rfl (enters_of Tryz.func245 (by kernel_rfl) rfl) (fun (r : Rcd) => #[.agg r.vals]) (fun x => rfl) (fun ys => ys = R) R.length (KeepsB Fix) (fun h k => h.trans k) ?kb ?seq
  IX ?own ?start (fun y' a' W => ∃ g, a' = { tmps := #[.pointer (some ⟨b, 0, none⟩), .slice a2 ids.length c2, undef, undef, .pointer none, .bool false, .pointer (some ⟨w.heap.size, 0, none⟩), .pointer (some ⟨g, 0, none⟩), undef, undef, .pointer (some ⟨b, 0, none⟩), .slice a2 ids.length c2, .func (.func 245) #[] #[.pointer (some ⟨w1.heap.size, 0, none⟩), .pointer (some ⟨w1.heap.size + 1, 0, none⟩), .pointer (some ⟨w1.heap.size + 1 + 1, 0, none⟩)], .agg y'.vals, undef, undef, undef, undef, undef, undef, undef, undef, undef, undef, undef, undef, undef, undef, undef, undef, undef, undef, undef, undef, undef, undef, undef, undef, undef, undef], defers := [] } ∧ W.heap[g]? = some (.cells y'.vals 50 (0,0)) ∧ w.heap.size + 4 ≤ g) ?ax ?assign ?body ?done
 case kb =>
  intro W lv o o' hle ho hi hwk
  have := HS2.out
  refine ⟨by simp, fun k hk => ?_⟩
  rw [HFX.out] at hk
  exact World.putObj_heap_other (by have := hk.2; omega)
 case seq =>
  intro lv J W hb J2 hY h0
  exact HSPN.out lv W (HR2.out.next hb) J J2 hY h0
 case own =>
  rw [← hIX]
  rintro pre X Y row ⟨h1, h2, h3, h4⟩ hg hr
  have hs2 := HS2.out
  refine ⟨holdsRow_own w.heap.size w.heap.size 28 50 18 (fun p : List Rcd => p.length) (fun p => p.flatMap Rcd.cells) (fun p _ => p.length ≤ R.length) pre X Y row h1 hg (fun r e => (hr r e).2), h2.grown hg (by omega) (fun k e => by have := (hr k e).1; omega), Nat.le_trans h3 hg.size, ?_⟩
  refine h4.keep FK.out ⟨hg.size, fun k hk => ?_⟩
  rw [HFX.out] at hk
  have := hk.2
  exact hg.block _ (by omega) (fun e => by have := (hr _ e.symm).1; omega)
 case start =>
  rw [← hIX]
  exact ⟨⟨_, HBX2.out, World.ownsRow_nil _ _ _ _, Nat.zero_le _⟩, HB2.out, by rw [HS2.out]; omega, HR2.out⟩
 case ax =>
  rintro y' a' _ X Y row ⟨g, h1, h2, h3⟩ hg hr
  exact ⟨g, h1, (grownBy_keeps_cells hg (fun r e => (hr r e).2) h2 rfl).trans h2, h3⟩
 case assign =>
  intro lv pre y' W K hI hK
  have hI2 := hI
  rw [← hIX] at hI2
  have hsz := hI2.2.2.1
  obtain ⟨WA, hWA⟩ : ∃ WA, WA = W.alloc (.cells y'.vals 50) := ⟨_, rfl⟩
  have hba : Below W.heap.size W WA := by rw [hWA]; exact (Below.refl _ _).alloc (Nat.le_refl _) _
  have hIA : IX pre WA := by
   rw [← hIX]
   obtain ⟨⟨v, g1, g2, g3⟩, g4, g5, g6⟩ := hI2
   exact ⟨⟨v, by rw [hWA]; exact g1.alloc _, by rw [hWA]; exact g2.alloc _, g3⟩, g4.trans (hba.mono g4.size), Nat.le_trans g5 hba.size, g6.next hba⟩
  have hK2 := hK _ WA (by rw [hWA]; exact (KeepsOthers.alloc W _).from _) (HKB.out _ _ (by have := HS2.out; omega) hba) hIA ⟨W.heap.size, rfl, by rw [hWA]; exact heap_alloc_new _ _, hsz⟩
  clear hK
  rw [hWA] at hK2
  simp only [s_a, s_b, s_c, List.zip_toArray, List.zip_cons_cons, List.zip_nil_right, List.foldl_toArray, List.foldl_cons, List.foldl_nil] at hK2 ⊢
  gi_wp2_with (refine wpListIn_out _ (by kernel_rfl) (by rintro ⟨a, w, h⟩; exact h) ?_; refine wpList_store_row rfl 50 _ _ rfl W.heap.size y'.vals rfl rfl 50 _ (heap_alloc_new _ _) (by kernel_rfl) (by kernel_rfl) (by simp [Rcd.vals, Value.oneCell']) ?_; rw [World.setRow_alloc_new])
  exact hK2
 case body =>
  rintro lv pre y' a' W hIW ⟨g, rfl, hg, hgl⟩ hlen2
  rw [← hIX] at hIW
  obtain ⟨⟨v, hv, hrow, hpl⟩, hbl, hsz, hK⟩ := hIW
  have c0 := hv.cell
  have HG := hidE hg
  have HV := hidE hv
  have HROW := hidE hrow
  have HBL := hidE hbl
  have HSZ := hidE hsz
  have HKK := hidE hK
  obtain ⟨v', wa, hrun, hown', hgrow, -⟩ := run_append_own (P := Tryz.prog) (W.alloc (.cells y'.vals 50)) w.heap.size 28 28 50 i0 _ 18 152 Tryz.underlying28 HI0.out HZ0.out HZ1.out HZ2.out rfl (by decide) v pre.length (pre.flatMap Rcd.cells) (hrow.alloc _) ⟨W.heap.size, 0, none⟩ 1 1 y'.cells rfl (fun j u hj => by
   rw [show ((⟨W.heap.size, 0, none⟩ : Addr).add j) = ⟨W.heap.size, 0 + j, none⟩ from by unfold Addr.add; split <;> simp_all]
   rw [cell_of_row _ _ _ _ _ _ (heap_alloc_new W (.cells y'.vals 50)), Nat.zero_add]
   simpa [Rcd.cells, Rcd.vals] using hj) (rcd_one y') (by have := HQL.out; unfold maxLen; omega) (by have := HQL.out; omega) (by simp; omega)
  obtain ⟨g', cp', rfl⟩ := ownsRow_succ hown'
  have hA := Boxed.appended hv (by decide) hrow (by omega) (Nat.le_refl _) hown' hgrow
  have cb := hA.1.cell
  have fb := hA.1.frozen
  have HRUN := hidE hrun
  have HGR := hidE hgrow
  have HA := hidE hA
  clear hv hrow hbl hsz hK hrun hA hown' hgrow hg
  gi_wp2_with (refine wpListIn_out _ (by kernel_rfl) (by rintro ⟨a, w, h⟩; cases h.1) ?_; go_wp2_with (first | (at_builtin; refine wpList_op_append rfl (s := .tmp 14) (x := .tmp 16) (t := 28) rfl rfl rfl HRUN.out ?_) | (refine wpList_load_rowG rfl 50 _ rfl _ rfl g rfl 50 _ (0,0) _ HG.out Tryz.underlying50 rfl (by kernel_rfl) ?_) | (refine Great.wpList_buildSliceTo rfl 28 50 1 _ rfl _ rfl _ rfl Tryz.underlying28 y'.vals (by simp [Act.eval]; exact built_rcd y') ?_)))
  have h1s := HS1.out
  have kb : KeepsB Fix W (wa.setCell ⟨w.heap.size, 0, none⟩ (.slice (some ⟨g', 0, none⟩) (pre.length + 1) cp')) := by
   refine ⟨HA.out.2.2.2.2.size, fun k hk => ?_⟩
   rw [HFX.out] at hk
   by_cases hkl : k < w.heap.size
   ·exact HA.out.2.2.2.2.block k hkl
   ·have q : k = w1.heap.size ∨ k = w1.heap.size + 1 ∨ k = w1.heap.size + 1 + 1 := by have := hk.1; have := hk.2; omega
    rcases q with rfl | rfl | rfl
    ·exact keep_typed50 HROW.out HGR.out HKK.out.k0 (by decide) (by omega)
    ·exact keep_typed50 HROW.out HGR.out HKK.out.k1 (by decide) (by omega)
    ·exact keep_typed50 HROW.out HGR.out HKK.out.k2 (by decide) (by omega)
  refine ⟨rfl, HA.out.2.2.2.1.from _, kb, ?_⟩
  rw [← hIX]
  refine ⟨⟨_, HA.out.2.1, ?_, ?_⟩, HBL.out.trans HA.out.2.2.2.2, Nat.le_trans HSZ.out kb.size, HKK.out.keep FK.out kb⟩
  ·have := HA.out.2.2.1
   rw [List.length_append, List.flatMap_append]
   simpa using this
  ·rw [List.length_append]; exact hlen2
 case done =>
  rintro D ys W hD hys hI2 hKD
  subst hys
  rw [← hIX] at hI2
  obtain ⟨⟨v, hv, hrow, _⟩, hbl, hsz, hrj⟩ := hI2
  obtain ⟨a3, c3, rfl, hr3⟩ := rcds_owned hrow
  have c0 := hv.cell
  have HBV := hidE hv
  have HROW := hidE hrow
  have HBL := hidE hbl
  have HR3 := hidE hr3
  have HRJ := hidE hrj
  have HKD := hidE hKD
  have hs2 := HS2.out
  have HDG := hidE (show w.heap.size ≤ D from by omega)
  have HRI := hidE (fun W (h : IntsAt W a2 ids) => risingI_any W a2 c2 ids h HIL.out)
  obtain ⟨rb, hrb⟩ : ∃ r, risingB ids = r := ⟨_, rfl⟩
  rw [hrb] at HRI HON
  clear hv hrow hbl hr3 hrj hKD hrb
  go_wp2_with fail
  refine (HRI.out _ HRJ.out.i).mono ?_
  rintro e w3 ⟨rfl, hb3⟩
  have HB3 := hidE hb3
  have HWS := hidE (show w.heap.size < W.heap.size by omega)
  have HBS := hidE (show b < W.heap.size from lt_of_block HRJ.out.k3)
  have c1 : w3.cell? ⟨w.heap.size, 0, none⟩ = some (.slice a3 ys.length c3) := (hb3.cell (p := ⟨w.heap.size, 0, none⟩) HWS.out).trans c0
  have HB3W := hidE (HBL.out.trans (hb3.mono HBL.out.size))
  have HCQ := hidE c1
  clear hb3 c0
  cases rb with
  | false =>
    have hno : ¬ onlyP F l ids := fun q => by have := (HON.out.1 q).1; cases this
    clear c1
    go_wp2_with fail
    refine leaves_marks (B := w.heap.size) _ w3 ⟨[D], rfl, by simp, fun D' hm => by rw [List.mem_singleton] at hm; subst hm; exact ⟨HDG.out, blk_below HB3.out (lt_of_block HKD.out) HKD.out⟩⟩ (fun W' hk' => ?_)
    exact ⟨_, results_tmp2 Tryz.results107 _ _ _, .inr ⟨hno, rfl⟩, HB3W.out.trans hk'.below⟩
  | true =>
    by_cases hne : ys.length = ids.length
    rotate_left
    ·have hno : ¬ onlyP F l ids := fun q => hne (HON.out.1 q).2.1
     have hd : ((ys.length : Int) != (ids.length : Int)) = true := by simp only [bne_iff_ne, ne_eq]; omega
     have HNO := hidE hno
     clear hno hne
     go_wp2_with fail
     refine leaves_marks (B := w.heap.size) _ w3 ⟨[D], rfl, by simp, fun D' hm => by rw [List.mem_singleton] at hm; subst hm; exact ⟨HDG.out, blk_below HB3.out (lt_of_block HKD.out) HKD.out⟩⟩ (fun W' hk' => ?_)
     exact ⟨_, results_tmp2 Tryz.results107 _ _ _, .inr ⟨HNO.out, rfl⟩, HB3W.out.trans hk'.below⟩
    have hd : ((ys.length : Int) != (ids.length : Int)) = false := by simp only [bne_eq_false_iff_eq]; omega
    have HNE := hidE hne
    clear hne
    go_upto_region 7 with fail
    have hS0 : Below w3.heap.size w3 w3.drew := (Below.refl _ _).drew
    have HX3 := hidE (show w3.heap[b]? = some (.cells (y.arr F l) 119 (0,0)) from blk_below HB3.out HBS.out HRJ.out.k3)
    have HOP := hidE (fun W9 (hb : Below W.heap.size W W9) (h0 : Below w.heap.size w W9) => open_any W9 y.x F a3 c3 ys (HW0.out.fld.below h0) (HR3.out.below hb (Nat.le_refl _)) HQL.out HQK.out)
    unfold FV.val FV.arr at HOP
    refine wp_noPan ?_
    refine wp_region_F (S := Below w3.heap.size w3) (last := 100) (by kernel_rfl) ?_
    refine tF 0 29 (.pointer (some ⟨b, 0, none⟩)) rfl (by kernel_rfl) rfl noPan_hQ (fun V hV => ?_) hS0 ?_
    ·simp [go_sem, execOp]
    try simp only [sA, sB, sC]
    refine tF 1 30 (.pointer (some ⟨b, 0, none⟩)) rfl (by kernel_rfl) rfl noPan_hQ (fun V hV => ?_) hS0 ?_
    ·simp [go_sem, execOp]
    try simp only [sA, sB, sC]
    refine tF 2 31 (.pointer (some ⟨b, 2, none⟩)) rfl (by kernel_rfl) rfl noPan_hQ (fun V hV => ?_) hS0 ?_
    ·simp [go_sem, execOp]
    try simp only [sA, sB, sC]
    refine tF 3 32 (.agg #[.slice y.x.aS F.sts.length y.x.cS, .slice y.x.aL F.lms.length y.x.cL, .slice y.x.aP F.prs.length y.x.cP, .slice y.x.aV F.vrs.length y.x.cV]) rfl (by kernel_rfl) rfl noPan_hQ (fun V hV => ?_) hS0 ?_
    ·exact ymid rfl rfl (fld_mid (blk_below hV (lt_of_block HX3.out) HX3.out)) Tryz.underlying27 rfl (by kernel_rfl)
    try simp only [sA, sB, sC]
    refine tF 4 33 (.slice a3 ys.length c3) rfl (by kernel_rfl) rfl noPan_hQ (fun V hV => ?_) hS0 ?_
    ·(have z := (hV.cell (p := ⟨w.heap.size, 0, none⟩) (Nat.lt_of_lt_of_le HWS.out HB3.out.size)).trans HCQ.out; simp [go_sem, execOp, z])
    try simp only [sA, sB, sC]
    refine wpAnyF_step 5 rfl (by kernel_rfl) (fun K hK => ?_)
    go_simp
    go_at_call 85
    refine (HOP.out _ (HB3.out.trans (hS0.mono HB3.out.size)) (HB3W.out.trans (hS0.mono HB3W.out.size))).mono ?_
    rintro e w5 ⟨hp, hb5⟩
    have hS5 : Below w3.heap.size w3 w5 := hS0.trans (hb5.mono hS0.size)
    have HB5 := hidE (HB3W.out.trans (hS5.mono HB3W.out.size))
    have HBW5 := hidE (HB3.out.trans (hS5.mono HB3.out.size))
    obtain ⟨er, her⟩ : ∃ er, (checkE F ys).2 = er := ⟨_, rfl⟩
    rw [her] at hp
    have HER := hidE her
    clear hb5 her
    unfold OpenPost at hp
    by_cases h0 : er = 0
    ·rw [if_pos h0] at hp
     obtain ⟨bb, oo, cc, rfl, hw, -, -⟩ := hp
     have HWW := hidE hw
     have hyes : onlyP F l ids := HON.out.2 ⟨by trivial, HNE.out, HER.out.trans h0⟩
     have HYES := hidE hyes
     clear hw hyes h0 hd c1
     go_wp2_with fail
     refine hK.out _ _ (.inr hS5) ?_
     clear hK K
     try simp only [Act.put, sA, sB, sC]
     refine tF 6 28 (.tuple #[.pointer (some ⟨bb, 0, none⟩), .int .i64 0]) rfl (by kernel_rfl) rfl noPan_hQ (fun V hV => ?_) hS5 ?_
     ·simp [go_sem, execOp]
     try simp only [sA, sB, sC]
     refine tF 7 35 (.pointer (some ⟨bb, 0, none⟩)) rfl (by kernel_rfl) rfl noPan_hQ (fun V hV => ?_) hS5 ?_
     ·simp [go_sem, execOp]
     try simp only [sA, sB, sC]
     refine tF 8 36 (.int .i64 0) rfl (by kernel_rfl) rfl noPan_hQ (fun V hV => ?_) hS5 ?_
     ·simp [go_sem, execOp]
     try simp only [sA, sB, sC]
     refine tF 9 8 (.pointer (some ⟨bb, 0, none⟩)) rfl (by kernel_rfl) rfl noPan_hQ (fun V hV => ?_) hS5 ?_
     ·simp [go_sem, execOp]
     try simp only [sA, sB, sC]
     refine tF 10 9 (.int .i64 0) rfl (by kernel_rfl) rfl noPan_hQ (fun V hV => ?_) hS5 ?_
     ·simp [go_sem, execOp]
     try simp only [sA, sB, sC]
     refine wpAnyF_done (by kernel_rfl) ?_ _
     refine ⟨fun _ h => (by cases h), ?_⟩
     go_wp2_with fail
     refine leaves_marks (B := w.heap.size) _ w5 ⟨[D], rfl, by simp, fun D' hm => by rw [List.mem_singleton] at hm; subst hm; exact ⟨HDG.out, blk_below HBW5.out (lt_of_block HKD.out) HKD.out⟩⟩ (fun W' hk' => ?_)
     exact ⟨_, results_tmp2 Tryz.results107 _ _ _, .inl ⟨HYES.out, _, _, rfl, by rw [HRR.out]; exact hk'.wat hk'.below.size HWW.out⟩, HB5.out.trans hk'.below⟩
    ·rw [if_neg h0] at hp
     subst hp
     have hno : ¬ onlyP F l ids := fun q => h0 (HER.out.symm.trans (HON.out.1 q).2.2)
     have HNO := hidE hno
     have hz : (er == 0) = false := by simpa using h0
     clear hno h0 hd c1
     go_wp2_with fail
     refine hK.out _ _ (.inr hS5) ?_
     clear hK K
     try simp only [Act.put, sA, sB, sC]
     refine tF 6 28 (.tuple #[.pointer none, .int .i64 er]) rfl (by kernel_rfl) rfl noPan_hQ (fun V hV => ?_) hS5 ?_
     ·simp [go_sem, execOp]
     try simp only [sA, sB, sC]
     refine tF 7 35 (.pointer none) rfl (by kernel_rfl) rfl noPan_hQ (fun V hV => ?_) hS5 ?_
     ·simp [go_sem, execOp]
     try simp only [sA, sB, sC]
     refine tF 8 36 (.int .i64 er) rfl (by kernel_rfl) rfl noPan_hQ (fun V hV => ?_) hS5 ?_
     ·simp [go_sem, execOp]
     try simp only [sA, sB, sC]
     refine tF 9 8 (.pointer none) rfl (by kernel_rfl) rfl noPan_hQ (fun V hV => ?_) hS5 ?_
     ·simp [go_sem, execOp]
     try simp only [sA, sB, sC]
     refine tF 10 9 (.int .i64 er) rfl (by kernel_rfl) rfl noPan_hQ (fun V hV => ?_) hS5 ?_
     ·simp [go_sem, execOp]
     try simp only [sA, sB, sC]
     refine wpAnyF_done (by kernel_rfl) ?_ _
     refine ⟨fun _ h => (by cases h), ?_⟩
     go_wp2_with fail
     refine leaves_marks (B := w.heap.size) _ w5 ⟨[D], rfl, by simp, fun D' hm => by rw [List.mem_singleton] at hm; subst hm; exact ⟨HDG.out, blk_below HBW5.out (lt_of_block HKD.out) HKD.out⟩⟩ (fun W' hk' => ?_)
     exact ⟨_, results_tmp2 Tryz.results107 _ _ _, .inr ⟨HNO.out, rfl⟩, HB5.out.trans hk'.below⟩
theorem only_good {F : Fld} {l : List Rcd} (h : Good F l) (ids : List Int) : onlyP F l ids ↔ onlyB l ids = true := by
 unfold onlyP onlyB
 rw [Bool.and_eq_true, decide_eq_true_eq]
 exact ⟨fun q => ⟨q.1, q.2.1⟩, fun q => ⟨q.1, q.2, (check_iff F _).2 (with_good h ids)⟩⟩
def cwhyE (F : Fld) (l : List Rcd) (i s : Int) (upper : Bool) (fin : Int) (ids : List Int) : Bool × Int :=
 if (checkE F l).2 ≠ 0 then (false, (checkE F l).2) else if cornB F i s = false then (false, 1) else (showB F l (ptS F i s) upper fin ids, 0)
set_option maxRecDepth 10000 in
set_option maxHeartbeats 2000000 in
theorem cwhy_any (w : World) (x : FV) (F : Fld) (ar : Option Addr) (cr : Nat) (l : List Rcd) (i s : Int) (upper : Bool) (fin : Int) (a2 : Option Addr) (c2 : Nat) (ids : List Int) (h : FldAt w x F) (hr : RcdsAt w ar l) (hn : l.length ≤ 100000) (hk : ∀ r ∈ l, (0 ≤ r.call.kind ∧ r.call.kind ≤ 255) ∧ r.deed.size ≤ 9223372036854775807) (hi : IntsAt w a2 ids) (hil : ids.length ≤ 9223372036854775807) :
 Calls Tryz.prog 50 #[x.val F, .slice ar l.length cr, .agg #[.int .i64 i, .int .i64 s], .bool upper, .int .i64 fin, .slice a2 ids.length c2] w fun e w' => e = .returned (.tuple #[.bool (cwhyE F l i s upper fin ids).1, .int .i64 (cwhyE F l i s upper fin ids).2]) ∧ Below w.heap.size w w' := by
 obtain ⟨w0, hw0⟩ : ∃ W, W = (w.alloc (.cells (x.arr F) 27)).alloc (.cells #[.int .i64 i, .int .i64 s] 30) := ⟨_, rfl⟩
 have B0 := hidE (show Below w.heap.size w w0 by rw [hw0]; exact ((Below.refl _ _).alloc (Nat.le_refl _) _).alloc (by simp) _)
 have X0 := hidE (show Kb [(w.heap.size + 1, .cells #[.int .i64 i, .int .i64 s] 30), (w.heap.size, .cells (x.arr F) 27)] w0 by
  rw [hw0]
  have := Kb.alloc (o := .cells #[.int .i64 i, .int .i64 s] 30) (Kb.alloc (W := w) (o := .cells (x.arr F) 27) (L := []) trivial)
  simpa using this)
 have HC := hidE (open_any w0 x F ar cr l (h.below B0.out) (hr.below B0.out (Nat.le_refl _)) hn hk)
 have HG := hidE (fun (q : (checkE F l).2 = 0) => (check_iff F l).1 q)
 have HI := hidE (fun W (hb : Below w.heap.size w W) => hi.below hb (Nat.le_refl _))
 have HON := hidE (fun W b y (q : WAt W b y F l) (hb : Below w.heap.size w W) => only_any W b y F l a2 c2 ids q (HI.out W hb) hil hn hk)
 obtain ⟨⟨R1, R2⟩, hR⟩ : ∃ R, cwhyE F l i s upper fin ids = R := ⟨_, rfl⟩
 rw [hR]
 unfold cwhyE at hR
 obtain ⟨r2, hr2⟩ : ∃ R, (checkE F l).2 = R := ⟨_, rfl⟩
 rw [hr2] at HC HG hR
 have HR := hidE hR
 have kk := rowc X0.out.2.1
 clear hr2 h hr hn hk hi hR
 unfold FV.val FV.arr at *
 go_enter Tryz.func50, Tryz.ntmps50
 go_upto_region 1 with fail
 rw [← hw0]
 clear hw0
 go_wp2_with fail
 refine HC.out.mono ?_
 rintro e w1 ⟨hp, hb1⟩
 have B1 := hidE (B0.out.trans (hb1.mono B0.out.size))
 have X1 := hidE (X0.out.next hb1)
 clear hb1 HC X0 kk
 unfold OpenPost at hp
 by_cases h0 : r2 = 0
 rotate_left
 ·have hzb : (r2 != 0) = true := by simpa using h0
  rw [if_neg h0] at hp
  subst hp
  have hq := HR.out
  rw [if_pos h0] at hq
  cases hq
  clear h0 HG HON HR
  go_wp2_with fail
  go_ret2
  exact ⟨rfl, B1.out⟩
 subst h0
 rw [if_pos rfl] at hp
 have hq := HR.out
 rw [if_neg (by simp)] at hq
 obtain ⟨b, o, c, rfl, hw, -, -⟩ := hp
 have hG := HG.out rfl
 have HCO := hidE (corner_any w1 b _ F l i s hw hG.fld)
 have HO := hidE (fun W (hb : Below w1.heap.size w1 W) => HON.out W b _ (hw.next hb) (B1.out.trans (hb.mono B1.out.size)))
 have HAG := hidE (fun W b y (q : WAt W b y F (withIds l ids)) => agrees_any W b y F (withIds l ids) q (by have := pt_le hG.fld; unfold i64ok; omega))
 rw [agrees_num (with_good hG ids)] at HAG
 have HRG := hidE (fun W b y (q : WAt W b y F (withIds l ids)) (ha : agreeB F (withIds l ids) = true) (p : cornB F i s = true) => regionW_any W b y F (withIds l ids) i s q (with_good hG ids) ha (inv_corn (show flagE (cornB F i s) = 0 by rw [p]; rfl)).1 (inv_corn (show flagE (cornB F i s) = 0 by rw [p]; rfl)).2)
 have HOG := hidE (only_good hG ids)
 unfold showB at hq
 obtain ⟨cb, hcb⟩ : ∃ v, cornB F i s = v := ⟨_, rfl⟩
 obtain ⟨ob, hob⟩ : ∃ v, onlyB l ids = v := ⟨_, rfl⟩
 obtain ⟨ab, hab⟩ : ∃ v, agreeB F (withIds l ids) = v := ⟨_, rfl⟩
 obtain ⟨lo, hlo⟩ : ∃ v, lowE F (withIds l ids) (ptS F i s) = v := ⟨_, rfl⟩
 obtain ⟨hi9, hhi⟩ : ∃ v, highE F (withIds l ids) (ptS F i s) = v := ⟨_, rfl⟩
 rw [hcb] at HCO HRG hq
 rw [hab] at HAG HRG hq
 rw [hob] at HOG hq
 rw [hlo, hhi] at HRG hq
 have HQ := hidE hq
 have kx := rowc X1.out.1
 clear hcb hob hab hlo hhi hq hG hw HG HON HR
 go_wp2_with fail
 refine HCO.out.mono ?_
 rintro e w2 ⟨rfl, hb2⟩
 have B2 := hidE (B1.out.trans (hb2.mono B1.out.size))
 have X2 := hidE (X1.out.next hb2)
 have HO2 := hidE (HO.out w2 hb2)
 clear hb2 HCO kx X1 HO
 cases cb
 ·have hq := HQ.out
  rw [if_pos rfl] at hq
  cases hq
  clear HQ
  go_wp2_with fail
  go_ret2
  exact ⟨rfl, B2.out⟩
 have hq := HQ.out
 rw [if_neg (by simp)] at hq
 cases hq
 clear HQ
 go_wp2_with fail
 refine HO2.out.mono ?_
 rintro e w3 ⟨hp, hb3⟩
 have B3 := hidE (B2.out.trans (hb3.mono B2.out.size))
 have X3 := hidE (X2.out.next hb3)
 clear hb3 HO2 X2
 rcases hp with ⟨hy, b3, y3, rfl, hw3⟩ | ⟨hno, rfl⟩
 rotate_left
 ·have ho : ob = false := by
   cases ob
   ·rfl
   ·exact absurd (HOG.out.2 rfl) hno
  subst ho
  clear hno HAG HOG HRG
  go_wp2_with fail
  all_goals (go_ret2; refine ⟨?_, B3.out⟩; first | rfl | simp | simp_all)
 have ho := HOG.out.1 hy
 subst ho
 have HA := hidE (HAG.out _ _ _ hw3)
 have HRG2 := hidE (fun W (hb : Below w3.heap.size w3 W) (p : ab = true) => HRG.out W b3 y3 (hw3.next hb) p (by trivial))
 clear hy hw3 HAG HOG HRG
 go_wp2_with fail
 refine HA.out.mono ?_
 rintro e w4 ⟨rfl, hb4⟩
 have B4 := hidE (B3.out.trans (hb4.mono B3.out.size))
 have X4 := hidE (X3.out.next hb4)
 have HRG4 := hidE (HRG2.out w4 hb4)
 clear hb4 HA X3 HRG2
 cases ab
 ·clear HRG4
  go_wp2_with fail
  all_goals (go_ret2; refine ⟨?_, B4.out⟩; first | rfl | simp | simp_all)
 have HR5 := hidE (HRG4.out (by trivial))
 have kx := rowc X4.out.1
 clear HRG4
 go_wp2_with fail
 refine HR5.out.mono ?_
 rintro e w5 ⟨rfl, hb5⟩
 have B5 := hidE (B4.out.trans (hb5.mono B4.out.size))
 clear hb5 kx X4 HR5
 cases upper
 ·go_wp2_with fail
  all_goals (go_ret2; refine ⟨?_, B5.out⟩; first | rfl | simp | simp_all)
 ·go_wp2_with fail
  all_goals (go_ret2; refine ⟨?_, B5.out⟩; first | rfl | simp | simp_all)
def drwB (F : Fld) (l : List Rcd) (y : List Int) : Bool := (keptE (ptN F) (sysL F l) y).2.1 && decide ((keptE (ptN F) (sysL F l) y).2.2 = 0)
def drawE (F : Fld) (l : List Rcd) (y : List Int) : Bool × Int := if (checkE F l).2 ≠ 0 then (false, (checkE F l).2) else (drwB F l y, 0)
set_option maxRecDepth 10000 in
set_option maxHeartbeats 2000000 in
theorem drawing_any (w : World) (b : Nat) (v : WV) (F : Fld) (l : List Rcd) (h : WAt w b v F l) (hF : F.check = 0) (a2 : Option Addr) (c2 : Nat) (y : List Int) (hl : y.length ≤ 9223372036854775807) (h2 : IntsAt w a2 y) :
 Calls Tryz.prog 125 #[.pointer (some ⟨b, 0, none⟩), .slice a2 y.length c2] w fun e w' => e = .returned (.bool (drwB F l y)) ∧ Below w.heap.size w w' := by
 have HK := hidE (kept_any w (ptN F) v.o v.c (sysL F l) a2 c2 y (ptN_ok hF) (Nat.le_trans h.cap.1 h.cap.2) hl h.bnd h2)
 unfold drwB
 obtain ⟨⟨k1, k2, k3⟩, hk⟩ : ∃ k, keptE (ptN F) (sysL F l) y = k := ⟨_, rfl⟩
 rw [hk] at HK ⊢
 have kx := rowc h.box
 unfold WV.arr at kx
 obtain ⟨P, hP⟩ : ∃ P : Int, ((ptN F : Nat) : Int) = P := ⟨_, rfl⟩
 obtain ⟨LN, hLN⟩ : ∃ n, (sysL F l).length = n := ⟨_, rfl⟩
 obtain ⟨LY, hLY⟩ : ∃ n, y.length = n := ⟨_, rfl⟩
 rw [hP, hLN] at kx HK
 rw [hLY] at HK ⊢
 clear hP hLN hLY hk h hF hl h2
 go_enter Tryz.func125, Tryz.ntmps125
 go_wp2_with fail
 refine HK.out.mono ?_
 rintro e w1 ⟨rfl, hb1⟩
 have B1 := hidE hb1
 clear hb1 kx HK
 cases k2
 ·go_wp2_with fail
  go_ret
  exact ⟨rfl, B1.out⟩
 ·by_cases h3 : k3 = 0
  ·subst h3
   go_wp2_with fail
   go_ret
   exact ⟨rfl, B1.out⟩
  ·have z : (k3 == 0) = false := by simpa using h3
   have HZ := hidE (show decide (k3 = 0) = false by simpa using h3)
   clear h3
   go_wp2_with fail
   go_ret
   exact ⟨by rw [HZ.out]; rfl, B1.out⟩
set_option maxRecDepth 10000 in
set_option maxHeartbeats 2000000 in
theorem drawL_any (w : World) (x : FV) (F : Fld) (ar : Option Addr) (cr : Nat) (l : List Rcd) (h : FldAt w x F) (hr : RcdsAt w ar l) (hn : l.length ≤ 100000) (hk : ∀ r ∈ l, (0 ≤ r.call.kind ∧ r.call.kind ≤ 255) ∧ r.deed.size ≤ 9223372036854775807)
 (a2 : Option Addr) (c2 : Nat) (y : List Int) (hl : y.length ≤ 9223372036854775807) (h2 : IntsAt w a2 y) :
 Calls Tryz.prog 59 #[x.val F, .slice ar l.length cr, .slice a2 y.length c2] w fun e w' => e = .returned (.tuple #[.bool (drawE F l y).1, .int .i64 (drawE F l y).2]) ∧ Below w.heap.size w w' := by
 obtain ⟨w0, hw0⟩ : ∃ W, W = w.alloc (.cells (x.arr F) 27) := ⟨_, rfl⟩
 have B0 := hidE (show Below w.heap.size w w0 by rw [hw0]; exact (Below.refl _ _).alloc (Nat.le_refl _) _)
 have X0 := hidE (show w0.heap[w.heap.size]? = some (.cells (x.arr F) 27 (0,0)) by rw [hw0]; exact heap_alloc_new _ _)
 have HC := hidE (open_any w0 x F ar cr l (h.below B0.out) (hr.below B0.out (Nat.le_refl _)) hn hk)
 have HG := hidE (fun (q : (checkE F l).2 = 0) => (check_iff F l).1 q)
 have HI := hidE (h2.below B0.out (Nat.le_refl _))
 have HYL := hidE hl
 obtain ⟨⟨R1, R2⟩, hR⟩ : ∃ R, drawE F l y = R := ⟨_, rfl⟩
 rw [hR]
 unfold drawE at hR
 obtain ⟨M, hM⟩ : ∃ M, (checkE F l).2 = M := ⟨_, rfl⟩
 rw [hM] at HC HG hR
 have HR := hidE hR
 have kk := rowc X0.out
 obtain ⟨LY, hLY⟩ : ∃ n, y.length = n := ⟨_, rfl⟩
 have HLY := hidE hLY
 rw [hLY]
 clear hM h hr hn hk hR h2 hl hLY
 unfold FV.val FV.arr at *
 go_enter Tryz.func59, Tryz.ntmps59
 go_upto_region 1 with fail
 rw [← hw0]
 clear hw0
 go_wp2_with fail
 refine HC.out.mono ?_
 rintro e w1 ⟨hp, hb1⟩
 have B1 := hidE (B0.out.trans (hb1.mono B0.out.size))
 have HI1 := hidE (HI.out.below hb1 (Nat.le_refl _))
 clear hb1 HC X0 kk HI
 unfold OpenPost at hp
 by_cases h0 : M = 0
 rotate_left
 ·have hzb : (M != 0) = true := by simpa using h0
  rw [if_neg h0] at hp
  subst hp
  have hq := HR.out
  rw [if_pos h0] at hq
  cases hq
  clear h0 HR HG
  go_wp2_with fail
  go_ret2
  exact ⟨rfl, B1.out⟩
 subst h0
 rw [if_pos rfl] at hp
 obtain ⟨b, o, c, rfl, hw, hbl, -⟩ := hp
 have hq := HR.out
 rw [if_neg (by simp)] at hq
 have HD := hidE (drawing_any w1 b _ F l hw (HG.out rfl).fld a2 c2 y HYL.out HI1.out)
 rw [HLY.out] at HD
 obtain ⟨db, hdb⟩ : ∃ v, drwB F l y = v := ⟨_, rfl⟩
 rw [hdb] at HD hq
 cases hq
 clear hdb hw hbl HR HG HI1 HYL HLY
 go_wp2_with fail
 refine HD.out.mono ?_
 rintro e w2 ⟨rfl, hb2⟩
 have B2 := hidE (B1.out.trans (hb2.mono B1.out.size))
 clear hb2 HD
 go_wp2_with fail
 go_ret2
 exact ⟨rfl, B2.out⟩
theorem drwB_iff {F : Fld} {l : List Rcd} (h : Good F l) {y : List Int} : drwB F l y = true ↔ Drw F l y := kept_eq h y
theorem ids_recs (q : List Bd) : IdsOf q (recordsP q) := ⟨recordsP_asc q, fun x => by rw [mem_recordsP]; exact ⟨fun ⟨b, h1, h2, h3⟩ => ⟨by omega, b, h1, h3⟩, fun ⟨h0, b, h1, h3⟩ => ⟨b, h1, by omega, h3⟩⟩⟩
def pointE (F : Fld) (i s : Int) : Int × Int := if F.check ≠ 0 then (0, F.check) else if cornB F i s = false then (0, 1) else ((ptS F i s : Int), 0)
def atE (F : Fld) (y : List Int) (i s : Int) : Int := if (pointE F i s).2 ≠ 0 ∨ (pointE F i s).1 < 0 ∨ (y.length : Int) ≤ (pointE F i s).1 then -1 else y.getD (pointE F i s).1.toNat 0
set_option maxRecDepth 10000 in
set_option maxHeartbeats 4000000 in
theorem pointQ_any (w : World) (x : FV) (F : Fld) (i s : Int) (h : FldAt w x F) :
 Calls Tryz.prog 128 #[x.val F, .int .i64 i, .int .i64 s] w fun e w' => e = .returned (.tuple #[.int .i64 (pointE F i s).1, .int .i64 (pointE F i s).2]) ∧ Below w.heap.size w w' := by
 obtain ⟨w0, hw0⟩ : ∃ W, W = w.alloc (.cells (x.arr F) 27) := ⟨_, rfl⟩
 have B0 := hidE (show Below w.heap.size w w0 by rw [hw0]; exact (Below.refl _ _).alloc (Nat.le_refl _) _)
 have X0 := hidE (show w0.heap[w.heap.size]? = some (.cells (x.arr F) 27 (0,0)) by rw [hw0]; exact heap_alloc_new _ _)
 have HC := hidE (checkField_any w0 x F (h.below B0.out))
 have HLN := hidE (And.intro h.ls h.ll)
 have HPT := hidE (fun (q : F.check = 0) (a : limB F i = true) (b : staB F s = true) W (_hb : Below w0.heap.size w0 W) => (by
  have g := fld_facts q
  have a3 := inR_iff.1 (show inR i 0 ((F.lms.length : Int) - 1) = true from a)
  have b3 := inR_iff.1 (show inR s 0 ((F.sts.length : Int) - 1) = true from b)
  have := pointD_any W x F i s (by omega) (by omega) (by omega) (by omega) (by omega)
  rw [← (ptS_bd a b).2.2] at this
  exact this))
 obtain ⟨⟨R1, R2⟩, hR⟩ : ∃ R, pointE F i s = R := ⟨_, rfl⟩
 rw [hR]
 unfold pointE cornB at hR
 obtain ⟨M, hM⟩ : ∃ M, F.check = M := ⟨_, rfl⟩
 rw [hM] at HC hR HPT
 have HR := hidE hR
 obtain ⟨lb, hlb⟩ : ∃ b, limB F i = b := ⟨_, rfl⟩
 obtain ⟨tb, htb⟩ : ∃ b, staB F s = b := ⟨_, rfl⟩
 have HI1 := hidE (inD_at (n := i) (a := 0) (b := (F.lms.length : Int) - 1) (r := lb) hlb)
 have HI2 := hidE (inD_at (n := s) (a := 0) (b := (F.sts.length : Int) - 1) (r := tb) htb)
 rw [hlb, htb] at HR
 rw [hlb, htb] at HPT
 have kk := rowc X0.out
 have hln := HLN.out
 have wl : IntKind.i64.wrap ((F.lms.length : Int) - 1) = (F.lms.length : Int) - 1 := IntWalk.i64_in _ (by omega)
 have ws : IntKind.i64.wrap ((F.sts.length : Int) - 1) = (F.sts.length : Int) - 1 := IntWalk.i64_in _ (by omega)
 clear hM h hR hlb htb hln
 unfold FV.val FV.arr at *
 go_enter Tryz.func128, Tryz.ntmps128
 go_upto_region 1 with fail
 rw [← hw0]
 clear hw0
 go_wp2_with fail
 refine HC.out.mono ?_
 rintro e w1 ⟨rfl, hb1⟩
 have BB1 := hidE hb1
 have X1 := hidE (blk_below hb1 (lt_of_block X0.out) X0.out)
 clear hb1 HC X0 kk
 have hq := HR.out
 by_cases h0 : M = 0
 rotate_left
 ·have hzb : (M != 0) = true := by simpa using h0
  rw [if_pos h0] at hq
  cases hq
  clear h0 HR HPT
  go_wp2_with fail
  go_ret2
  exact ⟨rfl, B0.out.trans (BB1.out.mono B0.out.size)⟩
 subst h0
 rw [if_neg (by simp)] at hq
 have kk := rowc X1.out
 have HQ := hidE hq
 clear hq HR
 go_wp2_with fail
 refine (HI1.out _).mono ?_
 rintro e w2 ⟨rfl, rfl⟩
 have hq := HQ.out
 cases lb
 ·rw [if_pos (by simp)] at hq
  cases hq
  clear HPT
  go_wp2_with fail
  go_ret2
  exact ⟨rfl, B0.out.trans (BB1.out.mono B0.out.size)⟩
 clear hq
 go_wp2_with fail
 refine (HI2.out _).mono ?_
 rintro e w3 ⟨rfl, rfl⟩
 have hq := HQ.out
 cases tb
 ·rw [if_pos (by simp)] at hq
  cases hq
  clear HPT
  go_wp2_with fail
  go_ret2
  exact ⟨rfl, B0.out.trans (BB1.out.mono B0.out.size)⟩
 rw [if_neg (by simp)] at hq
 have HP2 := hidE (HPT.out (by trivial) (by trivial) (by trivial) _ BB1.out)
 obtain ⟨p, hp⟩ : ∃ p : Int, ((ptS F i s : Nat) : Int) = p := ⟨_, rfl⟩
 rw [hp] at hq HP2
 cases hq
 clear HPT hp HQ
 go_wp2_with fail
 refine HP2.out.mono ?_
 rintro e w4 ⟨rfl, hb4⟩
 have B4 := hidE (B0.out.trans ((BB1.out.trans (hb4.mono BB1.out.size)).mono B0.out.size))
 clear hb4 kk
 go_wp2_with fail
 go_ret2
 exact ⟨rfl, B4.out⟩
set_option maxRecDepth 10000 in
set_option maxHeartbeats 4000000 in
theorem at_any (w : World) (x : FV) (F : Fld) (a2 : Option Addr) (c2 : Nat) (y : List Int) (i s : Int) (h : FldAt w x F) (hl : y.length ≤ 9223372036854775807) (h2 : IntsAt w a2 y) :
 Calls Tryz.prog 60 #[x.val F, .slice a2 y.length c2, .agg #[.int .i64 i, .int .i64 s]] w fun e w' => e = .returned (.int .i64 (atE F y i s)) ∧ Below w.heap.size w w' := by
 obtain ⟨w0, hw0⟩ : ∃ W, W = (w.alloc (.cells (x.arr F) 27)).alloc (.cells #[.int .i64 i, .int .i64 s] 30) := ⟨_, rfl⟩
 have B0 := hidE (show Below w.heap.size w w0 by rw [hw0]; exact ((Below.refl _ _).alloc (Nat.le_refl _) _).alloc (by simp) _)
 have X0 := hidE (show Kb [(w.heap.size + 1, .cells #[.int .i64 i, .int .i64 s] 30), (w.heap.size, .cells (x.arr F) 27)] w0 by
  rw [hw0]
  have := Kb.alloc (o := .cells #[.int .i64 i, .int .i64 s] 30) (Kb.alloc (W := w) (o := .cells (x.arr F) 27) (L := []) trivial)
  simpa using this)
 have HP := hidE (pointQ_any w0 x F i s (h.below B0.out))
 have HI := hidE (fun W (hb : Below w0.heap.size w0 W) => (h2.below B0.out (Nat.le_refl _)).below hb (Nat.le_refl _))
 obtain ⟨R, hR⟩ : ∃ R, atE F y i s = R := ⟨_, rfl⟩
 rw [hR]
 unfold atE at hR
 obtain ⟨⟨p, e⟩, hp⟩ : ∃ p, pointE F i s = p := ⟨_, rfl⟩
 rw [hp] at HP hR
 have HR := hidE hR
 have HL := hidE hl
 have k0 := rowc X0.out.2.1
 have k1 := rowc X0.out.1
 clear h hR hp hl h2
 unfold FV.val FV.arr at *
 go_enter Tryz.func60, Tryz.ntmps60
 go_upto_region 1 with fail
 rw [← hw0]
 clear hw0
 go_wp2_with fail
 refine HP.out.mono ?_
 rintro e w1 ⟨rfl, hb1⟩
 have B1 := hidE (B0.out.trans (hb1.mono B0.out.size))
 have HI1 := hidE (HI.out _ hb1)
 have hl2 := HL.out
 clear hb1 k0 k1 X0 HP HI
 have hq := HR.out
 by_cases h0 : e = 0
 rotate_left
 ·have hzb : (e != 0) = true := by simpa using h0
  rw [if_pos (.inl h0)] at hq
  subst hq
  clear h0 HR
  go_wp2_with fail
  go_ret
  exact ⟨rfl, B1.out⟩
 subst h0
 by_cases h1 : p < 0
 ·have hz1 : decide (p < 0) = true := decide_eq_true h1
  rw [if_pos (.inr (.inl h1))] at hq
  subst hq
  clear h1 HR
  go_wp2_with fail
  go_ret
  exact ⟨rfl, B1.out⟩
 have hz1 : decide (p < 0) = false := decide_eq_false h1
 by_cases h2 : (y.length : Int) ≤ p
 ·have hz2 : decide ((y.length : Int) ≤ p) = true := decide_eq_true h2
  rw [if_pos (.inr (.inr h2))] at hq
  subst hq
  clear h1 h2 HR
  go_wp2_with fail
  go_ret
  exact ⟨rfl, B1.out⟩
 have hz2 : decide ((y.length : Int) ≤ p) = false := decide_eq_false h2
 rw [if_neg (by simp; omega)] at hq
 obtain ⟨k, rfl⟩ : ∃ k : Nat, p = k := ⟨p.toNat, by omega⟩
 have hk : k < y.length := by omega
 rw [Int.toNat_natCast, List.getD_eq_getElem?_getD, List.getElem?_eq_getElem hk] at hq
 have hq2 : y[k] = R := hq
 obtain ⟨yb, yo, rfl, ylt, yc⟩ := IntsAt.at HI1.out hk
 rw [hq2] at yc
 have hk1 : (k : Int) < (y.length : Int) := by omega
 have hk0 : (0 : Int) ≤ (k : Int) := by omega
 clear h1 h2 hq hq2 HR HI1 ylt
 go_wp2_with fail
 go_ret
 exact ⟨rfl, B1.out⟩
theorem cwhy_good {F : Fld} {l : List Rcd} {i s : Int} (g : Good F l) (hc : cornB F i s = true) (u : Bool) (fin : Int) (ids : List Int) : cwhyE F l i s u fin ids = (showB F l (ptS F i s) u fin ids, 0) := by
 unfold cwhyE
 rw [if_neg (by rw [(check_iff F l).2 g]; simp), if_neg (by rw [hc]; simp)]
theorem proved_spec {F : Fld} {l : List Rcd} {i s : Int} (h : (regionE F l i s).2.2 = 0) :
 ∃ A B, whyE F l i s true = (A, 0) ∧ whyE F l i s false = (B, 0) ∧ A.length ≤ 4000 ∧ B.length ≤ 4000 ∧
  cwhyE F l i s true (regionE F l i s).2.1 A = (true, 0) ∧ cwhyE F l i s false (regionE F l i s).1 B = (true, 0) ∧ cwhyE F l i s true ((regionE F l i s).2.1 - 1) A = (false, 0) ∧ cwhyE F l i s false ((regionE F l i s).1 + 1) B = (false, 0) ∧
  (0 ≤ (regionE F l i s).1 ∧ (regionE F l i s).1 ≤ (regionE F l i s).2.1 ∧ (regionE F l i s).2.1 ≤ 100000) ∧
  (∀ u fin ids, ∃ k, cwhyE F l i s u fin ids = (k, 0) ∧ (k = true → (u = true → (regionE F l i s).2.1 ≤ fin) ∧ (u = false → fin ≤ (regionE F l i s).1)) ∧
   ∀ y, ∃ d, drawE F l y = (d, 0) ∧ (k = true → d = true → (u = true → atE F y i s ≤ fin) ∧ (u = false → fin ≤ atE F y i s))) := by
 have rb := region_bd h
 obtain ⟨g, ha, hi, hs, e⟩ := region_zero h
 have hc : cornB F i s = true := by unfold cornB; rw [hi, hs]; rfl
 have hm : ¬ (matchE F l (flagE (cornB F i s)) ≠ 0) := by simpa using (match_zero.2 ⟨g, by rw [hc]; rfl, ha⟩ : matchE F l (flagE (cornB F i s)) = 0)
 have pb := ptS_bd hi hs
 have pl := pt_le g.fld
 have z0 : 0 < ptN F := by omega
 obtain ⟨q0, q1, q2, q3, q4, q5⟩ := why_path g ha (a := 0) z0 pb.2.1
 obtain ⟨r0, r1, r2, r3, r4, r5⟩ := why_path g ha (b := 0) pb.2.1 z0
 have pe := proved_ends g ha pb.2.1 q3 q4 q5 r3 r4 r5 (ids_recs _) (ids_recs _)
 rw [e] at rb ⊢
 dsimp only at rb ⊢
 refine ⟨_, _, by unfold whyE; rw [if_neg hm], by unfold whyE; rw [if_neg hm], ?_, ?_, ?_, ?_, ?_, ?_, rb, fun u fin ids => ?_⟩
 ·unfold whyP; rw [if_pos rfl]; have := recordsP_len ((pathP (ptN F) (sysL F l) 0 (ptS F i s)).map (bAt (sysL F l))); rw [List.length_map] at this; omega
 ·unfold whyP; rw [if_neg (by simp)]; have := recordsP_len ((pathP (ptN F) (sysL F l) (ptS F i s) 0).map (bAt (sysL F l))); rw [List.length_map] at this; omega
 ·rw [cwhy_good g hc]; unfold whyP; rw [if_pos rfl, pe.1]
 ·rw [cwhy_good g hc]; unfold whyP; rw [if_neg (by simp), pe.2.1]
 ·rw [cwhy_good g hc]; unfold whyP; rw [if_pos rfl, pe.2.2.1]
 ·rw [cwhy_good g hc]; unfold whyP; rw [if_neg (by simp), pe.2.2.2]
 ·refine ⟨_, cwhy_good g hc u fin ids, fun k => ?_, fun y => ⟨drwB F l y, by unfold drawE; rw [if_neg (by rw [(check_iff F l).2 g]; simp)], fun k d => ?_⟩⟩
  ·have pa := proved_all g ha pb.2.1 k
   exact ⟨fun q => (pa.1 q).1, fun q => (pa.2 q).1⟩
  ·have pa := proved_all g ha pb.2.1 k
   have dy := (drwB_iff g).1 d
   have hp : pointE F i s = ((ptS F i s : Int), 0) := by
    unfold pointE
    rw [if_neg (by rw [g.fld]; simp), if_neg (by rw [hc]; simp)]
   have ea : atE F y i s = y.getD (ptS F i s) 0 := by
    unfold atE
    rw [hp, if_neg (by rw [dy.len]; simp; omega)]
    rfl
   rw [ea]
   exact ⟨fun q => (pa.1 q).2 y dy, fun q => (pa.2 q).2 y dy⟩
set_option maxRecDepth 10000 in
set_option maxHeartbeats 8000000 in
theorem limitsProved_any (w : World) (x : FV) (F : Fld) (ar : Option Addr) (cr : Nat) (l : List Rcd) (i s : Int) (up : Bool) (fin : Int) (a2 : Option Addr) (c2 : Nat) (ids : List Int) (a3 : Option Addr) (c3 : Nat) (y : List Int) (h : FldAt w x F) (hr : RcdsAt w ar l) (hn : l.length ≤ 9223372036854775807) (hd : ∀ r ∈ l, r.deed.size ≤ 9223372036854775807) (hk : ∀ r ∈ l, 0 ≤ r.call.kind ∧ r.call.kind ≤ 255) (hm_ids : ids.length ≤ 9223372036854775807) (hi_ids : IntsAt w a2 ids) (hm_y : y.length ≤ 9223372036854775807) (hi_y : IntsAt w a3 y) :
 Calls Tryz.prog 15 #[x.val F, .slice ar l.length cr, .agg #[.int .i64 i, .int .i64 s], .bool up, .int .i64 fin, .slice a2 ids.length c2, .slice a3 y.length c3] w fun e w' => e = .returned (.bool true) ∧ Below w.heap.size w w' := by
 obtain ⟨w0, hw0⟩ : ∃ W, W = (w.alloc (.cells (x.arr F) 27)).alloc (.cells #[.int .i64 i, .int .i64 s] 30) := ⟨_, rfl⟩
 have B0 := hidE (show Below w.heap.size w w0 by rw [hw0]; exact ((Below.refl _ _).alloc (Nat.le_refl _) _).alloc (by simp) _)
 have X0 := hidE (show Kb [(w.heap.size + 1, .cells #[.int .i64 i, .int .i64 s] 30), (w.heap.size, .cells (x.arr F) 27)] w0 by
  rw [hw0]
  have := Kb.alloc (o := .cells #[.int .i64 i, .int .i64 s] 30) (Kb.alloc (W := w) (o := .cells (x.arr F) 27) (L := []) trivial)
  simpa using this)
 have HF := hidE (fun W (hb : Below w0.heap.size w0 W) => (h.below B0.out).below hb)
 have HRR := hidE (fun W (hb : Below w0.heap.size w0 W) => (hr.below B0.out (Nat.le_refl _)).below hb (Nat.le_refl _))
 have HI_ids := hidE (fun W (hb : Below w0.heap.size w0 W) => (hi_ids.below B0.out (Nat.le_refl _)).below hb (Nat.le_refl _))
 have HM_ids := hidE hm_ids
 have HI_y := hidE (fun W (hb : Below w0.heap.size w0 W) => (hi_y.below B0.out (Nat.le_refl _)).below hb (Nat.le_refl _))
 have HM_y := hidE hm_y
 have HSM := hidE (smallL_any w0 x F ar cr l (h.below B0.out) (hr.below B0.out (Nat.le_refl _)) hn hd)
 have HSV := hidE (fun W => surveyed_any W)
 have HRC := hidE (fun (q : smallB F l = true) => And.intro (small_facts q) (small_recs q hk))
 obtain ⟨sm, hsm⟩ : ∃ b, smallB F l = b := ⟨_, rfl⟩
 rw [hsm] at HSM HRC
 have k0 := rowc X0.out.2.1
 have k1 := rowc X0.out.1
 unfold FV.arr at k0
 unfold FV.val FV.arr at HSM
 clear h hr hn hd hk hsm hm_ids hi_ids hm_y hi_y
 go_enter Tryz.func15, Tryz.ntmps15
 go_upto_region 1 with fail
 try unfold FV.val FV.arr
 rw [show (w.alloc (.cells #[.slice x.aS F.sts.length x.cS, .slice x.aL F.lms.length x.cL, .slice x.aP F.prs.length x.cP, .slice x.aV F.vrs.length x.cV] 27)).alloc (.cells #[.int .i64 i, .int .i64 s] 30) = w0 from hw0.symm]
 clear hw0
 go_wp2_with fail
 refine HSM.out.mono ?_
 rintro e w1 ⟨rfl, hb1⟩
 have BB1 := hidE hb1
 have X1 := hidE (X0.out.next hb1)
 clear hb1 k0 k1 HSM X0
 cases sm
 ·go_wp2_with fail
  refine (HSV.out _).mono ?_
  rintro e wz ⟨rfl, hbz⟩
  have BZ := hidE (B0.out.trans ((BB1.out.trans (hbz.mono BB1.out.size)).mono B0.out.size))
  clear hbz
  go_wp2_with fail
  go_ret
  exact ⟨rfl, BZ.out⟩
 obtain ⟨⟨⟨f1, f2, f3⟩, f4, f5⟩, hn5, hk5⟩ := HRC.out (by trivial)
 by_cases hy1 : ids.length ≤ 30
 rotate_left
 ·have dy : decide ((30 : Int) < (ids.length : Int)) = true := by simp; omega
  go_wp2_with fail
  refine (HSV.out _).mono ?_
  rintro e wz ⟨rfl, hbz⟩
  have BZ := hidE (B0.out.trans ((BB1.out.trans (hbz.mono BB1.out.size)).mono B0.out.size))
  clear hbz
  go_wp2_with fail
  go_ret
  exact ⟨rfl, BZ.out⟩
 by_cases hy2 : y.length ≤ 200
 rotate_left
 ·have dy : decide ((200 : Int) < (y.length : Int)) = true := by simp; omega
  have dy0 : decide ((30 : Int) < (ids.length : Int)) = false := by simp; omega
  go_wp2_with fail
  refine (HSV.out _).mono ?_
  rintro e wz ⟨rfl, hbz⟩
  have BZ := hidE (B0.out.trans ((BB1.out.trans (hbz.mono BB1.out.size)).mono B0.out.size))
  clear hbz
  go_wp2_with fail
  go_ret
  exact ⟨rfl, BZ.out⟩
 have dy0 : decide ((30 : Int) < (ids.length : Int)) = false := by simp; omega
 have dy1 : decide ((200 : Int) < (y.length : Int)) = false := by simp; omega
 have HRG := hidE (fun W (hb : Below w0.heap.size w0 W) => regionL_any W x F ar cr l i s (HF.out W hb) (HRR.out W hb) hn5 hk5)
 have HWY := hidE (fun W (hb : Below w0.heap.size w0 W) u => whyL_any W x F ar cr l i s u (HF.out W hb) (HRR.out W hb) hn5 hk5)
 have HCW := hidE (fun W (hb : Below w0.heap.size w0 W) u f9 a9 c9 (z : List Int) (hz : z.length ≤ 9223372036854775807) (hi9 : IntsAt W a9 z) => cwhy_any W x F ar cr l i s u f9 a9 c9 z (HF.out W hb) (HRR.out W hb) hn5 hk5 hi9 hz)
 have HDR := hidE (fun W (hb : Below w0.heap.size w0 W) => drawL_any W x F ar cr l (HF.out W hb) (HRR.out W hb) hn5 hk5 a3 c3 y HM_y.out (HI_y.out W hb))
 have HAT := hidE (fun W (hb : Below w0.heap.size w0 W) => at_any W x F a3 c3 y i s (HF.out W hb) HM_y.out (HI_y.out W hb))
 have HSP := hidE (fun (q : (regionE F l i s).2.2 = 0) => proved_spec q)
 obtain ⟨⟨lo, hi, er⟩, hp⟩ : ∃ p, regionE F l i s = p := ⟨_, rfl⟩
 rw [hp] at HRG HSP
 clear hp f1 f2 f3 f4 f5 hn5 hk5 HRC HF HRR hy1 hy2
 have k0 := rowc X1.out.2.1
 have k1 := rowc X1.out.1
 unfold FV.arr at k0
 have HC := hidE (HRG.out w1 BB1.out)
 try unfold FV.val FV.arr at HC
 go_wp2_with fail
 refine HC.out.mono ?_
 rintro e w2 ⟨rfl, hb⟩
 have BB2 := hidE (BB1.out.trans (hb.mono BB1.out.size))
 have X2 := hidE (X1.out.next hb)
 clear hb k0 k1 HC BB1 X1 HRG dy0 dy1
 by_cases h0 : er = 0
 rotate_left
 ·have hzb : (er != 0) = true := by simpa using h0
  clear h0 HSP HWY HCW HDR HAT
  go_wp2_with fail
  refine (HSV.out _).mono ?_
  rintro e wz ⟨rfl, hbz⟩
  have BZ := hidE (B0.out.trans ((BB2.out.trans (hbz.mono BB2.out.size)).mono B0.out.size))
  clear hbz
  go_wp2_with fail
  go_ret
  exact ⟨rfl, BZ.out⟩
 subst h0
 obtain ⟨A, B, e1, e2, l1, l2, e3, e4, e5, e6, ⟨b1, b2, b3⟩, hk⟩ := HSP.out (by trivial)
 try dsimp only at e3 e4 e5 e6 b1 b2 b3 hk
 obtain ⟨k, ek, ek1, hd⟩ := hk up fin ids
 obtain ⟨d, ed, hd⟩ := hd y
 rw [ed] at HDR
 have HW1 := hidE (fun W hb => (by have := HWY.out W hb true; rw [e1] at this; exact this))
 have HW2 := hidE (fun W hb => (by have := HWY.out W hb false; rw [e2] at this; exact this))
 have HC1 := hidE (fun W hb a9 c9 (hi9 : IntsAt W a9 A) => (by have := HCW.out W hb true hi a9 c9 A (by omega) hi9; rw [e3] at this; exact this))
 have HC2 := hidE (fun W hb a9 c9 (hi9 : IntsAt W a9 B) => (by have := HCW.out W hb false lo a9 c9 B (by omega) hi9; rw [e4] at this; exact this))
 have HC3 := hidE (fun W hb a9 c9 (hi9 : IntsAt W a9 A) => (by have := HCW.out W hb true (hi - 1) a9 c9 A (by omega) hi9; rw [e5] at this; exact this))
 have HC4 := hidE (fun W hb a9 c9 (hi9 : IntsAt W a9 B) => (by have := HCW.out W hb false (lo + 1) a9 c9 B (by omega) hi9; rw [e6] at this; exact this))
 have HC5 := hidE (fun W hb => (by have := HCW.out W hb up fin a2 c2 ids HM_ids.out (HI_ids.out W hb); rw [ek] at this; exact this))
 obtain ⟨n1, hn1⟩ : ∃ n, A.length = n := ⟨_, rfl⟩
 obtain ⟨n2, hn2⟩ : ∃ n, B.length = n := ⟨_, rfl⟩
 rw [hn1] at HC1 HC3
 rw [hn2] at HC2 HC4
 have HN1 := hidE hn1
 have HN2 := hidE hn2
 have HK1 := hidE ek1
 have HD1 := hidE hd
 obtain ⟨av, hav⟩ : ∃ v, atE F y i s = v := ⟨_, rfl⟩
 rw [hav] at HAT HD1
 have wa : IntKind.i64.wrap (hi - 1) = hi - 1 := IntWalk.i64_in _ (by omega)
 have wb : IntKind.i64.wrap (lo + 1) = lo + 1 := IntWalk.i64_in _ (by omega)
 clear e1 e2 e3 e4 e5 e6 l1 l2 b1 b2 b3 hk ek ek1 ed hd HSP HWY HCW hn1 hn2 hav
 have k0 := rowc X2.out.2.1
 have k1 := rowc X2.out.1
 unfold FV.arr at k0
 have HC := hidE (HW1.out w2 BB2.out)
 try unfold FV.val FV.arr at HC
 go_wp2_with fail
 refine HC.out.mono ?_
 rintro e w3 ⟨⟨v1, rfl, o1⟩, hb⟩
 have BB3 := hidE (BB2.out.trans (hb.mono BB2.out.size))
 have X3 := hidE (X2.out.next hb)
 obtain ⟨a4, c4, rfl, hi1⟩ := owns_intsAt o1
 have LA3 := hidE hi1
 simp only [HN1.out]
 clear hb k0 k1 HC BB2 X2 HW1 o1 hi1
 have k0 := rowc X3.out.2.1
 have k1 := rowc X3.out.1
 unfold FV.arr at k0
 have HC := hidE (HW2.out w3 BB3.out)
 try unfold FV.val FV.arr at HC
 go_wp2_with fail
 refine HC.out.mono ?_
 rintro e w4 ⟨⟨v1, rfl, o1⟩, hb⟩
 have BB4 := hidE (BB3.out.trans (hb.mono BB3.out.size))
 have X4 := hidE (X3.out.next hb)
 have LA4 := hidE (LA3.out.below hb (Nat.le_refl _))
 obtain ⟨a5, c5, rfl, hi1⟩ := owns_intsAt o1
 have LB4 := hidE hi1
 simp only [HN2.out]
 clear hb k0 k1 HC BB3 X3 LA3 HW2 o1 hi1
 have k0 := rowc X4.out.2.1
 have k1 := rowc X4.out.1
 unfold FV.arr at k0
 have HC := hidE (HC1.out w4 BB4.out a4 c4 LA4.out)
 try unfold FV.val FV.arr at HC
 go_wp2_with fail
 refine HC.out.mono ?_
 rintro e w5 ⟨rfl, hb⟩
 have BB5 := hidE (BB4.out.trans (hb.mono BB4.out.size))
 have X5 := hidE (X4.out.next hb)
 have LA5 := hidE (LA4.out.below hb (Nat.le_refl _))
 have LB5 := hidE (LB4.out.below hb (Nat.le_refl _))
 clear hb k0 k1 HC BB4 X4 LA4 LB4 HC1
 have k0 := rowc X5.out.2.1
 have k1 := rowc X5.out.1
 unfold FV.arr at k0
 have HC := hidE (HC2.out w5 BB5.out a5 c5 LB5.out)
 try unfold FV.val FV.arr at HC
 go_wp2_with fail
 refine HC.out.mono ?_
 rintro e w6 ⟨rfl, hb⟩
 have BB6 := hidE (BB5.out.trans (hb.mono BB5.out.size))
 have X6 := hidE (X5.out.next hb)
 have LA6 := hidE (LA5.out.below hb (Nat.le_refl _))
 have LB6 := hidE (LB5.out.below hb (Nat.le_refl _))
 clear hb k0 k1 HC BB5 X5 LA5 LB5 HC2
 have k0 := rowc X6.out.2.1
 have k1 := rowc X6.out.1
 unfold FV.arr at k0
 have HC := hidE (HC3.out w6 BB6.out a4 c4 LA6.out)
 try unfold FV.val FV.arr at HC
 go_wp2_with fail
 refine HC.out.mono ?_
 rintro e w7 ⟨rfl, hb⟩
 have BB7 := hidE (BB6.out.trans (hb.mono BB6.out.size))
 have X7 := hidE (X6.out.next hb)
 have LA7 := hidE (LA6.out.below hb (Nat.le_refl _))
 have LB7 := hidE (LB6.out.below hb (Nat.le_refl _))
 clear hb k0 k1 HC BB6 X6 LA6 LB6 HC3
 have k0 := rowc X7.out.2.1
 have k1 := rowc X7.out.1
 unfold FV.arr at k0
 have HC := hidE (HC4.out w7 BB7.out a5 c5 LB7.out)
 try unfold FV.val FV.arr at HC
 go_wp2_with fail
 refine HC.out.mono ?_
 rintro e w8 ⟨rfl, hb⟩
 have BB8 := hidE (BB7.out.trans (hb.mono BB7.out.size))
 have X8 := hidE (X7.out.next hb)
 have LA8 := hidE (LA7.out.below hb (Nat.le_refl _))
 have LB8 := hidE (LB7.out.below hb (Nat.le_refl _))
 clear hb k0 k1 HC BB7 X7 LA7 LB7 HC4
 have k0 := rowc X8.out.2.1
 have k1 := rowc X8.out.1
 unfold FV.arr at k0
 have HC := hidE (HC5.out w8 BB8.out)
 try unfold FV.val FV.arr at HC
 go_wp2_with fail
 refine HC.out.mono ?_
 rintro e w9 ⟨rfl, hb⟩
 have BB9 := hidE (BB8.out.trans (hb.mono BB8.out.size))
 have X9 := hidE (X8.out.next hb)
 have LA9 := hidE (LA8.out.below hb (Nat.le_refl _))
 have LB9 := hidE (LB8.out.below hb (Nat.le_refl _))
 clear hb k0 k1 HC BB8 X8 LA8 LB8 HC5
 have k0 := rowc X9.out.2.1
 have k1 := rowc X9.out.1
 unfold FV.arr at k0
 have HC := hidE (HDR.out w9 BB9.out)
 try unfold FV.val FV.arr at HC
 go_wp2_with fail
 refine HC.out.mono ?_
 rintro e w10 ⟨rfl, hb⟩
 have BB10 := hidE (BB9.out.trans (hb.mono BB9.out.size))
 have X10 := hidE (X9.out.next hb)
 have LA10 := hidE (LA9.out.below hb (Nat.le_refl _))
 have LB10 := hidE (LB9.out.below hb (Nat.le_refl _))
 clear hb k0 k1 HC BB9 X9 LA9 LB9 HDR
 cases k
 ·clear HK1 HD1
  go_wp2_with fail
  refine (HSV.out _).mono ?_
  rintro e wz ⟨rfl, hbz⟩
  have BZ := hidE (B0.out.trans ((BB10.out.trans (hbz.mono BB10.out.size)).mono B0.out.size))
  clear hbz
  go_wp2_with fail
  go_ret
  exact ⟨rfl, BZ.out⟩
 have t1 := HK1.out (by trivial)
 have t2 := hidE (fun (q : d = true) => HD1.out (by trivial) q)
 clear HK1 HD1
 cases up
 ·have t3 := t1.2 (by trivial)
  have t4 := hidE (fun (q : d = true) => (t2.out q).2 (by trivial))
  have t5 : decide (lo < fin) = false := by simp; omega
  clear t1 t2
  cases d
  ·clear t4
   have k0 := rowc X10.out.2.1
   have k1 := rowc X10.out.1
   unfold FV.arr at k0
   have HC := hidE (HSV.out w10)
   try unfold FV.val FV.arr at HC
   go_wp2_with fail
   refine HC.out.mono ?_
   rintro e w11 ⟨rfl, hb⟩
   have BB11 := hidE (BB10.out.trans (hb.mono BB10.out.size))
   have X11 := hidE (X10.out.next hb)
   have LA11 := hidE (LA10.out.below hb (Nat.le_refl _))
   have LB11 := hidE (LB10.out.below hb (Nat.le_refl _))
   clear hb k0 k1 HC BB10 X10 LA10 LB10
   have k0 := rowc X11.out.2.1
   have k1 := rowc X11.out.1
   unfold FV.arr at k0
   go_wp2_with fail
   go_ret
   exact ⟨rfl, B0.out.trans (BB11.out.mono B0.out.size)⟩
  ·have t6 := t4.out (by trivial)
   have t7 : decide (fin ≤ av) = true := decide_eq_true t6
   clear t4
   have k0 := rowc X10.out.2.1
   have k1 := rowc X10.out.1
   unfold FV.arr at k0
   have HC := hidE (HSV.out w10)
   try unfold FV.val FV.arr at HC
   go_wp2_with fail
   refine HC.out.mono ?_
   rintro e w11 ⟨rfl, hb⟩
   have BB11 := hidE (BB10.out.trans (hb.mono BB10.out.size))
   have X11 := hidE (X10.out.next hb)
   have LA11 := hidE (LA10.out.below hb (Nat.le_refl _))
   have LB11 := hidE (LB10.out.below hb (Nat.le_refl _))
   clear hb k0 k1 HC BB10 X10 LA10 LB10
   have k0 := rowc X11.out.2.1
   have k1 := rowc X11.out.1
   unfold FV.arr at k0
   have HC := hidE (HAT.out w11 BB11.out)
   try unfold FV.val FV.arr at HC
   go_wp2_with fail
   refine HC.out.mono ?_
   rintro e w12 ⟨rfl, hb⟩
   have BB12 := hidE (BB11.out.trans (hb.mono BB11.out.size))
   have X12 := hidE (X11.out.next hb)
   have LA12 := hidE (LA11.out.below hb (Nat.le_refl _))
   have LB12 := hidE (LB11.out.below hb (Nat.le_refl _))
   clear hb k0 k1 HC BB11 X11 LA11 LB11
   go_wp2_with fail
   go_ret
   exact ⟨rfl, B0.out.trans (BB12.out.mono B0.out.size)⟩
 ·have t3 := t1.1 (by trivial)
  have t4 := hidE (fun (q : d = true) => (t2.out q).1 (by trivial))
  have t5 : decide (hi > fin) = false := by simp; omega
  clear t1 t2
  cases d
  ·clear t4
   have k0 := rowc X10.out.2.1
   have k1 := rowc X10.out.1
   unfold FV.arr at k0
   have HC := hidE (HSV.out w10)
   try unfold FV.val FV.arr at HC
   go_wp2_with fail
   refine HC.out.mono ?_
   rintro e w11 ⟨rfl, hb⟩
   have BB11 := hidE (BB10.out.trans (hb.mono BB10.out.size))
   have X11 := hidE (X10.out.next hb)
   have LA11 := hidE (LA10.out.below hb (Nat.le_refl _))
   have LB11 := hidE (LB10.out.below hb (Nat.le_refl _))
   clear hb k0 k1 HC BB10 X10 LA10 LB10
   have k0 := rowc X11.out.2.1
   have k1 := rowc X11.out.1
   unfold FV.arr at k0
   go_wp2_with fail
   go_ret
   exact ⟨rfl, B0.out.trans (BB11.out.mono B0.out.size)⟩
  ·have t6 := t4.out (by trivial)
   have t7 : decide (av ≤ fin) = true := decide_eq_true t6
   clear t4
   have k0 := rowc X10.out.2.1
   have k1 := rowc X10.out.1
   unfold FV.arr at k0
   have HC := hidE (HSV.out w10)
   try unfold FV.val FV.arr at HC
   go_wp2_with fail
   refine HC.out.mono ?_
   rintro e w11 ⟨rfl, hb⟩
   have BB11 := hidE (BB10.out.trans (hb.mono BB10.out.size))
   have X11 := hidE (X10.out.next hb)
   have LA11 := hidE (LA10.out.below hb (Nat.le_refl _))
   have LB11 := hidE (LB10.out.below hb (Nat.le_refl _))
   clear hb k0 k1 HC BB10 X10 LA10 LB10
   have k0 := rowc X11.out.2.1
   have k1 := rowc X11.out.1
   unfold FV.arr at k0
   have HC := hidE (HAT.out w11 BB11.out)
   try unfold FV.val FV.arr at HC
   go_wp2_with fail
   refine HC.out.mono ?_
   rintro e w12 ⟨rfl, hb⟩
   have BB12 := hidE (BB11.out.trans (hb.mono BB11.out.size))
   have X12 := hidE (X11.out.next hb)
   have LA12 := hidE (LA11.out.below hb (Nat.le_refl _))
   have LB12 := hidE (LB11.out.below hb (Nat.le_refl _))
   clear hb k0 k1 HC BB11 X11 LA11 LB11
   go_wp2_with fail
   go_ret
   exact ⟨rfl, B0.out.trans (BB12.out.mono B0.out.size)⟩
end Go.Proofs.YtkhemfnlflbniaaGreatDoor
namespace Go.Proofs.YtkhemfnlflbniaaGreatDoor
open Go Go.ChangeShapes Go.WideShapes Go.ChangeAt Go.RowKit Go.Joins Go.Deep
theorem and2 {a b : Bool} (ha : a = true) (hb : b = true) : (a && b) = true := by rw [ha, hb]; rfl
theorem argOk27 : ArgOk 52 := ⟨by kernel_rfl, of_decide_eq_true (by kernel_rfl)⟩
theorem argOk3 : ArgOk 3 := ⟨by kernel_rfl, of_decide_eq_true (by kernel_rfl)⟩
section
variable {H : Type} {enc : TypeId × Value → H}
theorem trodAll_below {W W' : World} (hb : Below W.heap.size W W') : ∀ (ts : List TypeId) (vs : List Value) (ds : List (DataW H)) (ps : List MemPlace), (∀ t ∈ ts, ArgOk t) → DataW.TrodAll enc Tryz.prog W 0 (fun _ => true) true ts vs ds ps →
 (∀ x ∈ ps, x.block < W.heap.size) → DataW.TrodAll enc Tryz.prog W' 0 (fun b => decide (b < W.heap.size)) true ts vs ds ps
 | [], vs, ds, ps, _, h, _ => by
   obtain ⟨rfl, rfl, rfl⟩ := trodAll_nil h
   exact trodAll_mk0
 | t :: ts, vs, ds, ps, hT, h, hs => by
   obtain ⟨v, vs', d, ds', p, q, rfl, rfl, rfl, h1, h2⟩ := trodAll_cons h
   have ht := hT t (List.mem_cons_self ..)
   exact trodAll_cons_mk (Below.trod Tryz.laidOut ht.1 ht.2 h1 hb (fun x hx => hs x (List.mem_append_left _ hx))) (trodAll_below hb ts vs' ds' q (fun x hx => hT x (List.mem_cons_of_mem _ hx)) h2 (fun x hx => hs x (List.mem_append_right _ hx)))
theorem law_post {f : Func} {s : ChangeSpec} {W W' : World} {args : Array Value} {ds gs : List (DataW H)} {before : List MemPlace}
 (hW : DataW.Whole enc Tryz.prog f.params.toList s.vars false W args.toList ds gs before) (hb : Below W.heap.size W W') (hrt : f.resultTypes = #[4])
 (hts : ∀ t ∈ f.params.toList, ArgOk t) (hsv : s.vars = []) (hfn : s.fn H (ds ++ []) = { results := [.lit (.bool true)], args := ds }) :
 s.post enc Tryz.prog f false true false false W args (.bool true) W' := by
 have hW' := hW
 obtain ⟨p, q, hA, hV, rfl, hfz, hnd⟩ := hW
 have hV' := hV
 rw [hsv] at hV'
 obtain ⟨rfl, rfl⟩ := trodVars_none hV'
 have hlt : ∀ x ∈ p, x.block < W.heap.size := fun x hx => by
  have := hW'.lt x
  exact this (List.mem_append_left _ hx)
 refine ⟨ds, [], p ++ [], [], p, [], hW', ?_, ?_, ?_, hb.frame _, fun h => by cases h⟩
 ·rw [hfn, hrt]
  exact trodAll_cons_mk (shut_bool Tryz.underlying4 _) trodAll_mk0
 ·rw [hfn]
  exact trodAll_below hb _ _ _ _ hts hA hlt
 ·rw [hfn, hsv]
  rfl
theorem ints_trod {W : World} {n : Nat} {cs : List Value} {x : DataW H × List MemPlace} (h : DataW.trod enc Tryz.prog W 0 (fun _ => true) true n 52 cs = some x) :
 ∃ (a : Option Addr) (cap : Nat) (l : List Int), cs = [.slice a l.length cap] ∧ IntsAt W a l ∧ SliceOk a l.length cap ∧ l.length ≤ 9223372036854775807 ∧ ∀ x ∈ l, i64ok x := by
 have c3 : Tryz.prog.cellsOf 3 = 1 := by kernel_rfl
 rcases open_slice1 Tryz.underlying52 c3 h with ⟨h1, _⟩ | ⟨a, len, cap, m, n', V, D, Pl, hcs, _, hl, hm, hmm, _, hx⟩
 ·exact ⟨none, 0, [], h1, .inl rfl, fun _ => ⟨rfl, rfl⟩, by simp, by simp⟩
 ·have hmm' : m = cap := hmm
  obtain ⟨l, hll, hlp⟩ := list_of (p := fun i (k : Int) => W.cell? (a.add i) = some (.int .i64 k) ∧ i64ok k) len (fun i hi => by
   obtain ⟨h1, h2⟩ := hx i (by omega)
   obtain ⟨k, hk, hok⟩ := int_cell h2
   exact ⟨k, by rw [h1, hk], hok⟩)
  have hm2 : cap ≤ 9223372036854775807 := hm
  refine ⟨some a, cap, l, by rw [hcs, hll], ?_, (fun e => by cases e), by omega, fun x hx => ?_⟩
  ·by_cases h0 : len = 0
   ·exact .inl (List.length_eq_zero_iff.1 (by omega))
   ·have z := (hlp 0 (by omega)).1
    have ha : a.spot = none := by
     have := (cell_plain z).1
     unfold Addr.add at this
     simpa using this
    obtain ⟨b, off, sp⟩ := a
    simp only at ha
    subst ha
    refine .inr ⟨b, off, rfl, ?_, fun i hi => ?_⟩
    ·have := (cell_plain z).2
     rw [add_plain] at this; exact this
    ·have := (hlp i hi).1
     rw [add_plain] at this; exact this
  ·obtain ⟨i, hi, rfl⟩ := List.getElem_of_mem hx
   exact (hlp i hi).2
set_option maxRecDepth 100000 in
theorem open_list {b0 : Nat} {W : World} {v : Value} {d : DataW H} {p : List MemPlace} (hv : Value.okWide Tryz.prog W .any b0 52 v) (h : DataW.Trod enc Tryz.prog W 0 (fun _ => true) true 52 v d p) :
 ∃ (a : Option Addr) (cap : Nat) (l : List Int), v = .slice a l.length cap ∧ IntsAt W a l ∧ SliceOk a l.length cap ∧ l.length ≤ 9223372036854775807 ∧ ∀ x ∈ l, i64ok x := by
 obtain ⟨n, hn⟩ := h
 obtain ⟨a, cap, l, h1, h2⟩ := ints_trod hn
 have hc : v = .slice a l.length cap := by
  have hs := okWide_slice Tryz.underlying52 hv
  obtain ⟨a', n', c', rfl⟩ := hs
  simpa [Value.cells] using h1
 exact ⟨a, cap, l, hc, h2⟩
set_option maxRecDepth 100000 in
theorem open_num {b0 : Nat} {W : World} {v : Value} {d : DataW H} {p : List MemPlace} (hv : Value.okWide Tryz.prog W .any b0 3 v) (h : DataW.Trod enc Tryz.prog W 0 (fun _ => true) true 3 v d p) : ∃ n : Int, v = .int .i64 n ∧ i64ok n := by
 obtain ⟨n, rfl, _, _, hw⟩ := open_int Tryz.underlying3 hv h
 refine ⟨n, rfl, ?_⟩
 have : IntKind.min .i64 ≤ n ∧ n ≤ IntKind.max .i64 := by simpa [Lit.wf] using hw
 simpa [i64ok, IntKind.min, IntKind.max, IntKind.signed, IntKind.bits] using this
end
theorem argOk46 : ArgOk 27 := ⟨by kernel_rfl, of_decide_eq_true (by kernel_rfl)⟩
section
variable {H : Type} {enc : TypeId × Value → H}
theorem sta_trod {W : World} {n : Nat} {cs : List Value} {y : DataW H × List MemPlace} (hl : cs.length = 2) (h : DataW.trod enc Tryz.prog W 0 (fun _ => true) true n 131 cs = some y) : ∃ s : Sta, cs = s.cells ∧ s.name.size ≤ 9223372036854775807 ∧ i64ok s.x := by
 have c9 : Tryz.prog.cellsOf 9 = 1 := by kernel_rfl
 have c3 : Tryz.prog.cellsOf 3 = 1 := by kernel_rfl
 match cs, hl with
 | [u0, u1], _ =>
   obtain ⟨ys, n2, _, _, _, hyl, hf⟩ := DataW.trod_struct Tryz.underlying131 h
   match ys, hyl with
   | [y0, y1], _ =>
     have f0 : DataW.trod enc Tryz.prog W 0 (fun _ => true) true n2 9 (([u0, u1].drop 0).take (Tryz.prog.cellsOf 9)) = some y0 := hf 0 _ rfl
     have f1 : DataW.trod enc Tryz.prog W 0 (fun _ => true) true n2 3 (([u0, u1].drop 1).take (Tryz.prog.cellsOf 3)) = some y1 := hf 1 _ rfl
     rw [c9] at f0
     rw [c3] at f1
     obtain ⟨k0, rfl, o0⟩ := str_cell (v := u0) (y := y0) f0
     obtain ⟨k1, rfl, o1⟩ := int_cell (v := u1) (y := y1) f1
     exact ⟨⟨k0, k1⟩, rfl, o0, o1⟩
theorem par_trod {W : World} {n : Nat} {cs : List Value} {y : DataW H × List MemPlace} (hl : cs.length = 4) (h : DataW.trod enc Tryz.prog W 0 (fun _ => true) true n 133 cs = some y) : ∃ s : Par, cs = s.cells ∧ s.name.size ≤ 9223372036854775807 ∧ i64ok s.south ∧ i64ok s.wst ∧ i64ok s.est := by
 have c9 : Tryz.prog.cellsOf 9 = 1 := by kernel_rfl
 have c3 : Tryz.prog.cellsOf 3 = 1 := by kernel_rfl
 match cs, hl with
 | [u0, u1, u2, u3], _ =>
   obtain ⟨ys, n2, _, _, _, hyl, hf⟩ := DataW.trod_struct Tryz.underlying133 h
   match ys, hyl with
   | [y0, y1, y2, y3], _ =>
     have f0 : DataW.trod enc Tryz.prog W 0 (fun _ => true) true n2 9 (([u0, u1, u2, u3].drop 0).take (Tryz.prog.cellsOf 9)) = some y0 := hf 0 _ rfl
     have f1 : DataW.trod enc Tryz.prog W 0 (fun _ => true) true n2 3 (([u0, u1, u2, u3].drop 1).take (Tryz.prog.cellsOf 3)) = some y1 := hf 1 _ rfl
     have f2 : DataW.trod enc Tryz.prog W 0 (fun _ => true) true n2 3 (([u0, u1, u2, u3].drop 2).take (Tryz.prog.cellsOf 3)) = some y2 := hf 2 _ rfl
     have f3 : DataW.trod enc Tryz.prog W 0 (fun _ => true) true n2 3 (([u0, u1, u2, u3].drop 3).take (Tryz.prog.cellsOf 3)) = some y3 := hf 3 _ rfl
     rw [c9] at f0
     rw [c3] at f1 f2 f3
     obtain ⟨k0, rfl, o0⟩ := str_cell (v := u0) (y := y0) f0
     obtain ⟨k1, rfl, o1⟩ := int_cell (v := u1) (y := y1) f1
     obtain ⟨k2, rfl, o2⟩ := int_cell (v := u2) (y := y2) f2
     obtain ⟨k3, rfl, o3⟩ := int_cell (v := u3) (y := y3) f3
     exact ⟨⟨k0, k1, k2, k3⟩, rfl, o0, o1, o2, o3⟩
theorem vrn_trod {W : World} {n : Nat} {cs : List Value} {y : DataW H × List MemPlace} (hl : cs.length = 2) (h : DataW.trod enc Tryz.prog W 0 (fun _ => true) true n 253 cs = some y) : ∃ s : Vrn, cs = s.cells ∧ i64ok s.year ∧ i64ok s.east := by
 have c3 : Tryz.prog.cellsOf 3 = 1 := by kernel_rfl
 match cs, hl with
 | [u0, u1], _ =>
   obtain ⟨ys, n2, _, _, _, hyl, hf⟩ := DataW.trod_struct Tryz.underlying253 h
   match ys, hyl with
   | [y0, y1], _ =>
     have f0 : DataW.trod enc Tryz.prog W 0 (fun _ => true) true n2 3 (([u0, u1].drop 0).take (Tryz.prog.cellsOf 3)) = some y0 := hf 0 _ rfl
     have f1 : DataW.trod enc Tryz.prog W 0 (fun _ => true) true n2 3 (([u0, u1].drop 1).take (Tryz.prog.cellsOf 3)) = some y1 := hf 1 _ rfl
     rw [c3] at f0 f1
     obtain ⟨k0, rfl, o0⟩ := int_cell (v := u0) (y := y0) f0
     obtain ⟨k1, rfl, o1⟩ := int_cell (v := u1) (y := y1) f1
     exact ⟨⟨k0, k1⟩, rfl, o0, o1⟩
set_option maxRecDepth 100000 in
theorem open_fld {b0 : Nat} {W : World} {v : Value} {d : DataW H} {p : List MemPlace} (hv : Value.okWide Tryz.prog W .any b0 27 v) (h : DataW.Trod enc Tryz.prog W 0 (fun _ => true) true 27 v d p) :
 ∃ (x : FV) (F : Fld), v = x.val F ∧ FldAt W x F := by
 obtain ⟨v0, v1, v2, v3, y0, y1, y2, y3, n, rfl, _, _, h0, h1, h2, h3⟩ := open_agg4 Tryz.underlying27 (by kernel_rfl) (by kernel_rfl) hv h
 obtain ⟨aS, cS, sts, e0, r0, l0, k0⟩ := recs_trod (k := 2) (f := Sta.cells) (by omega) Tryz.underlying22 (by kernel_rfl) (fun n cs y hl hh => sta_trod hl hh) h0
 obtain ⟨aL, cL, lms, e1, r1, l1, k1⟩ := recs_trod (k := 1) (f := strCells) (by omega) Tryz.underlying23 (by kernel_rfl) (fun n cs y hl hh => by
  match cs, hl with
  | [u], _ =>
    obtain ⟨s, rfl, hs⟩ := str_cell hh
    exact ⟨s, rfl, hs⟩) h1
 obtain ⟨aP, cP, prs, e2, r2, l2, k2⟩ := recs_trod (k := 4) (f := Par.cells) (by omega) Tryz.underlying24 (by kernel_rfl) (fun n cs y hl hh => par_trod hl hh) h2
 obtain ⟨aV, cV, vrs, e3, r3, l3, k3⟩ := recs_trod (k := 2) (f := Vrn.cells) (by omega) Tryz.underlying25 (by kernel_rfl) (fun n cs y hl hh => vrn_trod hl hh) h3
 simp only [List.cons.injEq, and_true] at e0 e1 e2 e3
 subst e0 e1 e2 e3
 refine ⟨⟨aS, cS, aL, cL, aP, cP, aV, cV⟩, ⟨sts, lms, prs, vrs⟩, rfl, r0, r1, r2, r3, l0, l1, l2, l3, ?_, fun s hs => (k0 s hs).2, fun s hs => (k2 s hs).2, k3⟩
 intro l hl s hs
 simp only [Fld.names, List.mem_cons, List.not_mem_nil, or_false] at hl
 rcases hl with rfl | rfl | rfl
 ·obtain ⟨t, ht, rfl⟩ := List.mem_map.1 hs
  exact (k0 t ht).1
 ·exact k1 s hs
 ·obtain ⟨t, ht, rfl⟩ := List.mem_map.1 hs
  exact (k2 t ht).1
end
end Go.Proofs.YtkhemfnlflbniaaGreatDoor
