/- What the law LimitsAwards needs beyond the base: PureG, Wo, PlK, PlQ, Y2, Lm2, Lm6, Lm7, PlN, Yk, E23, E25, E35, F3, Fr, Frf. No conditions beyond those stated. -/
import Derived.Test.YtkhemfnlflbniaaGreatDoorB03
import Derived.Test.YtkhemfnlflbniaaGreatDoorB02
import Derived.Test.YtkhemfnlflbniaaGreatDoorB01
import Derived.Test.YtkhemfnlflbniaaGreatDoorProg
import Derived.WalkKit
import Derived.Handy
import Derived.RangeFuncRecord
import Derived.Shelf.Abstract
import Derived.Deep.QuietTactic
import Derived.BigQuiet
import Derived.Laws.CopyOwn
import Derived.WalkSmall
import Derived.RangeFuncNested
import Derived.RangeFuncBound
import Derived.RangeFuncCalls
import Derived.RangeFuncLeaves
import Derived.Shelf.RegionOpen
import Derived.OwnWalkIn
import Derived.TacticsInMore
import Derived.LoopNIn
import Derived.LoopIn
import Derived.Maps.AppendAt
import Derived.Deep.Onto
import Derived.OrdersHeld
import Derived.Deep.LoopGhost
import Derived.Deep.WholeRow
import Derived.Deep.OwnRows
import Derived.StillTailTactics
import Derived.Great.Walk
import Derived.Great.BuildSlice
import Derived.Test.YtkhemfnlflbniaaGreatDoorB05
import Derived.Test.YtkhemfnlflbniaaGreatDoorB07
import Derived.Test.YtkhemfnlflbniaaGreatDoorB06
import Derived.Test.YtkhemfnlflbniaaGreatDoorB04
import Derived.WalkMore
import Derived.Deep.MidRow
import Derived.Deep.RegionHeld3
import Derived.Deep.DeepCutAuto
import Derived.Shelf.Small.Bits
import Derived.Shelf.Strconv.Itoa0
import Derived.Shelf.Sort.Plain
import Derived.Shelf.Slices.Turned
import Derived.Ground.Names2Prog
import Derived.Shelf.Slices.CompactI
import Derived.Shelf.Slices.SearchI
import Derived.Shelf.Slices.Cells
import Derived.Shelf.Slices.In.SortNone
import Derived.Lib.OwnBridge
import Derived.Lib.SliceRun
import Derived.WalkSpells
import Derived.Deep.RegionWith
import Derived.Lib.AppendZerosOnto
import Derived.Deep.CutBlock
import Derived.Test.YtkhemfnlflbniaaGreatDoorB09
import Derived.Test.YtkhemfnlflbniaaGreatDoorB08
import Derived.IntWalk
import Derived.Test.YtkhemfnlflbniaaGreatDoorB10
import Derived.Test.YtkhemfnlflbniaaGreatDoorB13
import Derived.Test.YtkhemfnlflbniaaGreatDoorB12
import Derived.Test.YtkhemfnlflbniaaGreatDoorB11
import Derived.Deep.Cut
import Derived.Laws.Rows
import Derived.Laws.Tables
import Derived.Laws.StructEq
import Derived.OrdersIn
import Derived.RangeFuncBox
import Derived.Test.YtkhemfnlflbniaaGreatDoorB14
import Derived.Test.YtkhemfnlflbniaaGreatDoorB15
import Derived.Test.YtkhemfnlflbniaaGreatDoorRows
import Derived.ProofKit
import Derived.OpenShut
import Derived.Carry
import Derived.Lib.SmallJoins
import Derived.Deep.Slices
import Derived.ChangeMaps5
namespace Go.Proofs.YtkhemfnlflbniaaGreatDoor
theorem asked0 {N : Int} {bs : List Bd} (h : askedE N bs [] = 0) : ∃ (R : Nat) (t : List Int), N = R ∧ openedP N bs = some t ∧ NetOk R bs t := by
 obtain ⟨hc, hp, t, ht⟩ := askedE_zero h
 obtain ⟨n0, n1, n2, nv⟩ := checkP_zero hc
 obtain ⟨R, rfl⟩ := Int.eq_ofNat_of_zero_le (show 0 ≤ N by omega)
 exact ⟨R, t, rfl, ht, netOk_of_asked h ht⟩
def tableP (N : Nat) (t : List Int) (bs : List Bd) : List (List Int) := (List.range N).map fun (a : Nat) => distP N t bs (a : Int)
theorem tableP_get (N : Nat) (t : List Int) (bs : List Bd) {a : Nat} (h : a < N) : (tableP N t bs).getD a [] = distP N t bs a := by
 simp [tableP, List.getD_eq_getElem?_getD, h]
theorem tableP_length (N : Nat) (t : List Int) (bs : List Bd) : (tableP N t bs).length = N := by simp [tableP]
def tget (T : List (List Int)) (a b : Nat) : Int := (T.getD a []).getD b 0
end Go.Proofs.YtkhemfnlflbniaaGreatDoor
namespace Go.Proofs.YtkhemfnlflbniaaGreatDoor
open Go Go.RowKit Go.Shelf
theorem map_range_succ {α : Type} (f : Nat → α) (k : Nat) : (List.range (k + 1)).map f = (List.range k).map f ++ [f k] := by rw [List.range_succ, List.map_append]; rfl
set_option maxRecDepth 100000 in
set_option maxHeartbeats 2000000 in
theorem table_any (w : World) (bn R : Nat) (a : Option Addr) (cap : Nat) (bs : List Bd) (t : List Int) (HO : NetOk R bs t) (hB : BoundsAt w a bs) (hn : w.heap[bn]? = some (.cells (netA R (.slice a bs.length cap) t) 265 (0,0))) :
 Calls Tryz.prog 246 #[.pointer (some ⟨bn, 0, none⟩)] w fun e w' => ∃ v, e = .returned v ∧ Below w.heap.size w w' ∧ w'.ownsRow w.heap.size 189 128 v R (flatR (tableP R t bs)) := by
 have dn : ∀ q, q < R → ∀ W, Below w.heap.size w W → Calls Tryz.prog 191 #[.pointer (some ⟨bn, 0, none⟩), .int .i64 (q : Int), .func (.func 152) #[] #[]] W fun e W' => e = .returned (.agg (rowA (distP R t bs q))) ∧ Below W.heap.size W W' :=
  fun q hq W hb => dist_net W bn R a cap bs t q HO hq (hB.below hb (Nat.le_refl _)) (blk_below hb (lt_of_block hn) hn)
 have hn1 := HO.n1
 have hrl : ∀ q, q < R → (distP R t bs q).length = 128 := fun q hq => (HO.row hq).1
 have e0 : w.cell? ⟨bn, 0, none⟩ = some (.int .i64 (R : Int)) := c_e hn rfl
 have hbn := lt_of_block hn
 have DN := hidE dn
 have HRL := hidE hrl
 clear dn hrl hB hn
 go_enter Tryz.func246, Tryz.ntmps246
 go_wp2_with fail
 go_loopw [3, 10] (fun v i wr => ∃ k : Nat, k ≤ R ∧ i = .int .i64 k ∧ Hid (wr.ownsRow w.heap.size 189 128 v k (flatR ((List.range k).map fun (q : Nat) => distP R t bs q))) ∧ Below w.heap.size w wr)
  (fun _ i _ => R - (intOf i).toNat)
 case atStart => exact ⟨0, Nat.zero_le _, rfl, hidE (World.ownsRow_nil _ _ _ _), by go_grown⟩
 case round =>
  obtain ⟨k, hk, rfl, hown, hb⟩ := hrel
  by_cases hlt : k < R
  ·have hcall := DN.out k hlt wr hb
   obtain ⟨r, hr⟩ : ∃ r, distP R t bs k = r := ⟨_, rfl⟩
   have hrl := HRL.out k hlt
   rw [hr] at hcall hrl
   have hbr : Hid (Tryz.prog.builtSlice 189 1 [(0, .agg (rowA r))] = some (rowA r)) := hidE (builtRow hrl)
   have HR := hidE hr
   have HC := hidE hcall
   have HL := hidE hrl
   clear hr hcall hrl
   go_wp2_with fail
   refine HC.out.mono ?_
   rintro e w1 ⟨rfl, hb1⟩
   have hv : ∀ g, u3.ownBlock = some g → g < wr.heap.size := fun g e => by
    rcases hown.out.2 with ⟨e1, _⟩ | ⟨g1, cp', cu, e1, _, hh, _⟩
    ·rw [e1] at e; simp [Value.ownBlock] at e
    ·rw [e1] at e
     simp only [Value.ownBlock, Option.some.injEq] at e
     subst e
     exact lt_of_block hh
   have own1 : w1.ownsRow w.heap.size 189 128 u3 k (flatR ((List.range k).map fun (q : Nat) => distP R t bs q)) := ownsRow_of_block hown.out (fun g e => hb1.block g (hv g e))
   obtain ⟨i0, hi, hz0, hz1, hz2⟩ := info_parts info94
   have hsz := Nat.le_trans hb.size hb1.size
   obtain ⟨v', wa, hrun, hown', hgrow, hnil, hblk⟩ := run_append_own_at (P := Tryz.prog) (w1.alloc (Obj.cells (rowA r) 189)) w.heap.size 185 185 189 i0 _ 128 1024 Tryz.underlying185 hi hz0 hz1 hz2 rfl (by decide) u3 _ _
    (own1.alloc _) ⟨w1.heap.size, 0, none⟩ 1 1 (intsV r) (by simp [intsV, HL.out]) (by
     intro j u hj
     rw [show ((⟨w1.heap.size, 0, none⟩ : Addr).add j) = ⟨w1.heap.size, 0 + j, none⟩ from by unfold Addr.add; split <;> simp_all]
     rw [cell_of_row _ _ _ _ _ _ (heap_alloc_new w1 _), Nat.zero_add]
     simpa [rowA] using hj) (by intro u hu; simp [intsV] at hu; obtain ⟨q, _, rfl⟩ := hu; rfl) (by unfold maxLen; omega) (by omega) (by simp; omega)
   have HRUN := hidE hrun
   have HOWN := hidE hown'
   have hb2 : Below w.heap.size w wa := ((hb.trans (hb1.mono hb.size)).alloc hsz _).grown hgrow (by simp; omega) (fun q e => by
    rcases own1.2 with ⟨e1, _⟩ | ⟨g1, cp', cu, e1, hge, hh, _⟩
    ·rw [e1] at e; simp [Value.ownBlock] at e
    ·rw [e1] at e
     simp only [Value.ownBlock, Option.some.injEq] at e
     omega)
   have HB2 := hidE hb2
   clear hrun hown' hgrow hnil hblk hb2 own1 hv hb1 hown hsz
   go_wp2_with (first
    | (refine Great.wpList_buildSliceTo rfl 185 189 1 _ rfl _ rfl _ rfl Tryz.underlying185 _ (by simp [Act.eval]; exact hbr.out) ?_)
    | (at_builtin; refine wpList_op_append rfl (s := .tmp 13) (x := .tmp 17) (t := 185) rfl rfl rfl HRUN.out ?_))
   go_roundw
   case rel => exact ⟨k + 1, by omega, by go_num, hidE (by rw [map_range_succ, flatR_append, flatR_one, HR.out]; exact HOWN.out), HB2.out⟩
   case measure => simp [intOf]; omega
  ·obtain rfl : k = R := by omega
   go_wp2_with fail
   go_ret
   exact ⟨_, rfl, hb, hown.out⟩
end Go.Proofs.YtkhemfnlflbniaaGreatDoor
namespace Go.Proofs.YtkhemfnlflbniaaGreatDoor
theorem nV_near {v : Int} (h : v < farI) : nV v = v := by unfold nV; unfold farI at h; rw [if_neg (by omega)]
def valuesB (N : Int) (y : List Int) : Bool := decide ((y.length : Int) = N) && (y.getD 0 0 == 0) && !(y.any fun v => !inR v (-400000000) 400000000)
def keptB (y : List Int) (b : Bd) : Bool := decide (b.most < getI y b.dst - getI y b.src)
def keptE (N : Int) (bs : List Bd) (y : List Int) : Int × Bool × Int :=
 if checkP N bs ≠ 0 then (0, false, checkP N bs) else if valuesB N y = false then (0, false, 1) else (max (idxOf (keptB y) bs) 0, decide (idxOf (keptB y) bs < 0), 0)
theorem valuesB_iff {N : Nat} {y : List Int} : valuesB N y = true ↔ y.length = N ∧ y.getD 0 0 = 0 ∧ ∀ v ∈ y, -400000000 ≤ v ∧ v ≤ 400000000 := by
 unfold valuesB
 simp only [Bool.and_eq_true, decide_eq_true_eq, beq_iff_eq, Bool.not_eq_true', List.any_eq_false, and_assoc]
 constructor
 ·rintro ⟨h1, h2, h3⟩; exact ⟨by omega, h2, fun v hv => inR_true.1 (by simpa using h3 v hv)⟩
 ·rintro ⟨h1, h2, h3⟩; exact ⟨by omega, h2, fun v hv => by simp [inR_true.2 (h3 v hv)]⟩
theorem kept_pot {bs : List Bd} {y : List Int} : idxOf (keptB y) bs < 0 ↔ Pot y bs := by
 rw [idxOf_neg]
 unfold Pot keptB
 simp only [List.any_eq_false, decide_eq_true_eq]
 constructor
 ·intro h b hb; have := h b hb; omega
 ·intro h b hb; have := h b hb; omega
theorem keptE_iff {N : Nat} {bs : List Bd} {y : List Int} (hc : checkP N bs = 0) : (keptE N bs y).2.1 = true ↔ Keeps N bs y := by
 unfold keptE
 rw [if_neg (by simp [hc])]
 split
 ·rename_i h
  constructor
  ·intro e; simp at e
  ·intro k; rw [valuesB_iff.2 ⟨k.len, k.zero, k.bd⟩] at h; simp at h
 ·rename_i h
  have h2 := valuesB_iff.1 (by simpa using h)
  simp only [decide_eq_true_eq]
  rw [kept_pot]
  exact ⟨fun p => ⟨h2.1, h2.2.1, h2.2.2, p⟩, fun k => k.pot⟩
theorem keptE_err {N : Nat} {bs : List Bd} {y : List Int} (hc : checkP N bs = 0) (h : (keptE N bs y).2.1 = true) : (keptE N bs y).2.2 = 0 ∧ (keptE N bs y).1 = 0 := by
 unfold keptE at h ⊢
 rw [if_neg (by simp [hc])] at h ⊢
 split at h
 ·simp at h
 ·rename_i h2
  rw [if_neg h2]
  simp only [decide_eq_true_eq] at h
  exact ⟨rfl, by simp only; omega⟩
def extremeE (N : Int) (bs : List Bd) (d : Nat → Int) (v : List Int) : List Int × Int :=
 if askedE N bs [] = 0 then (if (List.range N.toNat).any (fun p => !nB (d p)) then ([], 5) else (v, 0)) else ([], askedE N bs [])
def greatestE (N : Int) (bs : List Bd) : List Int × Int := extremeE N bs (fun p => distN N.toNat bs 0 p) (highV N.toNat bs)
def leastE (N : Int) (bs : List Bd) : List Int × Int := extremeE N bs (fun p => distN N.toNat bs p 0) (lowV N.toNat bs)
end Go.Proofs.YtkhemfnlflbniaaGreatDoor
namespace Go.Proofs.YtkhemfnlflbniaaGreatDoor
open Go Go.RowKit Go.Shelf
theorem within_at {n a b : Int} {r : Bool} (h : inR n a b = r) (w : World) : Calls Tryz.prog 232 #[.int .i64 n, .int .i64 a, .int .i64 b] w fun e w' => e = .returned (.bool r) ∧ w = w' := by
 rw [← h]; exact within_any n a b w
theorem values1_any (w : World) (v : Int) : Calls Tryz.prog 282 #[.int .i64 v] w fun e w' => e = .returned (.bool (!inR v (-400000000) 400000000)) ∧ w = w' := by
 obtain ⟨r, hr⟩ : ∃ r, inR v (-400000000) 400000000 = r := ⟨_, rfl⟩
 rw [hr]
 have HR := hidE hr
 clear hr
 go_enter Tryz.func282, Tryz.ntmps282
 go_wp2_with (go_at_call 232; refine (within_at HR.out _).mono ?_; rintro e w' ⟨rfl, rfl⟩)
 go_ret
 exact ⟨rfl, rfl⟩
set_option maxHeartbeats 400000 in
theorem values_any (w : World) (N : Int) (sv : Value) (a : Option Addr) (cap : Nat) (y : List Int) (hN0 : 1 ≤ N) (hN1 : N ≤ 128) (hl : y.length ≤ 9223372036854775807) (h : IntsAt w a y) :
 Calls Tryz.prog 247 #[.agg #[.int .i64 N, sv], .slice a y.length cap] w fun e w' => e = .returned (.bool (valuesB N y)) ∧ Below w.heap.size w w' := by
 by_cases h1 : (y.length : Int) = N
 ·have h1b : ((y.length : Int) == N) = true := by simpa using h1
  have hlt : 0 < y.length := by omega
  obtain ⟨b, off, rfl, hbl, hc⟩ := h.at hlt
  have hg : y.getD 0 0 = y[0] := getD_get y 0 hlt
  obtain ⟨v, hv⟩ : ∃ v, y[0] = v := ⟨_, rfl⟩
  rw [hv] at hc hg
  rw [Nat.add_zero] at hc
  by_cases h2 : v = 0
  ·have h2b : (v == 0) = true := by simpa using h2
   have hq := containsFuncInts_any (w.alloc (.cells #[.int .i64 N, sv] 61)) (some ⟨b, off, none⟩) cap y 282 #[] (fun v => !inR v (-400000000) 400000000) hl (h.alloc _) (fun k hk W hb => (values1_any W y[k]).mono fun _ _ ⟨he, hw⟩ => ⟨he, hw ▸ Below.refl _ _⟩) (enters_of Tryz.func282 (by kernel_rfl) rfl)
   have hval : valuesB N y = !(y.any fun v => !inR v (-400000000) 400000000) := by unfold valuesB; rw [hg, h1]; simp [h2]
   obtain ⟨r, hr⟩ : ∃ r, (y.any fun v => !inR v (-400000000) 400000000) = r := ⟨_, rfl⟩
   rw [hr] at hq hval
   have HQ := hidE hq
   have HV := hidE hval
   clear hq hval hr hg hv h1 h2 h
   go_enter Tryz.func247, Tryz.ntmps247
   go_wp2_with fail
   refine HQ.out.mono ?_
   rintro e w1 ⟨rfl, hb1⟩
   go_wp2_with fail
   go_ret
   exact ⟨by rw [HV.out]; rfl, ((Below.refl _ _).alloc (Nat.le_refl _) _).trans (hb1.mono (by simp))⟩
  ·have h2b : (v == 0) = false := by simpa using h2
   have hval : valuesB N y = false := by unfold valuesB; rw [hg]; simp [h2]
   have HV := hidE hval
   clear hval hg hv h1 h2 h
   go_enter Tryz.func247, Tryz.ntmps247
   go_wp2_with fail
   go_ret
   exact ⟨by rw [HV.out]; rfl, by go_grown⟩
 ·have h1b : ((y.length : Int) == N) = false := by simpa using h1
  have hval : valuesB N y = false := by unfold valuesB; simp [h1]
  have HV := hidE hval
  clear hval h1 h
  go_enter Tryz.func247, Tryz.ntmps247
  go_wp2_with fail
  go_ret
  exact ⟨by rw [HV.out]; rfl, by go_grown⟩
set_option maxHeartbeats 400000 in
theorem kept1_any (w : World) (b : Bd) (N bl : Nat) (a : Option Addr) (cap : Nat) (y : List Int) (hb : b.valid N) (hN : y.length = N) (_hN1 : N ≤ 128) (hv : ∀ v ∈ y, -400000000 ≤ v ∧ v ≤ 400000000) (h : IntsAt w a y) (hc : w.cell? ⟨bl, 0, none⟩ = some (.slice a y.length cap)) (hbl : bl < w.heap.size) :
 Calls Tryz.prog 249 #[b.val, .pointer (some ⟨bl, 0, none⟩)] w fun e w' => e = .returned (.bool (keptB y b)) ∧ Below w.heap.size w w' := by
 obtain ⟨v1, v2, v3, v4, v5, v6⟩ := hb
 obtain ⟨ys, yd, ym, yr⟩ := b
 simp only at v1 v2 v3 v4 v5 v6
 obtain ⟨si, rfl⟩ := Int.eq_ofNat_of_zero_le v1
 obtain ⟨di, rfl⟩ := Int.eq_ofNat_of_zero_le v3
 have hs : si < y.length := by omega
 have hd : di < y.length := by omega
 obtain ⟨b, off, rfl, hbw, hcs⟩ := h.at hs
 obtain ⟨b', off', e', _, hcd⟩ := h.at hd
 cases e'
 have q1 := hv y[si] (List.getElem_mem _)
 have q2 := hv y[di] (List.getElem_mem _)
 have hkb : keptB y ⟨si, di, ym, yr⟩ = decide (ym < y[di] - y[si]) := by
  unfold keptB getI
  rw [decide_eq_decide]
  simp only [Int.toNat_natCast]
  rw [getD_get y 0 hs, getD_get y 0 hd]
 obtain ⟨x, hx⟩ : ∃ x, y[si] = x := ⟨_, rfl⟩
 obtain ⟨z, hz⟩ : ∃ z, y[di] = z := ⟨_, rfl⟩
 rw [hx, hz] at hkb
 rw [hx] at hcs q1
 rw [hz] at hcd q2
 have s0 : (si : Int) < y.length := by omega
 have d0 : (di : Int) < y.length := by omega
 have hw1 : IntKind.i64.wrap (z - x) = z - x := IntWalk.i64_in _ (by omega)
 have HK := hidE hkb
 have hbl1 : bl < w.heap.size + 1 := by omega
 clear hkb hx hz hN h hv hbw
 unfold Bd.val
 go_enter Tryz.func249, Tryz.ntmps249
 go_wp2_with fail
 go_quiet (fail)
 go_wp2_with fail
 go_ret
 exact ⟨by rw [HK.out]; rfl, ((Below.refl _ _).alloc (Nat.le_refl _) _).trans (below_drewN' _ _)⟩
set_option maxHeartbeats 1000000 in
theorem kept_any (w : World) (N : Int) (a : Option Addr) (cap : Nat) (bs : List Bd) (a2 : Option Addr) (cap2 : Nat) (y : List Int) (hN : i64ok N) (hl : bs.length ≤ 9223372036854775807) (hl2 : y.length ≤ 9223372036854775807) (h : BoundsAt w a bs) (h2 : IntsAt w a2 y) :
 Calls Tryz.prog 198 #[.agg #[.int .i64 N, .slice a bs.length cap], .slice a2 y.length cap2] w fun e w' => e = .returned (.tuple #[.int .i64 (keptE N bs y).1, .bool (keptE N bs y).2.1, .int .i64 (keptE N bs y).2.2]) ∧ Below w.heap.size w w' := by
 obtain ⟨W0, hW0⟩ : ∃ W0, W0 = (w.alloc (.cells #[.int .i64 N, .slice a bs.length cap] 61)).alloc (.cells #[.slice a2 y.length cap2] 52) := ⟨_, rfl⟩
 have b0 : Below w.heap.size w W0 := by rw [hW0]; exact ((Below.refl _ _).alloc (Nat.le_refl _) _).alloc (by simp) _
 have x0 : W0.heap[w.heap.size]? = some (.cells #[.int .i64 N, .slice a bs.length cap] 61 (0,0)) := by rw [hW0, Below.heap_alloc _ _ _ (by simp), heap_alloc_new]
 have x1 : W0.heap[w.heap.size + 1]? = some (.cells #[.slice a2 y.length cap2] 52 (0,0)) := by rw [hW0, heap_alloc_at _ _ _ (by simp)]
 have hck := check_any W0 N a cap bs hN hl (h.below b0 (Nat.le_refl _))
 by_cases hc : checkP N bs = 0
 ·obtain ⟨n0, n1, n2, nv⟩ := checkP_zero hc
  rw [hc] at hck
  have HCK := hidE hck
  have H := hidE h
  have H2 := hidE h2
  have X0 := hidE x0
  have X1 := hidE x1
  have B0 := hidE b0
  have HW := hidE hW0
  have HC := hidE hc
  have NV := hidE nv
  clear hck h h2 x0 x1 b0 hW0 hc nv hN
  go_enter Tryz.func198, Tryz.ntmps198
  go_upto_region 1 with fail
  rw [← HW.out]
  have e0 : W0.cell? ⟨w.heap.size, 0, none⟩ = some (.int .i64 N) := c_e X0.out rfl
  have e1 : W0.cell? ⟨w.heap.size, 1, none⟩ = some (.slice a bs.length cap) := c_e X0.out rfl
  go_wp2_with fail
  refine HCK.out.mono ?_
  rintro e w1 ⟨rfl, hb1⟩
  have y0 := blk_below hb1 (lt_of_block X0.out) X0.out
  have y1 := blk_below hb1 (lt_of_block X1.out) X1.out
  have B1 := B0.out.trans (hb1.mono B0.out.size)
  have hva := values_any w1 N (.slice a bs.length cap) a2 cap2 y n0 n1 hl2 (H2.out.below B1 (Nat.le_refl _))
  have Y0 := hidE y0
  have Y1 := hidE y1
  have HB1 := hidE B1
  have HVA := hidE hva
  have f0 : w1.cell? ⟨w.heap.size, 0, none⟩ = some (.int .i64 N) := c_e Y0.out rfl
  have f1 : w1.cell? ⟨w.heap.size, 1, none⟩ = some (.slice a bs.length cap) := c_e Y0.out rfl
  have f2 : w1.cell? ⟨w.heap.size + 1, 0, none⟩ = some (.slice a2 y.length cap2) := cell_of_one Y1.out
  clear y0 y1 B1 hb1 hva e0 e1
  go_wp2_with fail
  refine HVA.out.mono ?_
  rintro e w2 ⟨rfl, hb2⟩
  have z0 := blk_below hb2 (lt_of_block Y0.out) Y0.out
  have z1 := blk_below hb2 (lt_of_block Y1.out) Y1.out
  have B2 := HB1.out.trans (hb2.mono HB1.out.size)
  have Z0 := hidE z0
  have Z1 := hidE z1
  have HB2 := hidE B2
  clear z0 z1 B2 hb2 f0 f1 f2
  cases hvb : valuesB N y with
  | false =>
    have hk : keptE N bs y = (0, false, 1) := by unfold keptE; rw [if_neg (by simp [HC.out]), if_pos hvb]
    have HK := hidE hk
    clear hvb hk
    go_wp2_with fail
    go_ret3
    exact ⟨by rw [HK.out]; rfl, HB2.out⟩
  | true =>
    have hk : keptE N bs y = (max (idxOf (keptB y) bs) 0, decide (idxOf (keptB y) bs < 0), 0) := by unfold keptE; rw [if_neg (by simp [HC.out]), if_neg (by rw [hvb]; simp)]
    obtain ⟨R, rfl⟩ := Int.eq_ofNat_of_zero_le (show 0 ≤ N by omega)
    obtain ⟨q1, q2, q3⟩ := valuesB_iff.1 hvb
    have e0 : w2.cell? ⟨w.heap.size, 0, none⟩ = some (.int .i64 (R : Int)) := c_e Z0.out rfl
    have e1 : w2.cell? ⟨w.heap.size, 1, none⟩ = some (.slice a bs.length cap) := c_e Z0.out rfl
    have l1 := lt_of_block Z1.out
    have hidx := indexFuncBounds_any w2 a cap bs 249 #[.pointer (some ⟨w.heap.size + 1, 0, none⟩)] (· < w2.heap.size) (keptB y) hl (H.out.below HB2.out (Nat.le_refl _)) (fun b hb => hb)
     (fun k hk W hkp => kept1_any W bs[k] R (w.heap.size + 1) a2 cap2 y (NV.out _ (List.getElem_mem _)).1 q1 (by omega) q3 ((H2.out.below HB2.out (Nat.le_refl _)).kept (fun b hb => hkp.same b hb) hkp.size) ((hkp.cell (by show w.heap.size + 1 < _; exact l1)).trans (cell_of_one Z1.out)) (Nat.lt_of_lt_of_le l1 hkp.size))
     (enters_of Tryz.func249 (by kernel_rfl) rfl)
    obtain ⟨ix, hix⟩ : ∃ x, idxOf (keptB y) bs = x := ⟨_, rfl⟩
    rw [hix] at hidx hk
    have HI := hidE hidx
    have HK := hidE hk
    clear hvb hk hidx hix q1 q2 q3
    go_wp2_with fail
    refine HI.out.mono ?_
    rintro e w3 ⟨rfl, hb3⟩
    have HB3 := hidE (HB2.out.trans (hb3.mono HB2.out.size))
    clear hb3 e0 e1
    go_wp2_with fail
    go_ret3
    exact ⟨by rw [HK.out]; rfl, HB3.out⟩
 ·have hk : keptE N bs y = (0, false, checkP N bs) := by unfold keptE; rw [if_pos hc]
  obtain ⟨c, hcc⟩ : ∃ c, checkP N bs = c := ⟨_, rfl⟩
  rw [hcc] at hk hc hck
  have hc2 : (c != 0) = true := by simpa using hc
  have HCK := hidE hck
  have HK := hidE hk
  have X0 := hidE x0
  have B0 := hidE b0
  have HW := hidE hW0
  clear hck hk hc hcc h h2 hN x0 x1 b0 hW0
  go_enter Tryz.func198, Tryz.ntmps198
  go_upto_region 1 with fail
  rw [← HW.out]
  have e0 : W0.cell? ⟨w.heap.size, 0, none⟩ = some (.int .i64 N) := c_e X0.out rfl
  have e1 : W0.cell? ⟨w.heap.size, 1, none⟩ = some (.slice a bs.length cap) := c_e X0.out rfl
  go_wp2_with fail
  refine HCK.out.mono ?_
  rintro e w1 ⟨rfl, hb1⟩
  clear e0 e1
  go_wp2_with fail
  go_ret3
  exact ⟨by rw [HK.out]; rfl, B0.out.trans (hb1.mono B0.out.size)⟩
end Go.Proofs.YtkhemfnlflbniaaGreatDoor
namespace Go.Proofs.YtkhemfnlflbniaaGreatDoor
theorem Tied.n0 {N : Nat} {bs : List Bd} (T : Tied N bs) : 1 ≤ N := by obtain ⟨t, _, H⟩ := T.net; exact H.n0
theorem drw_ends {F : Fld} {l : List Rcd} (h : Good F l) (ha : agreeB F l = true) {y : List Int} (k : Drw F l y) {p : Nat} (h2 : p < ptN F) : lowE F l p ≤ y.getD p 0 ∧ y.getD p 0 ≤ highE F l p := by
 have T := tied h ha
 have d := tied_dist T k h2 (b := 0) T.n0
 have e := tied_dist T k (a := 0) T.n0 h2
 rw [k.zero] at d e
 unfold lowE highE
 omega
theorem last_eq {F : Fld} {l : List Rcd} (h : Good F l) (ha : agreeB F l = true) : greatestE (ptN F) (sysL F l) = (highV (ptN F) (sysL F l), 0) ∧ leastE (ptN F) (sysL F l) = (lowV (ptN F) (sysL F l), 0) := by
 have T := tied h ha
 have k : askedE (ptN F) (sysL F l) [] = 0 := by
  rw [asked_ok h (by simp), if_pos ha]
 have n1 : ¬ ((List.range (ptN F : Int).toNat).any fun p => !nB (distN (ptN F : Int).toNat (sysL F l) 0 p)) = true := by
  simp only [Int.toNat_natCast, List.any_eq_true, List.mem_range, not_exists, not_and]
  intro p hp
  have := T.fin 0 p T.n0 hp
  unfold farI at this
  unfold nB
  simp only [Bool.not_eq_true', decide_eq_false_iff_not]
  omega
 have n2 : ¬ ((List.range (ptN F : Int).toNat).any fun p => !nB (distN (ptN F : Int).toNat (sysL F l) p 0)) = true := by
  simp only [Int.toNat_natCast, List.any_eq_true, List.mem_range, not_exists, not_and]
  intro p hp
  have := T.fin p 0 hp T.n0
  unfold farI at this
  unfold nB
  simp only [Bool.not_eq_true', decide_eq_false_iff_not]
  omega
 unfold greatestE leastE extremeE
 constructor
 ·rw [if_pos k, if_neg n1]; rfl
 ·rw [if_pos k, if_neg n2]; rfl
theorem kept_eq {F : Fld} {l : List Rcd} (h : Good F l) (y : List Int) : ((keptE (ptN F) (sysL F l) y).2.1 && decide ((keptE (ptN F) (sysL F l) y).2.2 = 0)) = true ↔ Drw F l y := by
 rw [Bool.and_eq_true, decide_eq_true_eq]
 constructor
 ·intro k
  exact (keptE_iff (sys_check h)).1 k.1
 ·intro k
  have := (keptE_iff (sys_check h)).2 k
  exact ⟨this, (keptE_err (sys_check h) this).1⟩
theorem flag_zero {b : Bool} : flagE b = 0 ↔ b = true := by cases b <;> simp [flagE]
theorem award_zero {F : Fld} {l : List Rcd} {i s a b : Int} (h : (awardE F l i s a b).2 = 0) : Good F l ∧ agreeB F l = true ∧ (limB F i = true ∧ staB F s = true) ∧ (0 ≤ a ∧ a < b ∧ b ≤ 100000) ∧ matchE F l (flagE (stripB F i s a b)) = 0 := by
 unfold awardE at h
 by_cases k : matchE F l (flagE (stripB F i s a b)) ≠ 0
 ·rw [if_pos k] at h; exact absurd h k
 ·have k0 := Classical.not_not.1 k
  have := match_zero.1 k0
  have c := flag_zero.1 this.2.1
  unfold stripB cornB at c
  simp only [Bool.and_eq_true, decide_eq_true_eq] at c
  exact ⟨this.1, this.2.2, c.1, ⟨c.2.1.1, c.2.1.2, c.2.2⟩, k0⟩
theorem award_of {F : Fld} {l : List Rcd} {i s a b : Int} (h : matchE F l (flagE (stripB F i s a b)) = 0) : awardE F l i s a b = (awardOf (lowE F l (ptS F i s)) (highE F l (ptS F i s)) a b, 0) ∧ partsE F l i s a b = (cutP (lowE F l (ptS F i s)) (highE F l (ptS F i s)) a b, 0) := by
 unfold awardE partsE
 rw [h]
 exact ⟨rfl, rfl⟩
theorem awards_law {F : Fld} {l : List Rcd} {i s a b : Int} (h : (awardE F l i s a b).2 = 0) :
 let lo := lowE F l (ptS F i s); let hi := highE F l (ptS F i s); let c := cutP lo hi a b
 c.1 + c.2.1 + c.2.2 = b - a ∧ 0 ≤ c.2.1 ∧ (cutP lo lo a b).1 = c.1 ∧ (cutP hi hi a b).2.2 = c.2.2 ∧ ((awardE F l i s a b).1 = 1 ↔ (cutP hi hi a b).1 = 0) ∧ ((awardE F l i s a b).1 = 2 ↔ (cutP lo lo a b).2.2 = 0) ∧
 (∀ y, Drw F l y → let u := (cutP (y.getD (ptS F i s) 0) (y.getD (ptS F i s) 0) a b); u.1 + u.2.2 = b - a ∧ c.1 ≤ u.1 ∧ c.2.2 ≤ u.2.2 ∧ ((awardE F l i s a b).1 = 1 → u.1 = 0) ∧ ((awardE F l i s a b).1 = 2 → u.2.2 = 0)) := by
 obtain ⟨g, ha, hc, hab, k⟩ := award_zero h
 have p := ptS_bd hc.1 hc.2
 have e := ends_bd g ha p.1 p.2.1
 rw [(award_of k).1]
 unfold awardOf cutP clampE
 refine ⟨by dsimp; omega, by dsimp; omega, by dsimp, by dsimp, ?_, ?_, ?_⟩
 ·dsimp
  split
  ·simp; omega
  ·split
   ·simp; omega
   ·simp; omega
 ·dsimp
  split
  ·simp; omega
  ·split
   ·simp; omega
   ·simp; omega
 ·intro y hy
  have := drw_ends g ha hy p.2.1
  dsimp
  refine ⟨by omega, by omega, by omega, ?_, ?_⟩
  ·split
   ·intro _; omega
   ·split <;> intro q <;> exact absurd q (by decide)
  ·split
   ·intro q; exact absurd q (by decide)
   ·split
    ·intro _; omega
    ·intro q; exact absurd q (by decide)
theorem tget_dist {N : Nat} {bs : List Bd} {t : List Int} (ht : openedP N bs = some t) {a : Nat} (b : Nat) (ha : a < N) : tget (tableP N t bs) a b = distN N bs a b := by
 unfold tget distN
 rw [tableP_get N t bs ha, heightsP_of ht]
end Go.Proofs.YtkhemfnlflbniaaGreatDoor
namespace Go.Proofs.YtkhemfnlflbniaaGreatDoor
open Go Go.RowKit Go.Shelf
set_option maxRecDepth 100000 in
set_option maxHeartbeats 4000000 in
theorem extreme_high (w : World) (N : Int) (a : Option Addr) (cap : Nat) (bs : List Bd) (hN : i64ok N) (hl : bs.length ≤ 9223372036854775807) (h : BoundsAt w a bs) :
 Calls Tryz.prog 189 #[.agg #[.int .i64 N, .slice a bs.length cap], .string ⟨#[104, 105, 103, 104]⟩] w fun e w' => PathPost (greatestE N bs).1 (greatestE N bs).2 w.heap.size e w' ∧ Below w.heap.size w w' := by
 have H := hidE h
 have HN := hidE hN
 clear h hN
 have hB0 : Below w.heap.size w (w.alloc (.cells #[.int .i64 N, .slice a bs.length cap] 61)) := (Below.refl _ _).alloc (Nat.le_refl _) _
 have hx0 : (w.alloc (.cells #[.int .i64 N, .slice a bs.length cap] 61)).heap[w.heap.size]? = some (.cells #[.int .i64 N, .slice a bs.length cap] 61 (0,0)) := heap_alloc_new _ _
 have hask : Calls Tryz.prog 143 #[.agg #[.int .i64 N, .slice a bs.length cap], .slice none 0 0] (w.alloc (.cells #[.int .i64 N, .slice a bs.length cap] 61)) _ :=
  asked_any _ N a cap bs none 0 [] HN.out hl (by simp) (H.out.alloc _) (.inl rfl)
 have X0 := hidE hx0
 clear hx0
 by_cases he : askedE N bs [] = 0
 ·obtain ⟨R, t, rfl, ht, HO⟩ := asked0 he
  have hE : greatestE R bs = if (List.range R).any (fun p => !nB (distN R bs 0 p)) = true then ([], 5) else (highV R bs, 0) := by
   unfold greatestE extremeE; rw [if_pos he]; simp only [Int.toNat_natCast]
  have hn0 := HO.n0
  have hn1 := HO.n1
  have htg := fun (p q : Nat) (hp : p < R) => tget_dist ht q hp
  have htl := tableP_length R t bs
  have hbd : ∀ p q, p < R → q < R → -1000000000000000 ≤ distN R bs p q := fun p q hp hq => by
   have := HO.row_bd hp hq
   unfold distN; rw [heightsP_of ht]
   omega
  have hrl : ∀ r ∈ tableP R t bs, r.length = 128 := by
   intro r hr
   simp only [tableP, List.mem_map, List.mem_range] at hr
   obtain ⟨q, hq, rfl⟩ := hr
   exact (HO.row hq).1
  have HE := hidE hE
  have HA := hidE hask
  have HEE := hidE he
  have HT := hidE ht
  have HTG := hidE htg
  have HTL := hidE htl
  have HRL := hidE hrl
  have HBD := hidE hbd
  clear hE hask he ht htg htl hrl hbd
  go_enter Tryz.func189, Tryz.ntmps189
  go_wp2_with fail
  refine HA.out.mono ?_
  rintro e w1 ⟨hp, hb1⟩
  unfold AskedPost at hp
  rw [if_pos HEE.out] at hp
  obtain ⟨bn, t', ht', rfl, hbn, hcell⟩ := hp
  have htt : t' = t := by have := HT.out; rw [ht'] at this; exact Option.some.inj this
  subst htt
  have B1 := hB0.trans (hb1.mono hB0.size)
  have htab := table_any w1 bn R a cap bs t' HO (H.out.below B1 (Nat.le_refl _)) hcell
  have x1 := blk_below hb1 (by simp) X0.out
  have HTAB := hidE htab
  have HB1 := hidE B1
  have X1 := hidE x1
  clear htab hcell ht' hb1 B1 hbn x1
  go_wp2_with fail
  refine HTAB.out.mono ?_
  rintro e w2 ⟨v, rfl, hb2, hown⟩
  obtain ⟨R', hR'⟩ : ∃ R', R = R' + 1 := ⟨R - 1, by omega⟩
  have hown' := hown
  rw [hR'] at hown'
  obtain ⟨g, cp, rfl⟩ := ownsRow_succ hown'
  rw [← hR'] at hown
  obtain ⟨hra, hgl⟩ := rowsAt_of_owns hown HRL.out
  have x2 := blk_below hb2 (lt_of_block X1.out) X1.out
  have HRA := hidE hra
  have HB2 := hidE (HB1.out.trans (hb2.mono HB1.out.size))
  have X2 := hidE x2
  have e0 : w2.cell? ⟨w.heap.size, 0, none⟩ = some (.int .i64 (R : Int)) := c_e x2 rfl
  rw [← hR']
  clear hra hown hown' hb2 x2 hR'
  go_wp2_with fail
  clear e0
  go_loopw [9, 25] (fun v9 i wr => ∃ k : Nat, k ≤ R ∧ i = .int .i64 k ∧ Hid (∀ p, p < k → nB (distN R bs 0 p) = true) ∧ Hid (wr.ownsRow w2.heap.size 3 1 v9 ((List.range k).map (fun p : Nat => nV (distN R bs 0 p))).length (intsV ((List.range k).map (fun p : Nat => nV (distN R bs 0 p))))) ∧ Hid (Below w2.heap.size w2 wr)) (fun _ i _ => R - (intOf i).toNat)
  case atStart => exact ⟨0, by omega, rfl, hidE (fun p hp => by omega), hidE (World.ownsRow_nil _ _ _ _), hidE (Below.refl _ _)⟩
  case round =>
   obtain ⟨k, hk, rfl, hall, hown, hb⟩ := hrel
   by_cases hlt : k < R
   ·have hra2 := HRA.out.below hb.out hgl
    have c0 := hra2 0 k (by rw [HTL.out]; omega) (by omega)
    have c1 := hra2 k 0 (by rw [HTL.out]; omega) (by omega)
    have g0 := HTG.out 0 k (by omega)
    have g1 := HTG.out k 0 (by omega)
    unfold tget at g0 g1
    rw [g0, Nat.zero_mul, Nat.zero_add] at c0
    rw [g1, Nat.add_zero] at c1
    clear g0 g1
    have hb0 := HBD.out 0 k (by omega) hlt
    have hb9 := HBD.out k 0 hlt (by omega)
    obtain ⟨v1, hv1⟩ : ∃ v, distN R bs 0 k = v := ⟨_, rfl⟩
    obtain ⟨v2, hv2⟩ : ∃ v, distN R bs k 0 = v := ⟨_, rfl⟩
    rw [hv1] at c0 hb0
    rw [hv2] at c1 hb9
    have hgw : g < wr.heap.size := Nat.lt_of_lt_of_le hgl hb.out.size
    have k128 : (k : Int) < 128 := by omega
    have k128' : k < 128 := by omega
    have kR : (k : Int) < (R : Int) := by omega
    have R0 : (0 : Int) < (R : Int) := by omega
    have R0' : 0 < R := by omega
    have HV1 := hidE hv1
    have HV2 := hidE hv2
    have hsn : (List.range (k + 1)).map (fun p : Nat => nV (distN R bs 0 p)) = (List.range k).map (fun p : Nat => nV (distN R bs 0 p)) ++ [numV v1] := by
     rw [List.range_succ, List.map_append]
     simp only [List.map_cons, List.map_nil]
     rw [HV1.out]; rfl
    have HSN := hidE hsn
    obtain ⟨nb, hnb⟩ : ∃ b, numB v1 = b := ⟨_, rfl⟩
    have hnb2 : nB (distN R bs 0 k) = nb := by rw [HV1.out]; exact hnb
    have HNB := hidE hnb2
    obtain ⟨nv, hnv⟩ : ∃ v, numV v1 = v := ⟨_, rfl⟩
    rw [hnv] at HSN
    clear hv1 hv2 hsn hnb2 hra2
    obtain ⟨wq, rfl⟩ : ∃ y : World, y = wr := ⟨wr, rfl⟩
    have lh : (Instr.lookup 242 (.map (some wq.heap.size)) (.string ⟨#[104, 105, 103, 104]⟩) false).run Tryz.prog (wq.alloc endsObj).drew = .ok (.func (.func 267) #[] #[]) (wq.alloc endsObj).drew :=
     run_lookup_string (r := wq.heap.size) (i := 0) Tryz.underlying242 Tryz.underlying9 (heap_alloc_at wq endsObj _ rfl) (by rfl)
    go_wp2_with fail
    go_cut [11, 12] (fun s11 s12 wx => s11 = .int .i64 nv ∧ s12 = .bool nb ∧ Hid (Below wq.heap.size wq wx))
    case first =>
     have ba : Below wq.heap.size wq (wq.alloc endsObj).drew := ((Below.refl _ _).alloc (Nat.le_refl _) _).drew
     have d0 := (ba.cell (p := ⟨g, k, none⟩) hgw).trans c0
     have d1 := (ba.cell (p := ⟨g, k * 128, none⟩) hgw).trans c1
     go_region_held3 (fun V => V.cell? ⟨g, k, none⟩ = some (.int .i64 v1) ∧ V.cell? ⟨g, k * 128, none⟩ = some (.int .i64 v2))
      (first | (exact ⟨u0, u1⟩) | (exact ⟨d0, d1⟩) | (exact ⟨c0, c1⟩) | go_keep)
      (first
       | (go_at_call 223; refine (ends_any _).mono ?_; rintro e W2 ⟨rfl, rfl⟩)
       | (go_at_call 267; refine (high_any _ _ _).mono ?_; rintro e W3 ⟨rfl, h1⟩; (rw [hnb, hnv]); (have h2 : Below wq.heap.size wq W3 := ba.trans (h1.mono (by simp))); (have u0 := (h2.cell (p := ⟨g, k, none⟩) hgw).trans c0); (have u1 := (h2.cell (p := ⟨g, k * 128, none⟩) hgw).trans c1); (have HH := hidE h2); clear h1 h2))
     all_goals (go_wp2_with fail; go_meet)
     all_goals exact ⟨rfl, rfl, HH⟩
    case rest =>
     obtain ⟨rfl, rfl, hbx⟩ := hcut
     obtain ⟨wf, rfl⟩ : ∃ x : World, x = wc := ⟨wc, rfl⟩
     have hbf := hidE (hb.out.trans (hbx.out.mono hb.out.size))
     have hof := ownsRow_of_block hown.out (fun q hq => hbx.out.block q (owns_lt' hown.out hq))
     have HOF := hidE hof
     clear lh c0 c1 hof hnb hnv
     cases nb with
     | false =>
       go_wp2_with fail
       refine bodyPost_ret (v := .tuple #[.slice none 0 0, .int .i64 5]) (by simp [results, Tryz.results189, go_sem]) rfl ⟨?_, HB2.out.trans (hbf.out.mono HB2.out.size)⟩
       have hany : (List.range R).any (fun p => !nB (distN R bs 0 p)) = true := List.any_eq_true.2 ⟨k, List.mem_range.2 hlt, by rw [HNB.out]; rfl⟩
       rw [show greatestE R bs = ([], 5) by rw [HE.out, if_pos hany]]
       exact ⟨_, rfl, World.ownsRow_nil _ _ _ _⟩
     | true =>
       have ba : Below wf.heap.size wf (wf.alloc (.cells #[.int .i64 nv] 3)) := (Below.refl _ _).alloc (Nat.le_refl _) _
       obtain ⟨v', W', hr', ho', hb'⟩ := append_ints (wf.alloc (.cells #[.int .i64 nv] 3)) w2.heap.size u9 ((List.range k).map (fun p : Nat => nV (distN R bs 0 p))) (World.ownsRow.alloc HOF.out _) (some ⟨wf.heap.size, 0, none⟩) 1 [nv] (ints_one wf nv) (by simp; omega) (by simp) (Nat.le_trans hbf.out.size ba.size) 52
       have HR' := hidE hr'
       have HO' := hidE ho'
       have HB' := hidE (hbf.out.trans ((ba.mono hbf.out.size).trans hb'))
       clear hr' ho' hb' ba
       go_wp2_with (at_builtin; refine wpList_op_append rfl (s := .tmp 48) (x := .tmp 50) (t := 52) rfl rfl rfl HR'.out ?_)
       go_roundw
       case rel =>
        refine ⟨k + 1, by omega, by go_num, hidE (fun p hp => ?_), hidE (by rw [HSN.out]; exact HO'.out), HB'⟩
        by_cases e : p = k
        ·subst e; exact HNB.out
        ·exact hall.out p (by omega)
       case measure => simp [intOf]; omega
   ·obtain rfl : k = R := by omega
    have hmap : (List.range k).map (fun p : Nat => nV (distN k bs 0 p)) = highV k bs := by
     unfold highV
     exact List.map_congr_left fun p hp => by rw [nV_near (by have q := hall.out p (List.mem_range.1 hp); unfold nB at q; unfold farI; exact of_decide_eq_true q)]
    have hany : (List.range k).any (fun p => !nB (distN k bs 0 p)) = false := by
     rw [List.any_eq_false]
     intro p hp
     rw [hall.out p (List.mem_range.1 hp)]; simp
    rw [hmap] at hown
    have HAN := hidE hany
    have HOW := hidE (ownsRow_base hown.out HB2.out.size)
    obtain ⟨o9, c9, e9, _, _⟩ := intsAt_of_owns hown.out
    subst e9
    have HBF := hidE (HB2.out.trans (hb.out.mono HB2.out.size))
    clear hmap hany hown hall hb
    go_wp2_with fail
    refine bodyPost_ret (v := .tuple #[.slice o9 (highV k bs).length c9, .int .i64 0]) (by simp [results, Tryz.results189, go_sem]) rfl ⟨?_, HBF.out⟩
    rw [show greatestE k bs = (highV k bs, 0) by rw [HE.out, if_neg (by rw [HAN.out]; simp)]]
    exact ⟨_, rfl, HOW.out⟩
 ·have hE : greatestE N bs = ([], askedE N bs []) := by unfold greatestE extremeE; rw [if_neg he]
  obtain ⟨c, hc⟩ : ∃ c, askedE N bs [] = c := ⟨_, rfl⟩
  have hc1 : (c == 0) = false := by rw [← hc]; simpa using he
  have hc2 : (c != 0) = true := by rw [← hc]; simpa using he
  have HC := hidE hc
  have HD := hidE hE
  have HEE := hidE he
  have HA := hidE hask
  clear hE he hc hask
  go_enter Tryz.func189, Tryz.ntmps189
  go_wp2_with fail
  refine HA.out.mono ?_
  rintro e w1 ⟨hp, hb1⟩
  unfold AskedPost at hp
  rw [if_neg HEE.out, HC.out] at hp
  subst hp
  go_wp2_with fail
  refine bodyPost_ret (v := .tuple #[.slice none 0 0, .int .i64 c]) (by simp [results, Tryz.results189, go_sem]) rfl ⟨?_, hB0.trans (hb1.mono hB0.size)⟩
  rw [HD.out, HC.out]
  exact ⟨_, rfl, World.ownsRow_nil _ _ _ _⟩
set_option maxRecDepth 100000 in
set_option maxHeartbeats 4000000 in
theorem extreme_low (w : World) (N : Int) (a : Option Addr) (cap : Nat) (bs : List Bd) (hN : i64ok N) (hl : bs.length ≤ 9223372036854775807) (h : BoundsAt w a bs) :
 Calls Tryz.prog 189 #[.agg #[.int .i64 N, .slice a bs.length cap], .string ⟨#[108, 111, 119]⟩] w fun e w' => PathPost (leastE N bs).1 (leastE N bs).2 w.heap.size e w' ∧ Below w.heap.size w w' := by
 have H := hidE h
 have HN := hidE hN
 clear h hN
 have hB0 : Below w.heap.size w (w.alloc (.cells #[.int .i64 N, .slice a bs.length cap] 61)) := (Below.refl _ _).alloc (Nat.le_refl _) _
 have hx0 : (w.alloc (.cells #[.int .i64 N, .slice a bs.length cap] 61)).heap[w.heap.size]? = some (.cells #[.int .i64 N, .slice a bs.length cap] 61 (0,0)) := heap_alloc_new _ _
 have hask : Calls Tryz.prog 143 #[.agg #[.int .i64 N, .slice a bs.length cap], .slice none 0 0] (w.alloc (.cells #[.int .i64 N, .slice a bs.length cap] 61)) _ :=
  asked_any _ N a cap bs none 0 [] HN.out hl (by simp) (H.out.alloc _) (.inl rfl)
 have X0 := hidE hx0
 clear hx0
 by_cases he : askedE N bs [] = 0
 ·obtain ⟨R, t, rfl, ht, HO⟩ := asked0 he
  have hE : leastE R bs = if (List.range R).any (fun p => !nB (distN R bs p 0)) = true then ([], 5) else (lowV R bs, 0) := by
   unfold leastE extremeE; rw [if_pos he]; simp only [Int.toNat_natCast]
  have hn0 := HO.n0
  have hn1 := HO.n1
  have htg := fun (p q : Nat) (hp : p < R) => tget_dist ht q hp
  have htl := tableP_length R t bs
  have hbd : ∀ p q, p < R → q < R → -1000000000000000 ≤ distN R bs p q := fun p q hp hq => by
   have := HO.row_bd hp hq
   unfold distN; rw [heightsP_of ht]
   omega
  have hrl : ∀ r ∈ tableP R t bs, r.length = 128 := by
   intro r hr
   simp only [tableP, List.mem_map, List.mem_range] at hr
   obtain ⟨q, hq, rfl⟩ := hr
   exact (HO.row hq).1
  have HE := hidE hE
  have HA := hidE hask
  have HEE := hidE he
  have HT := hidE ht
  have HTG := hidE htg
  have HTL := hidE htl
  have HRL := hidE hrl
  have HBD := hidE hbd
  clear hE hask he ht htg htl hrl hbd
  go_enter Tryz.func189, Tryz.ntmps189
  go_wp2_with fail
  refine HA.out.mono ?_
  rintro e w1 ⟨hp, hb1⟩
  unfold AskedPost at hp
  rw [if_pos HEE.out] at hp
  obtain ⟨bn, t', ht', rfl, hbn, hcell⟩ := hp
  have htt : t' = t := by have := HT.out; rw [ht'] at this; exact Option.some.inj this
  subst htt
  have B1 := hB0.trans (hb1.mono hB0.size)
  have htab := table_any w1 bn R a cap bs t' HO (H.out.below B1 (Nat.le_refl _)) hcell
  have x1 := blk_below hb1 (by simp) X0.out
  have HTAB := hidE htab
  have HB1 := hidE B1
  have X1 := hidE x1
  clear htab hcell ht' hb1 B1 hbn x1
  go_wp2_with fail
  refine HTAB.out.mono ?_
  rintro e w2 ⟨v, rfl, hb2, hown⟩
  obtain ⟨R', hR'⟩ : ∃ R', R = R' + 1 := ⟨R - 1, by omega⟩
  have hown' := hown
  rw [hR'] at hown'
  obtain ⟨g, cp, rfl⟩ := ownsRow_succ hown'
  rw [← hR'] at hown
  obtain ⟨hra, hgl⟩ := rowsAt_of_owns hown HRL.out
  have x2 := blk_below hb2 (lt_of_block X1.out) X1.out
  have HRA := hidE hra
  have HB2 := hidE (HB1.out.trans (hb2.mono HB1.out.size))
  have X2 := hidE x2
  have e0 : w2.cell? ⟨w.heap.size, 0, none⟩ = some (.int .i64 (R : Int)) := c_e x2 rfl
  rw [← hR']
  clear hra hown hown' hb2 x2 hR'
  go_wp2_with fail
  clear e0
  go_loopw [9, 25] (fun v9 i wr => ∃ k : Nat, k ≤ R ∧ i = .int .i64 k ∧ Hid (∀ p, p < k → nB (distN R bs p 0) = true) ∧ Hid (wr.ownsRow w2.heap.size 3 1 v9 ((List.range k).map (fun p : Nat => -nV (distN R bs p 0))).length (intsV ((List.range k).map (fun p : Nat => -nV (distN R bs p 0))))) ∧ Hid (Below w2.heap.size w2 wr)) (fun _ i _ => R - (intOf i).toNat)
  case atStart => exact ⟨0, by omega, rfl, hidE (fun p hp => by omega), hidE (World.ownsRow_nil _ _ _ _), hidE (Below.refl _ _)⟩
  case round =>
   obtain ⟨k, hk, rfl, hall, hown, hb⟩ := hrel
   by_cases hlt : k < R
   ·have hra2 := HRA.out.below hb.out hgl
    have c0 := hra2 0 k (by rw [HTL.out]; omega) (by omega)
    have c1 := hra2 k 0 (by rw [HTL.out]; omega) (by omega)
    have g0 := HTG.out 0 k (by omega)
    have g1 := HTG.out k 0 (by omega)
    unfold tget at g0 g1
    rw [g0, Nat.zero_mul, Nat.zero_add] at c0
    rw [g1, Nat.add_zero] at c1
    clear g0 g1
    have hb0 := HBD.out 0 k (by omega) hlt
    have hb9 := HBD.out k 0 hlt (by omega)
    obtain ⟨v1, hv1⟩ : ∃ v, distN R bs 0 k = v := ⟨_, rfl⟩
    obtain ⟨v2, hv2⟩ : ∃ v, distN R bs k 0 = v := ⟨_, rfl⟩
    rw [hv1] at c0 hb0
    rw [hv2] at c1 hb9
    have hgw : g < wr.heap.size := Nat.lt_of_lt_of_le hgl hb.out.size
    have k128 : (k : Int) < 128 := by omega
    have k128' : k < 128 := by omega
    have kR : (k : Int) < (R : Int) := by omega
    have R0 : (0 : Int) < (R : Int) := by omega
    have R0' : 0 < R := by omega
    have HV1 := hidE hv1
    have HV2 := hidE hv2
    have hsn : (List.range (k + 1)).map (fun p : Nat => -nV (distN R bs p 0)) = (List.range k).map (fun p : Nat => -nV (distN R bs p 0)) ++ [-numV v2] := by
     rw [List.range_succ, List.map_append]
     simp only [List.map_cons, List.map_nil]
     rw [HV2.out]; rfl
    have HSN := hidE hsn
    obtain ⟨nb, hnb⟩ : ∃ b, numB v2 = b := ⟨_, rfl⟩
    have hnb2 : nB (distN R bs k 0) = nb := by rw [HV2.out]; exact hnb
    have HNB := hidE hnb2
    obtain ⟨nv, hnv⟩ : ∃ v, -numV v2 = v := ⟨_, rfl⟩
    rw [hnv] at HSN
    clear hv1 hv2 hsn hnb2 hra2
    obtain ⟨wq, rfl⟩ : ∃ y : World, y = wr := ⟨wr, rfl⟩
    have lh : (Instr.lookup 242 (.map (some wq.heap.size)) (.string ⟨#[108, 111, 119]⟩) false).run Tryz.prog (wq.alloc endsObj).drew = .ok (.func (.func 268) #[] #[]) (wq.alloc endsObj).drew :=
     run_lookup_string (r := wq.heap.size) (i := 1) Tryz.underlying242 Tryz.underlying9 (heap_alloc_at wq endsObj _ rfl) (by rfl)
    go_wp2_with fail
    go_cut [11, 12] (fun s11 s12 wx => s11 = .int .i64 nv ∧ s12 = .bool nb ∧ Hid (Below wq.heap.size wq wx))
    case first =>
     have ba : Below wq.heap.size wq (wq.alloc endsObj).drew := ((Below.refl _ _).alloc (Nat.le_refl _) _).drew
     have d0 := (ba.cell (p := ⟨g, k, none⟩) hgw).trans c0
     have d1 := (ba.cell (p := ⟨g, k * 128, none⟩) hgw).trans c1
     go_region_held3 (fun V => V.cell? ⟨g, k, none⟩ = some (.int .i64 v1) ∧ V.cell? ⟨g, k * 128, none⟩ = some (.int .i64 v2))
      (first | (exact ⟨u0, u1⟩) | (exact ⟨d0, d1⟩) | (exact ⟨c0, c1⟩) | go_keep)
      (first
       | (go_at_call 223; refine (ends_any _).mono ?_; rintro e W2 ⟨rfl, rfl⟩)
       | (go_at_call 268; refine (low_any _ _ _ (by omega)).mono ?_; rintro e W3 ⟨rfl, h1⟩; (rw [hnb, hnv]); (have h2 : Below wq.heap.size wq W3 := ba.trans (h1.mono (by simp))); (have u0 := (h2.cell (p := ⟨g, k, none⟩) hgw).trans c0); (have u1 := (h2.cell (p := ⟨g, k * 128, none⟩) hgw).trans c1); (have HH := hidE h2); clear h1 h2))
     all_goals (go_wp2_with fail; go_meet)
     all_goals exact ⟨rfl, rfl, HH⟩
    case rest =>
     obtain ⟨rfl, rfl, hbx⟩ := hcut
     obtain ⟨wf, rfl⟩ : ∃ x : World, x = wc := ⟨wc, rfl⟩
     have hbf := hidE (hb.out.trans (hbx.out.mono hb.out.size))
     have hof := ownsRow_of_block hown.out (fun q hq => hbx.out.block q (owns_lt' hown.out hq))
     have HOF := hidE hof
     clear lh c0 c1 hof hnb hnv
     cases nb with
     | false =>
       go_wp2_with fail
       refine bodyPost_ret (v := .tuple #[.slice none 0 0, .int .i64 5]) (by simp [results, Tryz.results189, go_sem]) rfl ⟨?_, HB2.out.trans (hbf.out.mono HB2.out.size)⟩
       have hany : (List.range R).any (fun p => !nB (distN R bs p 0)) = true := List.any_eq_true.2 ⟨k, List.mem_range.2 hlt, by rw [HNB.out]; rfl⟩
       rw [show leastE R bs = ([], 5) by rw [HE.out, if_pos hany]]
       exact ⟨_, rfl, World.ownsRow_nil _ _ _ _⟩
     | true =>
       have ba : Below wf.heap.size wf (wf.alloc (.cells #[.int .i64 nv] 3)) := (Below.refl _ _).alloc (Nat.le_refl _) _
       obtain ⟨v', W', hr', ho', hb'⟩ := append_ints (wf.alloc (.cells #[.int .i64 nv] 3)) w2.heap.size u9 ((List.range k).map (fun p : Nat => -nV (distN R bs p 0))) (World.ownsRow.alloc HOF.out _) (some ⟨wf.heap.size, 0, none⟩) 1 [nv] (ints_one wf nv) (by simp; omega) (by simp) (Nat.le_trans hbf.out.size ba.size) 52
       have HR' := hidE hr'
       have HO' := hidE ho'
       have HB' := hidE (hbf.out.trans ((ba.mono hbf.out.size).trans hb'))
       clear hr' ho' hb' ba
       go_wp2_with (at_builtin; refine wpList_op_append rfl (s := .tmp 48) (x := .tmp 50) (t := 52) rfl rfl rfl HR'.out ?_)
       go_roundw
       case rel =>
        refine ⟨k + 1, by omega, by go_num, hidE (fun p hp => ?_), hidE (by rw [HSN.out]; exact HO'.out), HB'⟩
        by_cases e : p = k
        ·subst e; exact HNB.out
        ·exact hall.out p (by omega)
       case measure => simp [intOf]; omega
   ·obtain rfl : k = R := by omega
    have hmap : (List.range k).map (fun p : Nat => -nV (distN k bs p 0)) = lowV k bs := by
     unfold lowV
     exact List.map_congr_left fun p hp => by rw [nV_near (by have q := hall.out p (List.mem_range.1 hp); unfold nB at q; unfold farI; exact of_decide_eq_true q)]
    have hany : (List.range k).any (fun p => !nB (distN k bs p 0)) = false := by
     rw [List.any_eq_false]
     intro p hp
     rw [hall.out p (List.mem_range.1 hp)]; simp
    rw [hmap] at hown
    have HAN := hidE hany
    have HOW := hidE (ownsRow_base hown.out HB2.out.size)
    obtain ⟨o9, c9, e9, _, _⟩ := intsAt_of_owns hown.out
    subst e9
    have HBF := hidE (HB2.out.trans (hb.out.mono HB2.out.size))
    clear hmap hany hown hall hb
    go_wp2_with fail
    refine bodyPost_ret (v := .tuple #[.slice o9 (lowV k bs).length c9, .int .i64 0]) (by simp [results, Tryz.results189, go_sem]) rfl ⟨?_, HBF.out⟩
    rw [show leastE k bs = (lowV k bs, 0) by rw [HE.out, if_neg (by rw [HAN.out]; simp)]]
    exact ⟨_, rfl, HOW.out⟩
 ·have hE : leastE N bs = ([], askedE N bs []) := by unfold leastE extremeE; rw [if_neg he]
  obtain ⟨c, hc⟩ : ∃ c, askedE N bs [] = c := ⟨_, rfl⟩
  have hc1 : (c == 0) = false := by rw [← hc]; simpa using he
  have hc2 : (c != 0) = true := by rw [← hc]; simpa using he
  have HC := hidE hc
  have HD := hidE hE
  have HEE := hidE he
  have HA := hidE hask
  clear hE he hc hask
  go_enter Tryz.func189, Tryz.ntmps189
  go_wp2_with fail
  refine HA.out.mono ?_
  rintro e w1 ⟨hp, hb1⟩
  unfold AskedPost at hp
  rw [if_neg HEE.out, HC.out] at hp
  subst hp
  go_wp2_with fail
  refine bodyPost_ret (v := .tuple #[.slice none 0 0, .int .i64 c]) (by simp [results, Tryz.results189, go_sem]) rfl ⟨?_, hB0.trans (hb1.mono hB0.size)⟩
  rw [HD.out, HC.out]
  exact ⟨_, rfl, World.ownsRow_nil _ _ _ _⟩
set_option maxRecDepth 100000 in
theorem greatest_any (w : World) (N : Int) (a : Option Addr) (cap : Nat) (bs : List Bd) (hN : i64ok N) (hl : bs.length ≤ 9223372036854775807) (h : BoundsAt w a bs) :
 Calls Tryz.prog 117 #[.agg #[.int .i64 N, .slice a bs.length cap]] w fun e w' => PathPost (greatestE N bs).1 (greatestE N bs).2 w.heap.size e w' ∧ Below w.heap.size w w' := by
 have b0 : Below w.heap.size w (w.alloc (.cells #[.int .i64 N, .slice a bs.length cap] 61)) := (Below.refl _ _).alloc (Nat.le_refl _) _
 have hex := extreme_high (w.alloc (.cells #[.int .i64 N, .slice a bs.length cap] 61)) N a cap bs hN hl (h.alloc _)
 obtain ⟨⟨L, c⟩, hLc⟩ : ∃ t, greatestE N bs = t := ⟨_, rfl⟩
 rw [hLc] at hex ⊢
 have HEX := hidE hex
 have B0 := hidE b0
 clear hex b0 hLc
 go_enter Tryz.func117, Tryz.ntmps117
 go_wp2_with fail
 refine HEX.out.mono ?_
 rintro e w1 ⟨⟨v, rfl, ho⟩, hb1⟩
 have HO := hidE ho
 have HB := hidE hb1
 clear ho hb1
 go_wp2_with fail
 refine bodyPost_ret (v := .tuple #[v, .int .i64 c]) (by simp [results, Tryz.results117, go_sem]) rfl ⟨⟨v, rfl, ownsRow_base HO.out B0.out.size⟩, B0.out.trans (HB.out.mono B0.out.size)⟩
set_option maxRecDepth 100000 in
theorem least_any (w : World) (N : Int) (a : Option Addr) (cap : Nat) (bs : List Bd) (hN : i64ok N) (hl : bs.length ≤ 9223372036854775807) (h : BoundsAt w a bs) :
 Calls Tryz.prog 112 #[.agg #[.int .i64 N, .slice a bs.length cap]] w fun e w' => PathPost (leastE N bs).1 (leastE N bs).2 w.heap.size e w' ∧ Below w.heap.size w w' := by
 have b0 : Below w.heap.size w (w.alloc (.cells #[.int .i64 N, .slice a bs.length cap] 61)) := (Below.refl _ _).alloc (Nat.le_refl _) _
 have hex := extreme_low (w.alloc (.cells #[.int .i64 N, .slice a bs.length cap] 61)) N a cap bs hN hl (h.alloc _)
 obtain ⟨⟨L, c⟩, hLc⟩ : ∃ t, leastE N bs = t := ⟨_, rfl⟩
 rw [hLc] at hex ⊢
 have HEX := hidE hex
 have B0 := hidE b0
 clear hex b0 hLc
 go_enter Tryz.func112, Tryz.ntmps112
 go_wp2_with fail
 refine HEX.out.mono ?_
 rintro e w1 ⟨⟨v, rfl, ho⟩, hb1⟩
 have HO := hidE ho
 have HB := hidE hb1
 clear ho hb1
 go_wp2_with fail
 refine bodyPost_ret (v := .tuple #[v, .int .i64 c]) (by simp [results, Tryz.results112, go_sem]) rfl ⟨⟨v, rfl, ownsRow_base HO.out B0.out.size⟩, B0.out.trans (HB.out.mono B0.out.size)⟩
def firstE (F : Fld) (l : List Rcd) : List Int × Int := if matchE F l 0 ≠ 0 then ([], matchE F l 0) else (lowV (ptN F) (sysL F l), 0)
def lastE (F : Fld) (l : List Rcd) : List Int × Int := if matchE F l 0 ≠ 0 then ([], matchE F l 0) else (highV (ptN F) (sysL F l), 0)
set_option maxRecDepth 10000 in
set_option maxHeartbeats 2000000 in
theorem firstL_any (w : World) (x : FV) (F : Fld) (ar : Option Addr) (cr : Nat) (l : List Rcd) (h : FldAt w x F) (hr : RcdsAt w ar l) (hn : l.length ≤ 100000) (hk : ∀ r ∈ l, (0 ≤ r.call.kind ∧ r.call.kind ≤ 255) ∧ r.deed.size ≤ 9223372036854775807) :
 Calls Tryz.prog 45 #[x.val F, .slice ar l.length cr] w fun e w' => PathPost (firstE F l).1 (firstE F l).2 w.heap.size e w' ∧ Below w.heap.size w w' := by
 obtain ⟨w0, hw0⟩ : ∃ W, W = w.alloc (.cells (x.arr F) 27) := ⟨_, rfl⟩
 have B0 := hidE (show Below w.heap.size w w0 by rw [hw0]; exact (Below.refl _ _).alloc (Nat.le_refl _) _)
 have X0 := hidE (show w0.heap[w.heap.size]? = some (.cells (x.arr F) 27 (0,0)) by rw [hw0]; exact heap_alloc_new _ _)
 have HA := hidE (agreed_any w0 x F ar cr l (h.below B0.out) (hr.below B0.out (Nat.le_refl _)) hn hk 95 #[] true (enters_of Tryz.func95 (by kernel_rfl) rfl) (fun hg W b o c hw hb => anything_any W _))
 rw [show flagE true = 0 from rfl] at HA
 obtain ⟨⟨R1, R2⟩, hR⟩ : ∃ R, firstE F l = R := ⟨_, rfl⟩
 rw [hR]
 unfold firstE at hR
 have HMZ := hidE (fun (q : matchE F l 0 = 0) => match_zero.1 q)
 obtain ⟨M, hM⟩ : ∃ M, matchE F l 0 = M := ⟨_, rfl⟩
 rw [hM] at HA hR HMZ
 have HR := hidE hR
 have kk := rowc X0.out
 clear hM h hr hn hk hR
 unfold FV.val FV.arr at *
 go_enter Tryz.func45, Tryz.ntmps45
 go_upto_region 1 with fail
 rw [← hw0]
 clear hw0
 go_wp2_with fail
 refine HA.out.mono ?_
 rintro e w1 ⟨hp, hb1⟩
 have B1 := hidE (B0.out.trans (hb1.mono B0.out.size))
 clear hb1 HA kk X0
 unfold AgreedPost at hp
 by_cases h0 : M = 0
 rotate_left
 ·have hzb : (M != 0) = true := by simpa using h0
  rw [if_neg h0] at hp
  have hq := HR.out
  rw [if_pos h0] at hq
  obtain ⟨v, rfl⟩ := hp
  cases hq
  clear h0 HR HMZ
  go_wp2_with fail
  refine bodyPost_ret (v := .tuple #[.slice none 0 0, .int .i64 R2]) (by simp [results, Tryz.results45, go_sem]) rfl ⟨⟨_, rfl, World.ownsRow_nil _ _ _ _⟩, B1.out⟩
 subst h0
 rw [if_pos rfl] at hp
 have hq := HR.out
 rw [if_neg (by simp)] at hq
 obtain ⟨b, o, c, rfl, hw, hbl⟩ := hp
 obtain ⟨q1, q2, q3⟩ := HMZ.out rfl
 have hL := least_any w1 (ptN F) o c (sysL F l) (ptN_ok q1.fld) (Nat.le_trans hw.cap.1 hw.cap.2) hw.bnd
 rw [(last_eq q1 q3).2, hq] at hL
 have HX := hidE hw.box
 have kx := rowc HX.out
 unfold WV.arr at kx
 have HL := hidE hL
 obtain ⟨P, hP⟩ : ∃ P : Int, ((ptN F : Nat) : Int) = P := ⟨_, rfl⟩
 rw [hP] at kx HL
 obtain ⟨LN, hLN⟩ : ∃ n, (sysL F l).length = n := ⟨_, rfl⟩
 rw [hLN] at kx HL
 clear hP hLN hq hL q1 q2 q3 hw hbl HR HMZ HX
 go_wp2_with fail
 refine HL.out.mono ?_
 rintro e w2 ⟨⟨v, rfl, ho⟩, hb2⟩
 have B2 := hidE (B1.out.trans (hb2.mono B1.out.size))
 have HO := hidE (ownsRow_base ho B1.out.size)
 clear hb2 ho kx HL
 go_wp2_with fail
 refine bodyPost_ret (v := .tuple #[v, .int .i64 R2]) (by simp [results, Tryz.results45, go_sem]) rfl ⟨⟨_, rfl, HO.out⟩, B2.out⟩
set_option maxRecDepth 10000 in
set_option maxHeartbeats 2000000 in
theorem lastL_any (w : World) (x : FV) (F : Fld) (ar : Option Addr) (cr : Nat) (l : List Rcd) (h : FldAt w x F) (hr : RcdsAt w ar l) (hn : l.length ≤ 100000) (hk : ∀ r ∈ l, (0 ≤ r.call.kind ∧ r.call.kind ≤ 255) ∧ r.deed.size ≤ 9223372036854775807) :
 Calls Tryz.prog 49 #[x.val F, .slice ar l.length cr] w fun e w' => PathPost (lastE F l).1 (lastE F l).2 w.heap.size e w' ∧ Below w.heap.size w w' := by
 obtain ⟨w0, hw0⟩ : ∃ W, W = w.alloc (.cells (x.arr F) 27) := ⟨_, rfl⟩
 have B0 := hidE (show Below w.heap.size w w0 by rw [hw0]; exact (Below.refl _ _).alloc (Nat.le_refl _) _)
 have X0 := hidE (show w0.heap[w.heap.size]? = some (.cells (x.arr F) 27 (0,0)) by rw [hw0]; exact heap_alloc_new _ _)
 have HA := hidE (agreed_any w0 x F ar cr l (h.below B0.out) (hr.below B0.out (Nat.le_refl _)) hn hk 95 #[] true (enters_of Tryz.func95 (by kernel_rfl) rfl) (fun hg W b o c hw hb => anything_any W _))
 rw [show flagE true = 0 from rfl] at HA
 obtain ⟨⟨R1, R2⟩, hR⟩ : ∃ R, lastE F l = R := ⟨_, rfl⟩
 rw [hR]
 unfold lastE at hR
 have HMZ := hidE (fun (q : matchE F l 0 = 0) => match_zero.1 q)
 obtain ⟨M, hM⟩ : ∃ M, matchE F l 0 = M := ⟨_, rfl⟩
 rw [hM] at HA hR HMZ
 have HR := hidE hR
 have kk := rowc X0.out
 clear hM h hr hn hk hR
 unfold FV.val FV.arr at *
 go_enter Tryz.func49, Tryz.ntmps49
 go_upto_region 1 with fail
 rw [← hw0]
 clear hw0
 go_wp2_with fail
 refine HA.out.mono ?_
 rintro e w1 ⟨hp, hb1⟩
 have B1 := hidE (B0.out.trans (hb1.mono B0.out.size))
 clear hb1 HA kk X0
 unfold AgreedPost at hp
 by_cases h0 : M = 0
 rotate_left
 ·have hzb : (M != 0) = true := by simpa using h0
  rw [if_neg h0] at hp
  have hq := HR.out
  rw [if_pos h0] at hq
  obtain ⟨v, rfl⟩ := hp
  cases hq
  clear h0 HR HMZ
  go_wp2_with fail
  refine bodyPost_ret (v := .tuple #[.slice none 0 0, .int .i64 R2]) (by simp [results, Tryz.results49, go_sem]) rfl ⟨⟨_, rfl, World.ownsRow_nil _ _ _ _⟩, B1.out⟩
 subst h0
 rw [if_pos rfl] at hp
 have hq := HR.out
 rw [if_neg (by simp)] at hq
 obtain ⟨b, o, c, rfl, hw, hbl⟩ := hp
 obtain ⟨q1, q2, q3⟩ := HMZ.out rfl
 have hL := greatest_any w1 (ptN F) o c (sysL F l) (ptN_ok q1.fld) (Nat.le_trans hw.cap.1 hw.cap.2) hw.bnd
 rw [(last_eq q1 q3).1, hq] at hL
 have HX := hidE hw.box
 have kx := rowc HX.out
 unfold WV.arr at kx
 have HL := hidE hL
 obtain ⟨P, hP⟩ : ∃ P : Int, ((ptN F : Nat) : Int) = P := ⟨_, rfl⟩
 rw [hP] at kx HL
 obtain ⟨LN, hLN⟩ : ∃ n, (sysL F l).length = n := ⟨_, rfl⟩
 rw [hLN] at kx HL
 clear hP hLN hq hL q1 q2 q3 hw hbl HR HMZ HX
 go_wp2_with fail
 refine HL.out.mono ?_
 rintro e w2 ⟨⟨v, rfl, ho⟩, hb2⟩
 have B2 := hidE (B1.out.trans (hb2.mono B1.out.size))
 have HO := hidE (ownsRow_base ho B1.out.size)
 clear hb2 ho kx HL
 go_wp2_with fail
 refine bodyPost_ret (v := .tuple #[v, .int .i64 R2]) (by simp [results, Tryz.results49, go_sem]) rfl ⟨⟨_, rfl, HO.out⟩, B2.out⟩
def drwB (F : Fld) (l : List Rcd) (y : List Int) : Bool := (keptE (ptN F) (sysL F l) y).2.1 && decide ((keptE (ptN F) (sysL F l) y).2.2 = 0)
set_option maxRecDepth 10000 in
set_option maxHeartbeats 2000000 in
theorem drawing_any (w : World) (b : Nat) (v : WV) (F : Fld) (l : List Rcd) (h : WAt w b v F l) (hF : F.check = 0) (a2 : Option Addr) (c2 : Nat) (y : List Int) (hl : y.length ≤ 9223372036854775807) (h2 : IntsAt w a2 y) :
 Calls Tryz.prog 125 #[.pointer (some ⟨b, 0, none⟩), .slice a2 y.length c2] w fun e w' => e = .returned (.bool (drwB F l y)) ∧ Below w.heap.size w w' := by
 have HK := hidE (kept_any w (ptN F) v.o v.c (sysL F l) a2 c2 y (ptN_ok hF) (Nat.le_trans h.cap.1 h.cap.2) hl h.bnd h2)
 unfold drwB
 obtain ⟨⟨k1, k2, k3⟩, hk⟩ : ∃ k, keptE (ptN F) (sysL F l) y = k := ⟨_, rfl⟩
 rw [hk] at HK ⊢
 have kx := rowc h.box
 unfold WV.arr at kx
 obtain ⟨P, hP⟩ : ∃ P : Int, ((ptN F : Nat) : Int) = P := ⟨_, rfl⟩
 obtain ⟨LN, hLN⟩ : ∃ n, (sysL F l).length = n := ⟨_, rfl⟩
 obtain ⟨LY, hLY⟩ : ∃ n, y.length = n := ⟨_, rfl⟩
 rw [hP, hLN] at kx HK
 rw [hLY] at HK ⊢
 clear hP hLN hLY hk h hF hl h2
 go_enter Tryz.func125, Tryz.ntmps125
 go_wp2_with fail
 refine HK.out.mono ?_
 rintro e w1 ⟨rfl, hb1⟩
 have B1 := hidE hb1
 clear hb1 kx HK
 cases k2
 ·go_wp2_with fail
  go_ret
  exact ⟨rfl, B1.out⟩
 ·by_cases h3 : k3 = 0
  ·subst h3
   go_wp2_with fail
   go_ret
   exact ⟨rfl, B1.out⟩
  ·have z : (k3 == 0) = false := by simpa using h3
   have HZ := hidE (show decide (k3 = 0) = false by simpa using h3)
   clear h3
   go_wp2_with fail
   go_ret
   exact ⟨by rw [HZ.out]; rfl, B1.out⟩
def awardedE (F : Fld) (l : List Rcd) (y : List Int) (i s a c : Int) : Int × Int × Int :=
 if (checkE F l).2 ≠ 0 then (0, 0, (checkE F l).2) else if stripB F i s a c = false then (0, 0, 1) else if drwB F l y = false then (0, 0, 5)
 else ((cutP (y.getD (ptS F i s) 0) (y.getD (ptS F i s) 0) a c).1, (cutP (y.getD (ptS F i s) 0) (y.getD (ptS F i s) 0) a c).2.2, 0)
theorem strip_parts {F : Fld} {i s a c : Int} (h : stripB F i s a c = true) : limB F i = true ∧ staB F s = true ∧ 0 ≤ a ∧ a < c ∧ c ≤ 100000 := inv_strip (by unfold flagE; rw [if_pos h])
theorem drwB_iff {F : Fld} {l : List Rcd} (h : Good F l) {y : List Int} : drwB F l y = true ↔ Drw F l y := kept_eq h y
set_option maxRecDepth 10000 in
set_option maxHeartbeats 8000000 in
theorem awardedL_any (w : World) (x : FV) (F : Fld) (ar : Option Addr) (cr : Nat) (l : List Rcd) (i s a c : Int) (h : FldAt w x F) (hr : RcdsAt w ar l) (hn : l.length ≤ 100000) (hk : ∀ r ∈ l, (0 ≤ r.call.kind ∧ r.call.kind ≤ 255) ∧ r.deed.size ≤ 9223372036854775807)
 (a2 : Option Addr) (c2 : Nat) (y : List Int) (hl : y.length ≤ 9223372036854775807) (h2 : IntsAt w a2 y) :
 Calls Tryz.prog 58 #[x.val F, .slice ar l.length cr, .slice a2 y.length c2, .agg #[.int .i64 i, .int .i64 s, .int .i64 a, .int .i64 c]] w fun e w' => e = .returned (.tuple #[.int .i64 (awardedE F l y i s a c).1, .int .i64 (awardedE F l y i s a c).2.1, .int .i64 (awardedE F l y i s a c).2.2]) ∧ Below w.heap.size w w' := by
 obtain ⟨w0, hw0⟩ : ∃ W, W = (w.alloc (.cells (x.arr F) 27)).alloc (.cells #[.int .i64 i, .int .i64 s, .int .i64 a, .int .i64 c] 40) := ⟨_, rfl⟩
 have B0 := hidE (show Below w.heap.size w w0 by rw [hw0]; exact ((Below.refl _ _).alloc (Nat.le_refl _) _).alloc (by simp) _)
 have X0 := hidE (show Kb [(w.heap.size + 1, .cells #[.int .i64 i, .int .i64 s, .int .i64 a, .int .i64 c] 40), (w.heap.size, .cells (x.arr F) 27)] w0 by
  rw [hw0]
  have := Kb.alloc (o := .cells #[.int .i64 i, .int .i64 s, .int .i64 a, .int .i64 c] 40) (Kb.alloc (W := w) (o := .cells (x.arr F) 27) (L := []) trivial)
  simpa using this)
 have HC := hidE (open_any w0 x F ar cr l (h.below B0.out) (hr.below B0.out (Nat.le_refl _)) hn hk)
 have HG := hidE (fun (q : (checkE F l).2 = 0) => (check_iff F l).1 q)
 have HI := hidE (h2.below B0.out (Nat.le_refl _))
 have HYL := hidE hl
 obtain ⟨⟨R1, R2, R3⟩, hR⟩ : ∃ R, awardedE F l y i s a c = R := ⟨_, rfl⟩
 rw [hR]
 unfold awardedE at hR
 obtain ⟨M, hM⟩ : ∃ M, (checkE F l).2 = M := ⟨_, rfl⟩
 rw [hM] at HC HG hR
 have HR := hidE hR
 have kk := rowc X0.out.2.1
 obtain ⟨LY, hLY⟩ : ∃ n, y.length = n := ⟨_, rfl⟩
 have HLY := hidE hLY
 rw [hLY]
 clear hM h hr hn hk hR h2 hl hLY
 unfold FV.val FV.arr at *
 go_enter Tryz.func58, Tryz.ntmps58
 go_upto_region 1 with fail
 rw [← hw0]
 clear hw0
 go_wp2_with fail
 refine HC.out.mono ?_
 rintro e w1 ⟨hp, hb1⟩
 have B1 := hidE (B0.out.trans (hb1.mono B0.out.size))
 have X1 := hidE (X0.out.next hb1).1
 have HI1 := hidE (HI.out.below hb1 (Nat.le_refl _))
 clear hb1 HC X0 kk HI
 unfold OpenPost at hp
 by_cases h0 : M = 0
 rotate_left
 ·have hzb : (M != 0) = true := by simpa using h0
  rw [if_neg h0] at hp
  subst hp
  have hq := HR.out
  rw [if_pos h0] at hq
  cases hq
  clear h0 HR HG
  go_wp2_with fail
  refine bodyPost_ret (v := .tuple #[.int .i64 0, .int .i64 0, .int .i64 R3]) (by simp [results, Tryz.results58, go_sem]) rfl ⟨rfl, B1.out⟩
 subst h0
 rw [if_pos rfl] at hp
 obtain ⟨b, o, c9, rfl, hw, hbl, -⟩ := hp
 have hq := HR.out
 rw [if_neg (by simp)] at hq
 have hG := HG.out rfl
 have HST := hidE (stripW_any w1 b _ F l i s a c hw hG.fld)
 have HSP := hidE (fun (q : stripB F i s a c = true) => strip_parts q)
 have HDR := hidE (fun W (q : WAt W b ⟨x, o, c9, ar, cr⟩ F l) (hi : IntsAt W a2 y) => (by
  have := drawing_any W b _ F l q hG.fld a2 c2 y HYL.out hi
  rw [HLY.out] at this
  exact this))
 have HDI := hidE (fun (q : drwB F l y = true) => (drwB_iff hG).1 q)
 have HPT := hidE (fun W (q : WAt W b ⟨x, o, c9, ar, cr⟩ F l) (u : limB F i = true) (v : staB F s = true) => pointW_any W b _ F l i s q hG.fld u v)
 have HW := hidE hw
 obtain ⟨sb, hsb⟩ : ∃ v, stripB F i s a c = v := ⟨_, rfl⟩
 obtain ⟨db, hdb⟩ : ∃ v, drwB F l y = v := ⟨_, rfl⟩
 rw [hsb] at hq HST HSP
 rw [hdb] at hq HDR HDI
 have HQ := hidE hq
 have kx := rowc X1.out
 clear hq hG hsb hdb hw hbl HR HG
 go_wp2_with fail
 refine HST.out.mono ?_
 rintro e w2 ⟨rfl, hb2⟩
 have B2 := hidE (B1.out.trans (hb2.mono B1.out.size))
 have X2 := hidE (blk_below hb2 (lt_of_block X1.out) X1.out)
 have W2 := hidE (HW.out.next hb2)
 have HI2 := hidE (HI1.out.below hb2 (Nat.le_refl _))
 clear hb2 kx HST B1 X1 HW HI1
 have hq := HQ.out
 cases sb
 ·rw [if_pos rfl] at hq
  cases hq
  go_wp2_with fail
  refine bodyPost_ret (v := .tuple #[.int .i64 0, .int .i64 0, .int .i64 1]) (by simp [results, Tryz.results58, go_sem]) rfl ⟨rfl, B2.out⟩
 rw [if_neg (by simp)] at hq
 have HQ2 := hidE hq
 have HDR2 := hidE (HDR.out _ W2.out HI2.out)
 clear hq HQ
 go_wp2_with fail
 refine HDR2.out.mono ?_
 rintro e w3 ⟨rfl, hb3⟩
 have B3 := hidE (B2.out.trans (hb3.mono B2.out.size))
 have X3 := hidE (blk_below hb3 (lt_of_block X2.out) X2.out)
 have W3 := hidE (W2.out.next hb3)
 have HI3 := hidE (HI2.out.below hb3 (Nat.le_refl _))
 clear hb3 HDR2 HDR B2 X2 W2 HI2
 have hq := HQ2.out
 cases db
 ·rw [if_pos rfl] at hq
  cases hq
  go_wp2_with fail
  refine bodyPost_ret (v := .tuple #[.int .i64 0, .int .i64 0, .int .i64 5]) (by simp [results, Tryz.results58, go_sem]) rfl ⟨rfl, B3.out⟩
 rw [if_neg (by simp)] at hq
 obtain ⟨g1, g2, g3, g4, g5⟩ := HSP.out (by trivial)
 have pb := ptS_bd g1 g2
 have hdr := HDI.out (by trivial)
 have hlen : ptS F i s < y.length := by have := hdr.len; omega
 have HP3 := hidE (fun W (q : Below w3.heap.size w3 W) => HPT.out W (W3.out.next q) g1 g2)
 obtain ⟨yb, yo, e2, ylt, yc⟩ := IntsAt.at HI3.out hlen
 obtain ⟨v, hv⟩ : ∃ v, y[ptS F i s] = v := ⟨_, rfl⟩
 rw [hv] at yc
 have hgd : y.getD (ptS F i s) 0 = v := by rw [List.getD_eq_getElem?_getD, List.getElem?_eq_getElem hlen, ← hv]; rfl
 rw [hgd] at hq
 obtain ⟨p, hpp⟩ : ∃ p, ptS F i s = p := ⟨_, rfl⟩
 rw [hpp] at HP3 yc hlen
 have hpl : (p : Int) < (LY : Int) := by have := HLY.out; omega
 have hp0 : (0 : Int) ≤ (p : Int) := by omega
 have HCU := hidE (fun (W : World) (gi : Nat) (hb : W.heap[gi]? = some (Obj.cells #[Value.int .i64 v] 3 (0,0))) => (by
  have := cut_any W i s a c gi 1 1 [v] (by decide) rfl (by decide) (lt_of_block hb) (fun j hj => by
   match j, hj with
   | 0, _ => exact ce (i := 0) hb rfl
   | j + 1, hj => exact absurd hj (by simp)) g3 (by omega) g5
  exact this))
 rw [show Lib.minOf [v] = v by show min v v = v; omega, show Lib.maxOf [v] = v by show max v v = v; omega] at HCU
 have HYC := hidE (fun V (hV : Below w3.heap.size w3 V) => (hV.cell (by exact ylt)).trans yc)
 subst e2
 unfold cutP at hq
 obtain ⟨K1, hK1⟩ : ∃ k, clampE v a c - a = k := ⟨_, rfl⟩
 obtain ⟨K2, hK2⟩ : ∃ k, clampE v a c - clampE v a c = k := ⟨_, rfl⟩
 obtain ⟨K3, hK3⟩ : ∃ k, c - clampE v a c = k := ⟨_, rfl⟩
 rw [hK1, hK3] at hq
 rw [hK1, hK2, hK3] at HCU
 cases hq
 clear g1 g2 g3 g4 g5 pb hdr hv hgd hpp hlen hK1 hK2 hK3 HSP HDI HPT HQ2 HLY HYL HI3 yc ylt
 go_upto_region 8 with fail
 go_cut [12] (fun t wx => ∃ g, t = .pointer (some ⟨g, 0, none⟩) ∧ Hid (wx.heap[g]? = some (.cells #[.int .i64 K1, .int .i64 K2, .int .i64 K3] 127 (0,0))) ∧ Hid (Below w3.heap.size w3 wx))
 case first =>
  refine wp_region_F (S := Below w3.heap.size w3) (last := 100) (by kernel_rfl) ?_
  obtain ⟨W0, hW0⟩ : ∃ W, W = w3.drew := ⟨_, rfl⟩
  have hS0 : Below w3.heap.size w3 W0 := by rw [hW0]; exact (Below.refl _ _).drew
  rw [← hW0]
  clear hW0
  refine tF 0 33 (.agg #[.int .i64 i, .int .i64 s, .int .i64 a, .int .i64 c]) rfl (by kernel_rfl) rfl (fun _ _ _ h => h) (fun V hV => ?_) hS0 ?_
  ·exact yload rfl rfl (blk_below hV (lt_of_block X3.out) X3.out) Tryz.underlying40 rfl (by kernel_rfl)
  try simp only [sA, sB, sC]
  refine tF 1 34 (.slice (some ⟨yb, yo, none⟩) LY c2) rfl (by kernel_rfl) rfl (fun _ _ _ h => h) (fun V hV => ?_) hS0 ?_
  ·simp [go_sem, execOp]
  try simp only [sA, sB, sC]
  refine tF 2 35 (.pointer (some ⟨b, 0, none⟩)) rfl (by kernel_rfl) rfl (fun _ _ _ h => h) (fun V hV => ?_) hS0 ?_
  ·simp [go_sem, execOp]
  try simp only [sA, sB, sC]
  refine tF 3 36 (.agg #[.int .i64 i, .int .i64 s, .int .i64 a, .int .i64 c]) rfl (by kernel_rfl) rfl (fun _ _ _ h => h) (fun V hV => ?_) hS0 ?_
  ·exact yload rfl rfl (blk_below hV (lt_of_block X3.out) X3.out) Tryz.underlying40 rfl (by kernel_rfl)
  try simp only [sA, sB, sC]
  refine wpAnyF_two 4 10 rfl rfl (by kernel_rfl) (fun K hK => ?_) (fun K hK => ?_)
  ·go_simp
   go_at_call 127
   refine (cornerOf_any _ i s a c).mono ?_
   rintro e wq1 ⟨rfl, hb1⟩
   have hS1 : Below w3.heap.size w3 wq1 := hS0.trans (hb1.mono hS0.size)
   clear hb1
   go_wp2_with fail
   refine hK.out _ _ (.inr hS1) ?_
   clear hK K
   try simp only [Act.put, sA, sB, sC]
   refine wpAnyF_two 5 10 rfl rfl (by kernel_rfl) (fun K hK => ?_) (fun K hK => ?_)
   ·go_simp
    go_at_call 83
    refine (HP3.out _ hS1).mono ?_
    rintro e wq2 ⟨rfl, hb2⟩
    have hS2 : Below w3.heap.size w3 wq2 := hS1.trans (hb2.mono hS1.size)
    clear hb2
    go_wp2_with fail
    refine hK.out _ _ (.inr hS2) ?_
    clear hK K
    try simp only [Act.put, sA, sB, sC]
    refine tF 6 39 (.pointer (some ⟨yb, yo + p, none⟩)) rfl (by kernel_rfl) rfl (fun _ _ _ h => h) (fun V hV => ?_) hS2 ?_
    ·simp [go_sem, execOp, hpl, hp0]
    try simp only [sA, sB, sC]
    refine tF 7 40 (.int .i64 v) rfl (by kernel_rfl) rfl (fun _ _ _ h => h) (fun V hV => ?_) hS2 ?_
    ·(have z := HYC.out V hV; simp [go_sem, execOp, z])
    try simp only [sA, sB, sC]
    refine wpAnyF_two 8 10 rfl rfl (by kernel_rfl) (fun K hK => ?_) (fun K hK => ?_)
    ·go_simp
     obtain ⟨wq3, hW3⟩ : ∃ Z, Z = wq2.alloc (.cells #[.int .i64 v] 3) := ⟨_, rfl⟩
     rw [← hW3]
     have hb3 : Below wq2.heap.size wq2 wq3 := by rw [hW3]; exact (Below.refl _ _).alloc (Nat.le_refl _) _
     have hS3 : Below w3.heap.size w3 wq3 := hS2.trans (hb3.mono hS2.size)
     have XI : wq3.heap[wq2.heap.size]? = some (.cells #[.int .i64 v] 3 (0,0)) := by rw [hW3]; exact heap_alloc_new _ _
     have XIge : w3.heap.size ≤ wq2.heap.size := hS2.size
     obtain ⟨gi, hgi⟩ : ∃ g, wq2.heap.size = g := ⟨_, rfl⟩
     rw [hgi] at XI XIge ⊢
     clear hW3 hgi hb3
     refine hK.out _ _ (.inr hS3) ?_
     clear hK K
     try simp only [Act.put, sA, sB, sC]
     refine wpAnyF_two 9 10 rfl rfl (by kernel_rfl) (fun K hK => ?_) (fun K hK => ?_)
     ·go_simp
      go_at_call 126
      refine (HCU.out _ gi XI).mono ?_
      rintro e wq4 ⟨rfl, hb4⟩
      have hS4 : Below w3.heap.size w3 wq4 := hS3.trans (hb4.mono hS3.size)
      replace XI := blk_below hb4 (lt_of_block XI) XI
      clear hb4
      go_wp2_with fail
      refine hK.out _ _ (.inr hS4) ?_
      clear hK K
      try simp only [Act.put, sA, sB, sC]
      refine wpAnyF_step 10 rfl (by kernel_rfl) (fun K hK => ?_)
      go_simp
      obtain ⟨wq5, hW5⟩ : ∃ Z, Z = wq4.alloc (.cells #[.int .i64 0, .int .i64 0, .int .i64 0] 127) := ⟨_, rfl⟩
      rw [← hW5]
      have hb5 : Below wq4.heap.size wq4 wq5 := by rw [hW5]; exact (Below.refl _ _).alloc (Nat.le_refl _) _
      have hS5 : Below w3.heap.size w3 wq5 := hS4.trans (hb5.mono hS4.size)
      replace XI := blk_below hb5 (lt_of_block XI) XI
      have XG : wq5.heap[wq4.heap.size]? = some (.cells #[.int .i64 0, .int .i64 0, .int .i64 0] 127 (0,0)) := by rw [hW5]; exact heap_alloc_new _ _
      have XGge : w3.heap.size ≤ wq4.heap.size := hS4.size
      obtain ⟨g, hg⟩ : ∃ g, wq4.heap.size = g := ⟨_, rfl⟩
      rw [hg] at XG XGge ⊢
      clear hW5 hg hb5
      refine hK.out _ _ (.inr hS5) ?_
      clear hK K
      try simp only [Act.put, sA, sB, sC]
      refine wpAnyF_step 11 rfl (by kernel_rfl) (fun K hK => ?_)
      refine Eq.mpr (if_pos (by kernel_rfl)) ?_
      refine wp_store_row 127 _ _ rfl g #[.int .i64 K1, .int .i64 K2, .int .i64 K3] rfl rfl 127 _ XG (by kernel_rfl) rfl (by simp [Value.oneCell']) ?_
      have XF := setRow_heap _ _ _ #[.int .i64 K1, .int .i64 K2, .int .i64 K3] _ _ XG
      have hSF := below_setRow (cs := #[.int .i64 K1, .int .i64 K2, .int .i64 K3]) hS5 XGge
      refine hK.out _ _ (.inr hSF) ?_
      clear hK K
      try simp only [Act.put, sA]
      refine wpAnyF_done (by kernel_rfl) ?_ _
      go_wp2_with fail
      go_meet
      exact ⟨g, rfl, hidE XF, hidE hSF⟩
     ·go_simp
      obtain ⟨wq4, hW4⟩ : ∃ Z, Z = wq3.alloc (.cells #[.int .i64 0, .int .i64 0, .int .i64 0] 127) := ⟨_, rfl⟩
      rw [← hW4]
      have hb4 : Below wq3.heap.size wq3 wq4 := by rw [hW4]; exact (Below.refl _ _).alloc (Nat.le_refl _) _
      have hS4 : Below w3.heap.size w3 wq4 := hS3.trans (hb4.mono hS3.size)
      replace XI := blk_below hb4 (lt_of_block XI) XI
      have XG : wq4.heap[wq3.heap.size]? = some (.cells #[.int .i64 0, .int .i64 0, .int .i64 0] 127 (0,0)) := by rw [hW4]; exact heap_alloc_new _ _
      have XGge : w3.heap.size ≤ wq3.heap.size := hS3.size
      obtain ⟨g, hg⟩ : ∃ g, wq3.heap.size = g := ⟨_, rfl⟩
      rw [hg] at XG XGge ⊢
      clear hW4 hg hb4
      refine hK.out _ _ (.inr hS4) ?_
      clear hK K
      try simp only [Act.put, sA, sB, sC]
      refine wpAnyF_step 9 rfl (by kernel_rfl) (fun K hK => ?_)
      go_simp
      go_at_call 126
      refine (HCU.out _ gi XI).mono ?_
      rintro e wq5 ⟨rfl, hb5⟩
      have hS5 : Below w3.heap.size w3 wq5 := hS4.trans (hb5.mono hS4.size)
      replace XI := blk_below hb5 (lt_of_block XI) XI
      replace XG := blk_below hb5 (lt_of_block XG) XG
      clear hb5
      go_wp2_with fail
      refine hK.out _ _ (.inr hS5) ?_
      clear hK K
      try simp only [Act.put, sA, sB, sC]
      refine wpAnyF_step 11 rfl (by kernel_rfl) (fun K hK => ?_)
      refine Eq.mpr (if_pos (by kernel_rfl)) ?_
      refine wp_store_row 127 _ _ rfl g #[.int .i64 K1, .int .i64 K2, .int .i64 K3] rfl rfl 127 _ XG (by kernel_rfl) rfl (by simp [Value.oneCell']) ?_
      have XF := setRow_heap _ _ _ #[.int .i64 K1, .int .i64 K2, .int .i64 K3] _ _ XG
      have hSF := below_setRow (cs := #[.int .i64 K1, .int .i64 K2, .int .i64 K3]) hS5 XGge
      refine hK.out _ _ (.inr hSF) ?_
      clear hK K
      try simp only [Act.put, sA]
      refine wpAnyF_done (by kernel_rfl) ?_ _
      go_wp2_with fail
      go_meet
      exact ⟨g, rfl, hidE XF, hidE hSF⟩
    ·go_simp
     obtain ⟨wq3, hW3⟩ : ∃ Z, Z = wq2.alloc (.cells #[.int .i64 0, .int .i64 0, .int .i64 0] 127) := ⟨_, rfl⟩
     rw [← hW3]
     have hb3 : Below wq2.heap.size wq2 wq3 := by rw [hW3]; exact (Below.refl _ _).alloc (Nat.le_refl _) _
     have hS3 : Below w3.heap.size w3 wq3 := hS2.trans (hb3.mono hS2.size)
     have XG : wq3.heap[wq2.heap.size]? = some (.cells #[.int .i64 0, .int .i64 0, .int .i64 0] 127 (0,0)) := by rw [hW3]; exact heap_alloc_new _ _
     have XGge : w3.heap.size ≤ wq2.heap.size := hS2.size
     obtain ⟨g, hg⟩ : ∃ g, wq2.heap.size = g := ⟨_, rfl⟩
     rw [hg] at XG XGge ⊢
     clear hW3 hg hb3
     refine hK.out _ _ (.inr hS3) ?_
     clear hK K
     try simp only [Act.put, sA, sB, sC]
     refine wpAnyF_step 8 rfl (by kernel_rfl) (fun K hK => ?_)
     go_simp
     obtain ⟨wq4, hW4⟩ : ∃ Z, Z = wq3.alloc (.cells #[.int .i64 v] 3) := ⟨_, rfl⟩
     rw [← hW4]
     have hb4 : Below wq3.heap.size wq3 wq4 := by rw [hW4]; exact (Below.refl _ _).alloc (Nat.le_refl _) _
     have hS4 : Below w3.heap.size w3 wq4 := hS3.trans (hb4.mono hS3.size)
     replace XG := blk_below hb4 (lt_of_block XG) XG
     have XI : wq4.heap[wq3.heap.size]? = some (.cells #[.int .i64 v] 3 (0,0)) := by rw [hW4]; exact heap_alloc_new _ _
     have XIge : w3.heap.size ≤ wq3.heap.size := hS3.size
     obtain ⟨gi, hgi⟩ : ∃ g, wq3.heap.size = g := ⟨_, rfl⟩
     rw [hgi] at XI XIge ⊢
     clear hW4 hgi hb4
     refine hK.out _ _ (.inr hS4) ?_
     clear hK K
     try simp only [Act.put, sA, sB, sC]
     refine wpAnyF_step 9 rfl (by kernel_rfl) (fun K hK => ?_)
     go_simp
     go_at_call 126
     refine (HCU.out _ gi XI).mono ?_
     rintro e wq5 ⟨rfl, hb5⟩
     have hS5 : Below w3.heap.size w3 wq5 := hS4.trans (hb5.mono hS4.size)
     replace XG := blk_below hb5 (lt_of_block XG) XG
     replace XI := blk_below hb5 (lt_of_block XI) XI
     clear hb5
     go_wp2_with fail
     refine hK.out _ _ (.inr hS5) ?_
     clear hK K
     try simp only [Act.put, sA, sB, sC]
     refine wpAnyF_step 11 rfl (by kernel_rfl) (fun K hK => ?_)
     refine Eq.mpr (if_pos (by kernel_rfl)) ?_
     refine wp_store_row 127 _ _ rfl g #[.int .i64 K1, .int .i64 K2, .int .i64 K3] rfl rfl 127 _ XG (by kernel_rfl) rfl (by simp [Value.oneCell']) ?_
     have XF := setRow_heap _ _ _ #[.int .i64 K1, .int .i64 K2, .int .i64 K3] _ _ XG
     have hSF := below_setRow (cs := #[.int .i64 K1, .int .i64 K2, .int .i64 K3]) hS5 XGge
     refine hK.out _ _ (.inr hSF) ?_
     clear hK K
     try simp only [Act.put, sA]
     refine wpAnyF_done (by kernel_rfl) ?_ _
     go_wp2_with fail
     go_meet
     exact ⟨g, rfl, hidE XF, hidE hSF⟩
   ·go_simp
    obtain ⟨wq2, hW2⟩ : ∃ Z, Z = wq1.alloc (.cells #[.int .i64 0, .int .i64 0, .int .i64 0] 127) := ⟨_, rfl⟩
    rw [← hW2]
    have hb2 : Below wq1.heap.size wq1 wq2 := by rw [hW2]; exact (Below.refl _ _).alloc (Nat.le_refl _) _
    have hS2 : Below w3.heap.size w3 wq2 := hS1.trans (hb2.mono hS1.size)
    have XG : wq2.heap[wq1.heap.size]? = some (.cells #[.int .i64 0, .int .i64 0, .int .i64 0] 127 (0,0)) := by rw [hW2]; exact heap_alloc_new _ _
    have XGge : w3.heap.size ≤ wq1.heap.size := hS1.size
    obtain ⟨g, hg⟩ : ∃ g, wq1.heap.size = g := ⟨_, rfl⟩
    rw [hg] at XG XGge ⊢
    clear hW2 hg hb2
    refine hK.out _ _ (.inr hS2) ?_
    clear hK K
    try simp only [Act.put, sA, sB, sC]
    refine wpAnyF_step 5 rfl (by kernel_rfl) (fun K hK => ?_)
    go_simp
    go_at_call 83
    refine (HP3.out _ hS2).mono ?_
    rintro e wq3 ⟨rfl, hb3⟩
    have hS3 : Below w3.heap.size w3 wq3 := hS2.trans (hb3.mono hS2.size)
    replace XG := blk_below hb3 (lt_of_block XG) XG
    clear hb3
    go_wp2_with fail
    refine hK.out _ _ (.inr hS3) ?_
    clear hK K
    try simp only [Act.put, sA, sB, sC]
    refine tF 6 39 (.pointer (some ⟨yb, yo + p, none⟩)) rfl (by kernel_rfl) rfl (fun _ _ _ h => h) (fun V hV => ?_) hS3 ?_
    ·simp [go_sem, execOp, hpl, hp0]
    try simp only [sA, sB, sC]
    refine tF 7 40 (.int .i64 v) rfl (by kernel_rfl) rfl (fun _ _ _ h => h) (fun V hV => ?_) hS3 ?_
    ·(have z := HYC.out V hV; simp [go_sem, execOp, z])
    try simp only [sA, sB, sC]
    refine wpAnyF_step 8 rfl (by kernel_rfl) (fun K hK => ?_)
    go_simp
    obtain ⟨wq4, hW4⟩ : ∃ Z, Z = wq3.alloc (.cells #[.int .i64 v] 3) := ⟨_, rfl⟩
    rw [← hW4]
    have hb4 : Below wq3.heap.size wq3 wq4 := by rw [hW4]; exact (Below.refl _ _).alloc (Nat.le_refl _) _
    have hS4 : Below w3.heap.size w3 wq4 := hS3.trans (hb4.mono hS3.size)
    replace XG := blk_below hb4 (lt_of_block XG) XG
    have XI : wq4.heap[wq3.heap.size]? = some (.cells #[.int .i64 v] 3 (0,0)) := by rw [hW4]; exact heap_alloc_new _ _
    have XIge : w3.heap.size ≤ wq3.heap.size := hS3.size
    obtain ⟨gi, hgi⟩ : ∃ g, wq3.heap.size = g := ⟨_, rfl⟩
    rw [hgi] at XI XIge ⊢
    clear hW4 hgi hb4
    refine hK.out _ _ (.inr hS4) ?_
    clear hK K
    try simp only [Act.put, sA, sB, sC]
    refine wpAnyF_step 9 rfl (by kernel_rfl) (fun K hK => ?_)
    go_simp
    go_at_call 126
    refine (HCU.out _ gi XI).mono ?_
    rintro e wq5 ⟨rfl, hb5⟩
    have hS5 : Below w3.heap.size w3 wq5 := hS4.trans (hb5.mono hS4.size)
    replace XG := blk_below hb5 (lt_of_block XG) XG
    replace XI := blk_below hb5 (lt_of_block XI) XI
    clear hb5
    go_wp2_with fail
    refine hK.out _ _ (.inr hS5) ?_
    clear hK K
    try simp only [Act.put, sA, sB, sC]
    refine wpAnyF_step 11 rfl (by kernel_rfl) (fun K hK => ?_)
    refine Eq.mpr (if_pos (by kernel_rfl)) ?_
    refine wp_store_row 127 _ _ rfl g #[.int .i64 K1, .int .i64 K2, .int .i64 K3] rfl rfl 127 _ XG (by kernel_rfl) rfl (by simp [Value.oneCell']) ?_
    have XF := setRow_heap _ _ _ #[.int .i64 K1, .int .i64 K2, .int .i64 K3] _ _ XG
    have hSF := below_setRow (cs := #[.int .i64 K1, .int .i64 K2, .int .i64 K3]) hS5 XGge
    refine hK.out _ _ (.inr hSF) ?_
    clear hK K
    try simp only [Act.put, sA]
    refine wpAnyF_done (by kernel_rfl) ?_ _
    go_wp2_with fail
    go_meet
    exact ⟨g, rfl, hidE XF, hidE hSF⟩
  ·go_simp
   obtain ⟨wq1, hW1⟩ : ∃ Z, Z = W0.alloc (.cells #[.int .i64 0, .int .i64 0, .int .i64 0] 127) := ⟨_, rfl⟩
   rw [← hW1]
   have hb1 : Below W0.heap.size W0 wq1 := by rw [hW1]; exact (Below.refl _ _).alloc (Nat.le_refl _) _
   have hS1 : Below w3.heap.size w3 wq1 := hS0.trans (hb1.mono hS0.size)
   have XG : wq1.heap[W0.heap.size]? = some (.cells #[.int .i64 0, .int .i64 0, .int .i64 0] 127 (0,0)) := by rw [hW1]; exact heap_alloc_new _ _
   have XGge : w3.heap.size ≤ W0.heap.size := hS0.size
   obtain ⟨g, hg⟩ : ∃ g, W0.heap.size = g := ⟨_, rfl⟩
   rw [hg] at XG XGge ⊢
   clear hW1 hg hb1
   refine hK.out _ _ (.inr hS1) ?_
   clear hK K
   try simp only [Act.put, sA, sB, sC]
   refine wpAnyF_step 4 rfl (by kernel_rfl) (fun K hK => ?_)
   go_simp
   go_at_call 127
   refine (cornerOf_any _ i s a c).mono ?_
   rintro e wq2 ⟨rfl, hb2⟩
   have hS2 : Below w3.heap.size w3 wq2 := hS1.trans (hb2.mono hS1.size)
   replace XG := blk_below hb2 (lt_of_block XG) XG
   clear hb2
   go_wp2_with fail
   refine hK.out _ _ (.inr hS2) ?_
   clear hK K
   try simp only [Act.put, sA, sB, sC]
   refine wpAnyF_step 5 rfl (by kernel_rfl) (fun K hK => ?_)
   go_simp
   go_at_call 83
   refine (HP3.out _ hS2).mono ?_
   rintro e wq3 ⟨rfl, hb3⟩
   have hS3 : Below w3.heap.size w3 wq3 := hS2.trans (hb3.mono hS2.size)
   replace XG := blk_below hb3 (lt_of_block XG) XG
   clear hb3
   go_wp2_with fail
   refine hK.out _ _ (.inr hS3) ?_
   clear hK K
   try simp only [Act.put, sA, sB, sC]
   refine tF 6 39 (.pointer (some ⟨yb, yo + p, none⟩)) rfl (by kernel_rfl) rfl (fun _ _ _ h => h) (fun V hV => ?_) hS3 ?_
   ·simp [go_sem, execOp, hpl, hp0]
   try simp only [sA, sB, sC]
   refine tF 7 40 (.int .i64 v) rfl (by kernel_rfl) rfl (fun _ _ _ h => h) (fun V hV => ?_) hS3 ?_
   ·(have z := HYC.out V hV; simp [go_sem, execOp, z])
   try simp only [sA, sB, sC]
   refine wpAnyF_step 8 rfl (by kernel_rfl) (fun K hK => ?_)
   go_simp
   obtain ⟨wq4, hW4⟩ : ∃ Z, Z = wq3.alloc (.cells #[.int .i64 v] 3) := ⟨_, rfl⟩
   rw [← hW4]
   have hb4 : Below wq3.heap.size wq3 wq4 := by rw [hW4]; exact (Below.refl _ _).alloc (Nat.le_refl _) _
   have hS4 : Below w3.heap.size w3 wq4 := hS3.trans (hb4.mono hS3.size)
   replace XG := blk_below hb4 (lt_of_block XG) XG
   have XI : wq4.heap[wq3.heap.size]? = some (.cells #[.int .i64 v] 3 (0,0)) := by rw [hW4]; exact heap_alloc_new _ _
   have XIge : w3.heap.size ≤ wq3.heap.size := hS3.size
   obtain ⟨gi, hgi⟩ : ∃ g, wq3.heap.size = g := ⟨_, rfl⟩
   rw [hgi] at XI XIge ⊢
   clear hW4 hgi hb4
   refine hK.out _ _ (.inr hS4) ?_
   clear hK K
   try simp only [Act.put, sA, sB, sC]
   refine wpAnyF_step 9 rfl (by kernel_rfl) (fun K hK => ?_)
   go_simp
   go_at_call 126
   refine (HCU.out _ gi XI).mono ?_
   rintro e wq5 ⟨rfl, hb5⟩
   have hS5 : Below w3.heap.size w3 wq5 := hS4.trans (hb5.mono hS4.size)
   replace XG := blk_below hb5 (lt_of_block XG) XG
   replace XI := blk_below hb5 (lt_of_block XI) XI
   clear hb5
   go_wp2_with fail
   refine hK.out _ _ (.inr hS5) ?_
   clear hK K
   try simp only [Act.put, sA, sB, sC]
   refine wpAnyF_step 11 rfl (by kernel_rfl) (fun K hK => ?_)
   refine Eq.mpr (if_pos (by kernel_rfl)) ?_
   refine wp_store_row 127 _ _ rfl g #[.int .i64 K1, .int .i64 K2, .int .i64 K3] rfl rfl 127 _ XG (by kernel_rfl) rfl (by simp [Value.oneCell']) ?_
   have XF := setRow_heap _ _ _ #[.int .i64 K1, .int .i64 K2, .int .i64 K3] _ _ XG
   have hSF := below_setRow (cs := #[.int .i64 K1, .int .i64 K2, .int .i64 K3]) hS5 XGge
   refine hK.out _ _ (.inr hSF) ?_
   clear hK K
   try simp only [Act.put, sA]
   refine wpAnyF_done (by kernel_rfl) ?_ _
   go_wp2_with fail
   go_meet
   exact ⟨g, rfl, hidE XF, hidE hSF⟩
 case rest =>
 obtain ⟨g, rfl, HG, HB⟩ := hcut
 obtain ⟨W4, rfl⟩ : ∃ z : World, z = wc := ⟨wc, rfl⟩
 have kg := rowc HG.out
 clear HG
 go_wp2_with fail
 go_quiet (fail)
 go_wp2_with fail
 refine bodyPost_ret (v := .tuple #[.int .i64 K1, .int .i64 K3, .int .i64 0]) (by simp [results, Tryz.results58, go_sem]) rfl ⟨rfl, (B3.out.trans (HB.out.mono B3.out.size)).trans (below_drewN' _ _)⟩
theorem awards_spec {F : Fld} {l : List Rcd} {i s a c : Int} (h : (awardE F l i s a c).2 = 0) (y : List Int) :
 ∃ L H p1 p2 p3 q r u v m, firstE F l = (L, 0) ∧ lastE F l = (H, 0) ∧ partsE F l i s a c = ((p1, p2, p3), 0) ∧ awardedE F l L i s a c = (p1, q, 0) ∧ awardedE F l H i s a c = (r, p3, 0) ∧ awardedE F l y i s a c = (u, v, m) ∧
  L.length ≤ 128 ∧ H.length ≤ 128 ∧ p1 + p2 + p3 = c - a ∧ 0 ≤ p2 ∧ (0 ≤ c - a ∧ c - a ≤ 100000) ∧ (0 ≤ p1 ∧ p1 ≤ 100000) ∧ (0 ≤ p2 ∧ p2 ≤ 100000) ∧ (0 ≤ p3 ∧ p3 ≤ 100000) ∧
  ((awardE F l i s a c).1 = 0 ∨ (awardE F l i s a c).1 = 1 ∨ (awardE F l i s a c).1 = 2) ∧ ((awardE F l i s a c).1 = 1 ↔ r = 0) ∧ ((awardE F l i s a c).1 = 2 ↔ q = 0) ∧
  ((m = 5 ∧ u = 0 ∧ v = 0) ∨ (m = 0 ∧ u + v = c - a ∧ p1 ≤ u ∧ p3 ≤ v ∧ (u ≤ 100000 ∧ v ≤ 100000) ∧ ((awardE F l i s a c).1 = 1 → u = 0) ∧ ((awardE F l i s a c).1 = 2 → v = 0))) := by
 obtain ⟨g, ha, hc, hab, k⟩ := award_zero h
 have aw := awards_law h
 have pb := ptS_bd hc.1 hc.2
 have eb := ends_bd g ha pb.1 pb.2.1
 have hst : stripB F i s a c = true := by unfold stripB cornB; rw [hc.1, hc.2]; simp; omega
 have hck : (checkE F l).2 = 0 := (check_iff F l).2 g
 have hm0 : ¬ (matchE F l 0 ≠ 0) := by simpa using (match_zero.2 ⟨g, rfl, ha⟩ : matchE F l 0 = 0)
 have awd : ∀ y, Drw F l y → awardedE F l y i s a c = ((cutP (y.getD (ptS F i s) 0) (y.getD (ptS F i s) 0) a c).1, (cutP (y.getD (ptS F i s) 0) (y.getD (ptS F i s) 0) a c).2.2, 0) := fun y hy => by
  unfold awardedE
  rw [if_neg (by rw [hck]; simp), if_neg (by rw [hst]; simp), if_neg (by rw [(drwB_iff g).2 hy]; simp)]
 have awn : drwB F l y = false → awardedE F l y i s a c = (0, 0, 5) := fun hy => by
  unfold awardedE
  rw [if_neg (by rw [hck]; simp), if_neg (by rw [hst]; simp), if_pos hy]
 have ld := last_drw g ha
 dsimp only at aw
 obtain ⟨z1, z2, z3, z4, z5, z6, z7⟩ := aw
 have lv : (lowV (ptN F) (sysL F l)).getD (ptS F i s) 0 = lowE F l (ptS F i s) := by rw [lowV_get pb.2.1]; rfl
 have hv : (highV (ptN F) (sysL F l)).getD (ptS F i s) 0 = highE F l (ptS F i s) := by rw [highV_get pb.2.1]; rfl
 have lenL : (lowV (ptN F) (sysL F l)).length ≤ 128 := by have := pt_le g.fld; simp [lowV]; omega
 have lenH : (highV (ptN F) (sysL F l)).length ≤ 128 := by have := pt_le g.fld; simp [highV]; omega
 have o1 : 0 ≤ (cutP (lowE F l (ptS F i s)) (highE F l (ptS F i s)) a c).1 ∧ (cutP (lowE F l (ptS F i s)) (highE F l (ptS F i s)) a c).1 ≤ 100000 := by unfold cutP clampE; dsimp only; omega
 have o2 : 0 ≤ (cutP (lowE F l (ptS F i s)) (highE F l (ptS F i s)) a c).2.1 ∧ (cutP (lowE F l (ptS F i s)) (highE F l (ptS F i s)) a c).2.1 ≤ 100000 := by unfold cutP clampE; dsimp only; omega
 have o3 : 0 ≤ (cutP (lowE F l (ptS F i s)) (highE F l (ptS F i s)) a c).2.2 ∧ (cutP (lowE F l (ptS F i s)) (highE F l (ptS F i s)) a c).2.2 ≤ 100000 := by unfold cutP clampE; dsimp only; omega
 have k0 : ¬ (matchE F l (flagE (stripB F i s a c)) ≠ 0) := by simpa using k
 have av : (awardE F l i s a c).1 = 0 ∨ (awardE F l i s a c).1 = 1 ∨ (awardE F l i s a c).1 = 2 := by
  unfold awardE
  rw [if_neg k0]
  unfold awardOf
  dsimp only
  split
  ·exact .inr (.inl rfl)
  ·split
   ·exact .inr (.inr rfl)
   ·exact .inl rfl
 have e1 := awd _ ld.2
 have e2 := awd _ ld.1
 rw [lv, z3] at e1
 rw [hv, z4] at e2
 refine ⟨lowV (ptN F) (sysL F l), highV (ptN F) (sysL F l), _, _, _, _, _, (awardedE F l y i s a c).1, (awardedE F l y i s a c).2.1, (awardedE F l y i s a c).2.2, ?_, ?_, ?_, e1, e2, rfl, lenL, lenH, z1, z2, by omega, o1, o2, o3, av, z5, z6, ?_⟩
 ·unfold firstE; rw [if_neg hm0]
 ·unfold lastE; rw [if_neg hm0]
 ·unfold partsE; rw [if_neg k0]
 ·cases hd : drwB F l y with
  | false => exact .inl (by rw [awn hd]; exact ⟨rfl, rfl, rfl⟩)
  | true =>
    have d := (drwB_iff g).1 hd
    obtain ⟨t1, t2, t3, t4, t5⟩ := z7 y d
    rw [awd y d]
    refine .inr ⟨rfl, t1, t2, t3, ?_, t4, t5⟩
    dsimp only
    unfold cutP clampE at t1 t2 t3 ⊢
    dsimp only at t1 t2 t3 ⊢
    omega
set_option maxRecDepth 10000 in
set_option maxHeartbeats 8000000 in
theorem limitsAwards_any (w : World) (x : FV) (F : Fld) (ar : Option Addr) (cr : Nat) (l : List Rcd) (i s a c : Int) (a2 : Option Addr) (c2 : Nat) (y : List Int) (h : FldAt w x F) (hr : RcdsAt w ar l) (hn : l.length ≤ 9223372036854775807) (hd : ∀ r ∈ l, r.deed.size ≤ 9223372036854775807) (hk : ∀ r ∈ l, 0 ≤ r.call.kind ∧ r.call.kind ≤ 255) (hm_y : y.length ≤ 9223372036854775807) (hi_y : IntsAt w a2 y) :
 Calls Tryz.prog 14 #[x.val F, .slice ar l.length cr, .agg #[.int .i64 i, .int .i64 s, .int .i64 a, .int .i64 c], .slice a2 y.length c2] w fun e w' => e = .returned (.bool true) ∧ Below w.heap.size w w' := by
 obtain ⟨w0, hw0⟩ : ∃ W, W = (w.alloc (.cells (x.arr F) 27)).alloc (.cells #[.int .i64 i, .int .i64 s, .int .i64 a, .int .i64 c] 40) := ⟨_, rfl⟩
 have B0 := hidE (show Below w.heap.size w w0 by rw [hw0]; exact ((Below.refl _ _).alloc (Nat.le_refl _) _).alloc (by simp) _)
 have X0 := hidE (show Kb [(w.heap.size + 1, .cells #[.int .i64 i, .int .i64 s, .int .i64 a, .int .i64 c] 40), (w.heap.size, .cells (x.arr F) 27)] w0 by
  rw [hw0]
  have := Kb.alloc (o := .cells #[.int .i64 i, .int .i64 s, .int .i64 a, .int .i64 c] 40) (Kb.alloc (W := w) (o := .cells (x.arr F) 27) (L := []) trivial)
  simpa using this)
 have HF := hidE (fun W (hb : Below w0.heap.size w0 W) => (h.below B0.out).below hb)
 have HRR := hidE (fun W (hb : Below w0.heap.size w0 W) => (hr.below B0.out (Nat.le_refl _)).below hb (Nat.le_refl _))
 have HI_y := hidE (fun W (hb : Below w0.heap.size w0 W) => (hi_y.below B0.out (Nat.le_refl _)).below hb (Nat.le_refl _))
 have HM_y := hidE hm_y
 have HSM := hidE (smallL_any w0 x F ar cr l (h.below B0.out) (hr.below B0.out (Nat.le_refl _)) hn hd)
 have HSV := hidE (fun W => surveyed_any W)
 have HRC := hidE (fun (q : smallB F l = true) => And.intro (small_facts q) (small_recs q hk))
 obtain ⟨sm, hsm⟩ : ∃ b, smallB F l = b := ⟨_, rfl⟩
 rw [hsm] at HSM HRC
 have k0 := rowc X0.out.2.1
 have k1 := rowc X0.out.1
 unfold FV.arr at k0
 unfold FV.val FV.arr at HSM
 clear h hr hn hd hk hsm hm_y hi_y
 go_enter Tryz.func14, Tryz.ntmps14
 go_upto_region 1 with fail
 try unfold FV.val FV.arr
 rw [show (w.alloc (.cells #[.slice x.aS F.sts.length x.cS, .slice x.aL F.lms.length x.cL, .slice x.aP F.prs.length x.cP, .slice x.aV F.vrs.length x.cV] 27)).alloc (.cells #[.int .i64 i, .int .i64 s, .int .i64 a, .int .i64 c] 40) = w0 from hw0.symm]
 clear hw0
 go_wp2_with fail
 refine HSM.out.mono ?_
 rintro e w1 ⟨rfl, hb1⟩
 have BB1 := hidE hb1
 have X1 := hidE (X0.out.next hb1)
 clear hb1 k0 k1 HSM X0
 cases sm
 ·go_wp2_with fail
  refine (HSV.out _).mono ?_
  rintro e wz ⟨rfl, hbz⟩
  have BZ := hidE (B0.out.trans ((BB1.out.trans (hbz.mono BB1.out.size)).mono B0.out.size))
  clear hbz
  go_wp2_with fail
  go_ret
  exact ⟨rfl, BZ.out⟩
 obtain ⟨⟨⟨f1, f2, f3⟩, f4, f5⟩, hn5, hk5⟩ := HRC.out (by trivial)
 by_cases hy2 : y.length ≤ 200
 rotate_left
 ·have dy : decide (200 < (y.length : Int)) = true := by simp; omega
  go_wp2_with fail
  refine (HSV.out _).mono ?_
  rintro e wz ⟨rfl, hbz⟩
  have BZ := hidE (B0.out.trans ((BB1.out.trans (hbz.mono BB1.out.size)).mono B0.out.size))
  clear hbz
  go_wp2_with fail
  go_ret
  exact ⟨rfl, BZ.out⟩
 have dy : decide (200 < (y.length : Int)) = false := by simp; omega
 have HAA := hidE (fun W (hb : Below w0.heap.size w0 W) => awardL_any W x F ar cr l i s a c (HF.out W hb) (HRR.out W hb) hn5 hk5)
 have HFI := hidE (fun W (hb : Below w0.heap.size w0 W) => firstL_any W x F ar cr l (HF.out W hb) (HRR.out W hb) hn5 hk5)
 have HLA := hidE (fun W (hb : Below w0.heap.size w0 W) => lastL_any W x F ar cr l (HF.out W hb) (HRR.out W hb) hn5 hk5)
 have HPA := hidE (fun W (hb : Below w0.heap.size w0 W) => partsL_any W x F ar cr l i s a c (HF.out W hb) (HRR.out W hb) hn5 hk5)
 have HAW := hidE (fun W (hb : Below w0.heap.size w0 W) a9 c9 (z : List Int) (hz : z.length ≤ 9223372036854775807) (hi : IntsAt W a9 z) => awardedL_any W x F ar cr l i s a c (HF.out W hb) (HRR.out W hb) hn5 hk5 a9 c9 z hz hi)
 have HSP := hidE (fun (q : (awardE F l i s a c).2 = 0) => awards_spec q y)
 obtain ⟨⟨aw, ae⟩, hp⟩ : ∃ p, awardE F l i s a c = p := ⟨_, rfl⟩
 rw [hp] at HAA HSP
 clear hp f1 f2 f3 f4 f5 hn5 hk5 HRC HF HRR hy2
 have k0 := rowc X1.out.2.1
 have k1 := rowc X1.out.1
 unfold FV.arr at k0
 have HC := hidE (HAA.out w1 BB1.out)
 try unfold FV.val FV.arr at HC
 go_wp2_with fail
 refine HC.out.mono ?_
 rintro e w2 ⟨rfl, hb⟩
 have BB2 := hidE (BB1.out.trans (hb.mono BB1.out.size))
 have X2 := hidE (X1.out.next hb)
 clear hb k0 k1 HC BB1 X1 HAA
 by_cases h0 : ae = 0
 rotate_left
 ·have hzb : (ae != 0) = true := by simpa using h0
  clear h0 HSP HAW HPA HFI HLA
  go_wp2_with fail
  refine (HSV.out _).mono ?_
  rintro e wz ⟨rfl, hbz⟩
  have BZ := hidE (B0.out.trans ((BB2.out.trans (hbz.mono BB2.out.size)).mono B0.out.size))
  clear hbz
  go_wp2_with fail
  go_ret
  exact ⟨rfl, BZ.out⟩
 subst h0
 obtain ⟨T1, T2, p1, p2, p3, q, r, u, v, m, e1, e2, e3, e4, e5, e6, l1, l2, s1, s2, bd0, bd1, bd2, bd3, hav, h1, h2, h3⟩ := HSP.out (by trivial)
 try dsimp only at hav h1 h2 h3
 rw [e1] at HFI
 rw [e2] at HLA
 rw [e3] at HPA
 have HAL := hidE (fun W (hb : Below w0.heap.size w0 W) a9 c9 (hi : IntsAt W a9 T1) => (by
  have := HAW.out W hb a9 c9 T1 (by omega) hi
  rw [e4] at this
  exact this))
 have HAH := hidE (fun W (hb : Below w0.heap.size w0 W) a9 c9 (hi : IntsAt W a9 T2) => (by
  have := HAW.out W hb a9 c9 T2 (by omega) hi
  rw [e5] at this
  exact this))
 have HAY := hidE (fun W (hb : Below w0.heap.size w0 W) => (by
  have := HAW.out W hb a2 c2 y HM_y.out (HI_y.out W hb)
  rw [e6] at this
  exact this))
 obtain ⟨n1, hn1⟩ : ∃ n, T1.length = n := ⟨_, rfl⟩
 obtain ⟨n2, hn2⟩ : ∃ n, T2.length = n := ⟨_, rfl⟩
 rw [hn1] at HAL
 rw [hn2] at HAH
 have HN1 := hidE hn1
 have HN2 := hidE hn2
 have HNU := hidE (And.intro s1 (And.intro s2 (And.intro bd0 (And.intro bd1 (And.intro bd2 (And.intro bd3 (And.intro hav (And.intro h1 (And.intro h2 h3)))))))))
 clear e1 e2 e3 e4 e5 e6 l1 l2 s1 s2 bd0 bd1 bd2 bd3 hav h1 h2 h3 HSP HAW hn1 hn2
 have k0 := rowc X2.out.2.1
 have k1 := rowc X2.out.1
 unfold FV.arr at k0
 have HC := hidE (HFI.out w2 BB2.out)
 try unfold FV.val FV.arr at HC
 go_wp2_with fail
 refine HC.out.mono ?_
 rintro e w3 ⟨⟨v1, rfl, o1⟩, hb⟩
 have BB3 := hidE (BB2.out.trans (hb.mono BB2.out.size))
 have X3 := hidE (X2.out.next hb)
 obtain ⟨a3, c3, rfl, hi1⟩ := owns_intsAt o1
 have LA3 := hidE hi1
 simp only [HN1.out]
 clear hb k0 k1 HC BB2 X2 HFI o1 hi1
 have k0 := rowc X3.out.2.1
 have k1 := rowc X3.out.1
 unfold FV.arr at k0
 have HC := hidE (HLA.out w3 BB3.out)
 try unfold FV.val FV.arr at HC
 go_wp2_with fail
 refine HC.out.mono ?_
 rintro e w4 ⟨⟨v1, rfl, o1⟩, hb⟩
 have BB4 := hidE (BB3.out.trans (hb.mono BB3.out.size))
 have X4 := hidE (X3.out.next hb)
 have LA4 := hidE (LA3.out.below hb (Nat.le_refl _))
 obtain ⟨a4, c4, rfl, hi1⟩ := owns_intsAt o1
 have LB4 := hidE hi1
 simp only [HN2.out]
 clear hb k0 k1 HC BB3 X3 LA3 HLA o1 hi1
 have k0 := rowc X4.out.2.1
 have k1 := rowc X4.out.1
 unfold FV.arr at k0
 have HC := hidE (HPA.out w4 BB4.out)
 try unfold FV.val FV.arr at HC
 go_wp2_with fail
 refine HC.out.mono ?_
 rintro e w5 ⟨rfl, hb⟩
 have BB5 := hidE (BB4.out.trans (hb.mono BB4.out.size))
 have X5 := hidE (X4.out.next hb)
 have LA5 := hidE (LA4.out.below hb (Nat.le_refl _))
 have LB5 := hidE (LB4.out.below hb (Nat.le_refl _))
 clear hb k0 k1 HC BB4 X4 LA4 LB4 HPA
 have k0 := rowc X5.out.2.1
 have k1 := rowc X5.out.1
 unfold FV.arr at k0
 have HC := hidE (HAL.out w5 BB5.out a3 c3 LA5.out)
 try unfold FV.val FV.arr at HC
 go_wp2_with fail
 refine HC.out.mono ?_
 rintro e w6 ⟨rfl, hb⟩
 have BB6 := hidE (BB5.out.trans (hb.mono BB5.out.size))
 have X6 := hidE (X5.out.next hb)
 have LA6 := hidE (LA5.out.below hb (Nat.le_refl _))
 have LB6 := hidE (LB5.out.below hb (Nat.le_refl _))
 clear hb k0 k1 HC BB5 X5 LA5 LB5 HAL
 have k0 := rowc X6.out.2.1
 have k1 := rowc X6.out.1
 unfold FV.arr at k0
 have HC := hidE (HAH.out w6 BB6.out a4 c4 LB6.out)
 try unfold FV.val FV.arr at HC
 go_wp2_with fail
 refine HC.out.mono ?_
 rintro e w7 ⟨rfl, hb⟩
 have BB7 := hidE (BB6.out.trans (hb.mono BB6.out.size))
 have X7 := hidE (X6.out.next hb)
 have LA7 := hidE (LA6.out.below hb (Nat.le_refl _))
 have LB7 := hidE (LB6.out.below hb (Nat.le_refl _))
 clear hb k0 k1 HC BB6 X6 LA6 LB6 HAH
 obtain ⟨s1, s2, bd0, bd1, bd2, bd3, hav, h1, h2, h3⟩ := HNU.out
 have wa : IntKind.i64.wrap (p1 + p2) = p1 + p2 := IntWalk.i64_in _ (by omega)
 have wb : IntKind.i64.wrap (p1 + p2 + p3) = p1 + p2 + p3 := IntWalk.i64_in _ (by omega)
 have wc : IntKind.i64.wrap (c - a) = c - a := IntWalk.i64_in _ (by omega)
 have d1 : (p1 + p2 + p3 != c - a) = false := by simpa using s1
 have d2 : decide (p2 < 0) = false := by simp; omega
 rcases hav with rfl | rfl | rfl
 ·have r0 : (r == 0) = false := by simpa using fun z => absurd (h1.2 z) (by decide)
  have q0 : (q == 0) = false := by simpa using fun z => absurd (h2.2 z) (by decide)
  have H3 := hidE h3
  have HB1 := hidE (And.intro bd0 (And.intro bd1 bd3))
  clear s1 s2 bd0 bd1 bd2 bd3 h1 h2 h3 HNU
  have k0 := rowc X7.out.2.1
  have k1 := rowc X7.out.1
  unfold FV.arr at k0
  have HC := hidE (HAY.out w7 BB7.out)
  try unfold FV.val FV.arr at HC
  go_wp2_with fail
  refine HC.out.mono ?_
  rintro e w8 ⟨rfl, hb⟩
  have BB8 := hidE (BB7.out.trans (hb.mono BB7.out.size))
  have X8 := hidE (X7.out.next hb)
  have LA8 := hidE (LA7.out.below hb (Nat.le_refl _))
  have LB8 := hidE (LB7.out.below hb (Nat.le_refl _))
  clear hb k0 k1 HC BB7 X7 LA7 LB7 HAY d1 d2 r0 q0
  rcases H3.out with ⟨rfl, rfl, rfl⟩ | ⟨rfl, t1, t2, t3, ⟨t4, t5⟩, t6, t7⟩
  ·clear H3 wa wb wc
   go_wp2_with fail
   refine (HSV.out _).mono ?_
   rintro e wz ⟨rfl, hbz⟩
   have BZ := hidE (B0.out.trans ((BB8.out.trans (hbz.mono BB8.out.size)).mono B0.out.size))
   clear hbz
   go_wp2_with fail
   go_ret
   exact ⟨rfl, BZ.out⟩
  ·have dd : (u + v == c - a) = true := by simpa using t1
   have de : decide (p1 ≤ u) = true := decide_eq_true t2
   have df : decide (p3 ≤ v) = true := decide_eq_true t3
   have wd : IntKind.i64.wrap (u + v) = u + v := IntWalk.i64_in _ (by have := HB1.out; omega)
   clear t1 t2 t3 t4 t5 t6 t7 H3 wa wb HB1
   go_wp2_with fail
   refine (HSV.out _).mono ?_
   rintro e wz ⟨rfl, hbz⟩
   have BZ := hidE (B0.out.trans ((BB8.out.trans (hbz.mono BB8.out.size)).mono B0.out.size))
   have XZ := hidE (X8.out.next hbz)
   have k0 := rowc XZ.out.2.1
   have k1 := rowc XZ.out.1
   unfold FV.arr at k0
   clear hbz
   go_wp2_with fail
   go_ret
   exact ⟨rfl, BZ.out⟩
 ·have r0 : (r == 0) = true := by simpa using h1.1 rfl
  have q0 : (q == 0) = false := by simpa using fun z => absurd (h2.2 z) (by decide)
  have H3 := hidE h3
  have HB1 := hidE (And.intro bd0 (And.intro bd1 bd3))
  clear s1 s2 bd0 bd1 bd2 bd3 h1 h2 h3 HNU
  have k0 := rowc X7.out.2.1
  have k1 := rowc X7.out.1
  unfold FV.arr at k0
  have HC := hidE (HAY.out w7 BB7.out)
  try unfold FV.val FV.arr at HC
  go_wp2_with fail
  refine HC.out.mono ?_
  rintro e w8 ⟨rfl, hb⟩
  have BB8 := hidE (BB7.out.trans (hb.mono BB7.out.size))
  have X8 := hidE (X7.out.next hb)
  have LA8 := hidE (LA7.out.below hb (Nat.le_refl _))
  have LB8 := hidE (LB7.out.below hb (Nat.le_refl _))
  clear hb k0 k1 HC BB7 X7 LA7 LB7 HAY d1 d2 r0 q0
  rcases H3.out with ⟨rfl, rfl, rfl⟩ | ⟨rfl, t1, t2, t3, ⟨t4, t5⟩, t6, t7⟩
  ·clear H3 wa wb wc
   go_wp2_with fail
   refine (HSV.out _).mono ?_
   rintro e wz ⟨rfl, hbz⟩
   have BZ := hidE (B0.out.trans ((BB8.out.trans (hbz.mono BB8.out.size)).mono B0.out.size))
   clear hbz
   go_wp2_with fail
   go_ret
   exact ⟨rfl, BZ.out⟩
  ·have dd : (u + v == c - a) = true := by simpa using t1
   have de : decide (p1 ≤ u) = true := decide_eq_true t2
   have df : decide (p3 ≤ v) = true := decide_eq_true t3
   have dg : (u == 0) = true := by simpa using t6 (by trivial)
   have wd : IntKind.i64.wrap (u + v) = u + v := IntWalk.i64_in _ (by have := HB1.out; omega)
   clear t1 t2 t3 t4 t5 t6 t7 H3 wa wb HB1
   go_wp2_with fail
   refine (HSV.out _).mono ?_
   rintro e wz ⟨rfl, hbz⟩
   have BZ := hidE (B0.out.trans ((BB8.out.trans (hbz.mono BB8.out.size)).mono B0.out.size))
   have XZ := hidE (X8.out.next hbz)
   have k0 := rowc XZ.out.2.1
   have k1 := rowc XZ.out.1
   unfold FV.arr at k0
   clear hbz
   go_wp2_with fail
   go_ret
   exact ⟨rfl, BZ.out⟩
 ·have r0 : (r == 0) = false := by simpa using fun z => absurd (h1.2 z) (by decide)
  have q0 : (q == 0) = true := by simpa using h2.1 rfl
  have H3 := hidE h3
  have HB1 := hidE (And.intro bd0 (And.intro bd1 bd3))
  clear s1 s2 bd0 bd1 bd2 bd3 h1 h2 h3 HNU
  have k0 := rowc X7.out.2.1
  have k1 := rowc X7.out.1
  unfold FV.arr at k0
  have HC := hidE (HAY.out w7 BB7.out)
  try unfold FV.val FV.arr at HC
  go_wp2_with fail
  refine HC.out.mono ?_
  rintro e w8 ⟨rfl, hb⟩
  have BB8 := hidE (BB7.out.trans (hb.mono BB7.out.size))
  have X8 := hidE (X7.out.next hb)
  have LA8 := hidE (LA7.out.below hb (Nat.le_refl _))
  have LB8 := hidE (LB7.out.below hb (Nat.le_refl _))
  clear hb k0 k1 HC BB7 X7 LA7 LB7 HAY d1 d2 r0 q0
  rcases H3.out with ⟨rfl, rfl, rfl⟩ | ⟨rfl, t1, t2, t3, ⟨t4, t5⟩, t6, t7⟩
  ·clear H3 wa wb wc
   go_wp2_with fail
   refine (HSV.out _).mono ?_
   rintro e wz ⟨rfl, hbz⟩
   have BZ := hidE (B0.out.trans ((BB8.out.trans (hbz.mono BB8.out.size)).mono B0.out.size))
   clear hbz
   go_wp2_with fail
   go_ret
   exact ⟨rfl, BZ.out⟩
  ·have dd : (u + v == c - a) = true := by simpa using t1
   have de : decide (p1 ≤ u) = true := decide_eq_true t2
   have df : decide (p3 ≤ v) = true := decide_eq_true t3
   have dg : (v == 0) = true := by simpa using t7 (by trivial)
   have wd : IntKind.i64.wrap (u + v) = u + v := IntWalk.i64_in _ (by have := HB1.out; omega)
   clear t1 t2 t3 t4 t5 t6 t7 H3 wa wb HB1
   go_wp2_with fail
   refine (HSV.out _).mono ?_
   rintro e wz ⟨rfl, hbz⟩
   have BZ := hidE (B0.out.trans ((BB8.out.trans (hbz.mono BB8.out.size)).mono B0.out.size))
   have XZ := hidE (X8.out.next hbz)
   have k0 := rowc XZ.out.2.1
   have k1 := rowc XZ.out.1
   unfold FV.arr at k0
   clear hbz
   go_wp2_with fail
   go_ret
   exact ⟨rfl, BZ.out⟩
end Go.Proofs.YtkhemfnlflbniaaGreatDoor
namespace Go.Proofs.YtkhemfnlflbniaaGreatDoor
open Go Go.ChangeShapes Go.WideShapes Go.ChangeAt Go.RowKit Go.Joins Go.Deep
theorem and2 {a b : Bool} (ha : a = true) (hb : b = true) : (a && b) = true := by rw [ha, hb]; rfl
theorem argOk27 : ArgOk 52 := ⟨by kernel_rfl, of_decide_eq_true (by kernel_rfl)⟩
section
variable {H : Type} {enc : TypeId × Value → H}
theorem trodAll_below {W W' : World} (hb : Below W.heap.size W W') : ∀ (ts : List TypeId) (vs : List Value) (ds : List (DataW H)) (ps : List MemPlace), (∀ t ∈ ts, ArgOk t) → DataW.TrodAll enc Tryz.prog W 0 (fun _ => true) true ts vs ds ps →
 (∀ x ∈ ps, x.block < W.heap.size) → DataW.TrodAll enc Tryz.prog W' 0 (fun b => decide (b < W.heap.size)) true ts vs ds ps
 | [], vs, ds, ps, _, h, _ => by
   obtain ⟨rfl, rfl, rfl⟩ := trodAll_nil h
   exact trodAll_mk0
 | t :: ts, vs, ds, ps, hT, h, hs => by
   obtain ⟨v, vs', d, ds', p, q, rfl, rfl, rfl, h1, h2⟩ := trodAll_cons h
   have ht := hT t (List.mem_cons_self ..)
   exact trodAll_cons_mk (Below.trod Tryz.laidOut ht.1 ht.2 h1 hb (fun x hx => hs x (List.mem_append_left _ hx))) (trodAll_below hb ts vs' ds' q (fun x hx => hT x (List.mem_cons_of_mem _ hx)) h2 (fun x hx => hs x (List.mem_append_right _ hx)))
theorem law_post {f : Func} {s : ChangeSpec} {W W' : World} {args : Array Value} {ds gs : List (DataW H)} {before : List MemPlace}
 (hW : DataW.Whole enc Tryz.prog f.params.toList s.vars false W args.toList ds gs before) (hb : Below W.heap.size W W') (hrt : f.resultTypes = #[4])
 (hts : ∀ t ∈ f.params.toList, ArgOk t) (hsv : s.vars = []) (hfn : s.fn H (ds ++ []) = { results := [.lit (.bool true)], args := ds }) :
 s.post enc Tryz.prog f false true false false W args (.bool true) W' := by
 have hW' := hW
 obtain ⟨p, q, hA, hV, rfl, hfz, hnd⟩ := hW
 have hV' := hV
 rw [hsv] at hV'
 obtain ⟨rfl, rfl⟩ := trodVars_none hV'
 have hlt : ∀ x ∈ p, x.block < W.heap.size := fun x hx => by
  have := hW'.lt x
  exact this (List.mem_append_left _ hx)
 refine ⟨ds, [], p ++ [], [], p, [], hW', ?_, ?_, ?_, hb.frame _, fun h => by cases h⟩
 ·rw [hfn, hrt]
  exact trodAll_cons_mk (shut_bool Tryz.underlying4 _) trodAll_mk0
 ·rw [hfn]
  exact trodAll_below hb _ _ _ _ hts hA hlt
 ·rw [hfn, hsv]
  rfl
theorem ints_trod {W : World} {n : Nat} {cs : List Value} {x : DataW H × List MemPlace} (h : DataW.trod enc Tryz.prog W 0 (fun _ => true) true n 52 cs = some x) :
 ∃ (a : Option Addr) (cap : Nat) (l : List Int), cs = [.slice a l.length cap] ∧ IntsAt W a l ∧ SliceOk a l.length cap ∧ l.length ≤ 9223372036854775807 ∧ ∀ x ∈ l, i64ok x := by
 have c3 : Tryz.prog.cellsOf 3 = 1 := by kernel_rfl
 rcases open_slice1 Tryz.underlying52 c3 h with ⟨h1, _⟩ | ⟨a, len, cap, m, n', V, D, Pl, hcs, _, hl, hm, hmm, _, hx⟩
 ·exact ⟨none, 0, [], h1, .inl rfl, fun _ => ⟨rfl, rfl⟩, by simp, by simp⟩
 ·have hmm' : m = cap := hmm
  obtain ⟨l, hll, hlp⟩ := list_of (p := fun i (k : Int) => W.cell? (a.add i) = some (.int .i64 k) ∧ i64ok k) len (fun i hi => by
   obtain ⟨h1, h2⟩ := hx i (by omega)
   obtain ⟨k, hk, hok⟩ := int_cell h2
   exact ⟨k, by rw [h1, hk], hok⟩)
  have hm2 : cap ≤ 9223372036854775807 := hm
  refine ⟨some a, cap, l, by rw [hcs, hll], ?_, (fun e => by cases e), by omega, fun x hx => ?_⟩
  ·by_cases h0 : len = 0
   ·exact .inl (List.length_eq_zero_iff.1 (by omega))
   ·have z := (hlp 0 (by omega)).1
    have ha : a.spot = none := by
     have := (cell_plain z).1
     unfold Addr.add at this
     simpa using this
    obtain ⟨b, off, sp⟩ := a
    simp only at ha
    subst ha
    refine .inr ⟨b, off, rfl, ?_, fun i hi => ?_⟩
    ·have := (cell_plain z).2
     rw [add_plain] at this; exact this
    ·have := (hlp i hi).1
     rw [add_plain] at this; exact this
  ·obtain ⟨i, hi, rfl⟩ := List.getElem_of_mem hx
   exact (hlp i hi).2
set_option maxRecDepth 100000 in
theorem open_list {b0 : Nat} {W : World} {v : Value} {d : DataW H} {p : List MemPlace} (hv : Value.okWide Tryz.prog W .any b0 52 v) (h : DataW.Trod enc Tryz.prog W 0 (fun _ => true) true 52 v d p) :
 ∃ (a : Option Addr) (cap : Nat) (l : List Int), v = .slice a l.length cap ∧ IntsAt W a l ∧ SliceOk a l.length cap ∧ l.length ≤ 9223372036854775807 ∧ ∀ x ∈ l, i64ok x := by
 obtain ⟨n, hn⟩ := h
 obtain ⟨a, cap, l, h1, h2⟩ := ints_trod hn
 have hc : v = .slice a l.length cap := by
  have hs := okWide_slice Tryz.underlying52 hv
  obtain ⟨a', n', c', rfl⟩ := hs
  simpa [Value.cells] using h1
 exact ⟨a, cap, l, hc, h2⟩
end
theorem argOk46 : ArgOk 27 := ⟨by kernel_rfl, of_decide_eq_true (by kernel_rfl)⟩
section
variable {H : Type} {enc : TypeId × Value → H}
theorem sta_trod {W : World} {n : Nat} {cs : List Value} {y : DataW H × List MemPlace} (hl : cs.length = 2) (h : DataW.trod enc Tryz.prog W 0 (fun _ => true) true n 131 cs = some y) : ∃ s : Sta, cs = s.cells ∧ s.name.size ≤ 9223372036854775807 ∧ i64ok s.x := by
 have c9 : Tryz.prog.cellsOf 9 = 1 := by kernel_rfl
 have c3 : Tryz.prog.cellsOf 3 = 1 := by kernel_rfl
 match cs, hl with
 | [u0, u1], _ =>
   obtain ⟨ys, n2, _, _, _, hyl, hf⟩ := DataW.trod_struct Tryz.underlying131 h
   match ys, hyl with
   | [y0, y1], _ =>
     have f0 : DataW.trod enc Tryz.prog W 0 (fun _ => true) true n2 9 (([u0, u1].drop 0).take (Tryz.prog.cellsOf 9)) = some y0 := hf 0 _ rfl
     have f1 : DataW.trod enc Tryz.prog W 0 (fun _ => true) true n2 3 (([u0, u1].drop 1).take (Tryz.prog.cellsOf 3)) = some y1 := hf 1 _ rfl
     rw [c9] at f0
     rw [c3] at f1
     obtain ⟨k0, rfl, o0⟩ := str_cell (v := u0) (y := y0) f0
     obtain ⟨k1, rfl, o1⟩ := int_cell (v := u1) (y := y1) f1
     exact ⟨⟨k0, k1⟩, rfl, o0, o1⟩
theorem par_trod {W : World} {n : Nat} {cs : List Value} {y : DataW H × List MemPlace} (hl : cs.length = 4) (h : DataW.trod enc Tryz.prog W 0 (fun _ => true) true n 133 cs = some y) : ∃ s : Par, cs = s.cells ∧ s.name.size ≤ 9223372036854775807 ∧ i64ok s.south ∧ i64ok s.wst ∧ i64ok s.est := by
 have c9 : Tryz.prog.cellsOf 9 = 1 := by kernel_rfl
 have c3 : Tryz.prog.cellsOf 3 = 1 := by kernel_rfl
 match cs, hl with
 | [u0, u1, u2, u3], _ =>
   obtain ⟨ys, n2, _, _, _, hyl, hf⟩ := DataW.trod_struct Tryz.underlying133 h
   match ys, hyl with
   | [y0, y1, y2, y3], _ =>
     have f0 : DataW.trod enc Tryz.prog W 0 (fun _ => true) true n2 9 (([u0, u1, u2, u3].drop 0).take (Tryz.prog.cellsOf 9)) = some y0 := hf 0 _ rfl
     have f1 : DataW.trod enc Tryz.prog W 0 (fun _ => true) true n2 3 (([u0, u1, u2, u3].drop 1).take (Tryz.prog.cellsOf 3)) = some y1 := hf 1 _ rfl
     have f2 : DataW.trod enc Tryz.prog W 0 (fun _ => true) true n2 3 (([u0, u1, u2, u3].drop 2).take (Tryz.prog.cellsOf 3)) = some y2 := hf 2 _ rfl
     have f3 : DataW.trod enc Tryz.prog W 0 (fun _ => true) true n2 3 (([u0, u1, u2, u3].drop 3).take (Tryz.prog.cellsOf 3)) = some y3 := hf 3 _ rfl
     rw [c9] at f0
     rw [c3] at f1 f2 f3
     obtain ⟨k0, rfl, o0⟩ := str_cell (v := u0) (y := y0) f0
     obtain ⟨k1, rfl, o1⟩ := int_cell (v := u1) (y := y1) f1
     obtain ⟨k2, rfl, o2⟩ := int_cell (v := u2) (y := y2) f2
     obtain ⟨k3, rfl, o3⟩ := int_cell (v := u3) (y := y3) f3
     exact ⟨⟨k0, k1, k2, k3⟩, rfl, o0, o1, o2, o3⟩
theorem vrn_trod {W : World} {n : Nat} {cs : List Value} {y : DataW H × List MemPlace} (hl : cs.length = 2) (h : DataW.trod enc Tryz.prog W 0 (fun _ => true) true n 253 cs = some y) : ∃ s : Vrn, cs = s.cells ∧ i64ok s.year ∧ i64ok s.east := by
 have c3 : Tryz.prog.cellsOf 3 = 1 := by kernel_rfl
 match cs, hl with
 | [u0, u1], _ =>
   obtain ⟨ys, n2, _, _, _, hyl, hf⟩ := DataW.trod_struct Tryz.underlying253 h
   match ys, hyl with
   | [y0, y1], _ =>
     have f0 : DataW.trod enc Tryz.prog W 0 (fun _ => true) true n2 3 (([u0, u1].drop 0).take (Tryz.prog.cellsOf 3)) = some y0 := hf 0 _ rfl
     have f1 : DataW.trod enc Tryz.prog W 0 (fun _ => true) true n2 3 (([u0, u1].drop 1).take (Tryz.prog.cellsOf 3)) = some y1 := hf 1 _ rfl
     rw [c3] at f0 f1
     obtain ⟨k0, rfl, o0⟩ := int_cell (v := u0) (y := y0) f0
     obtain ⟨k1, rfl, o1⟩ := int_cell (v := u1) (y := y1) f1
     exact ⟨⟨k0, k1⟩, rfl, o0, o1⟩
set_option maxRecDepth 100000 in
theorem open_fld {b0 : Nat} {W : World} {v : Value} {d : DataW H} {p : List MemPlace} (hv : Value.okWide Tryz.prog W .any b0 27 v) (h : DataW.Trod enc Tryz.prog W 0 (fun _ => true) true 27 v d p) :
 ∃ (x : FV) (F : Fld), v = x.val F ∧ FldAt W x F := by
 obtain ⟨v0, v1, v2, v3, y0, y1, y2, y3, n, rfl, _, _, h0, h1, h2, h3⟩ := open_agg4 Tryz.underlying27 (by kernel_rfl) (by kernel_rfl) hv h
 obtain ⟨aS, cS, sts, e0, r0, l0, k0⟩ := recs_trod (k := 2) (f := Sta.cells) (by omega) Tryz.underlying22 (by kernel_rfl) (fun n cs y hl hh => sta_trod hl hh) h0
 obtain ⟨aL, cL, lms, e1, r1, l1, k1⟩ := recs_trod (k := 1) (f := strCells) (by omega) Tryz.underlying23 (by kernel_rfl) (fun n cs y hl hh => by
  match cs, hl with
  | [u], _ =>
    obtain ⟨s, rfl, hs⟩ := str_cell hh
    exact ⟨s, rfl, hs⟩) h1
 obtain ⟨aP, cP, prs, e2, r2, l2, k2⟩ := recs_trod (k := 4) (f := Par.cells) (by omega) Tryz.underlying24 (by kernel_rfl) (fun n cs y hl hh => par_trod hl hh) h2
 obtain ⟨aV, cV, vrs, e3, r3, l3, k3⟩ := recs_trod (k := 2) (f := Vrn.cells) (by omega) Tryz.underlying25 (by kernel_rfl) (fun n cs y hl hh => vrn_trod hl hh) h3
 simp only [List.cons.injEq, and_true] at e0 e1 e2 e3
 subst e0 e1 e2 e3
 refine ⟨⟨aS, cS, aL, cL, aP, cP, aV, cV⟩, ⟨sts, lms, prs, vrs⟩, rfl, r0, r1, r2, r3, l0, l1, l2, l3, ?_, fun s hs => (k0 s hs).2, fun s hs => (k2 s hs).2, k3⟩
 intro l hl s hs
 simp only [Fld.names, List.mem_cons, List.not_mem_nil, or_false] at hl
 rcases hl with rfl | rfl | rfl
 ·obtain ⟨t, ht, rfl⟩ := List.mem_map.1 hs
  exact (k0 t ht).1
 ·exact k1 s hs
 ·obtain ⟨t, ht, rfl⟩ := List.mem_map.1 hs
  exact (k2 t ht).1
end
end Go.Proofs.YtkhemfnlflbniaaGreatDoor
