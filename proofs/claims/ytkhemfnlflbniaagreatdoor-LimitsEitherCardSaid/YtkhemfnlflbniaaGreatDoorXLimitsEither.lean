/- What the law LimitsEither needs beyond the base: PureG, Wo, Wi2, Ww, PlH, PlK, PlQ, Y2, Lm2, Lm3, Lm4, Lm6, Lm10, PlN, Yk, E23, E39, E40, E42, E43, E44, E41, E45, E46, E25, E35, Lp1, F6, Fr, Frf. No conditions beyond those stated. -/
import Derived.Test.YtkhemfnlflbniaaGreatDoorB03
import Derived.Test.YtkhemfnlflbniaaGreatDoorB02
import Derived.Test.YtkhemfnlflbniaaGreatDoorB01
import Derived.Test.YtkhemfnlflbniaaGreatDoorProg
import Derived.WalkKit
import Derived.Handy
import Derived.RangeFuncRecord
import Derived.Shelf.Abstract
import Derived.Deep.QuietTactic
import Derived.BigQuiet
import Derived.Laws.CopyOwn
import Derived.WalkSmall
import Derived.RangeFuncNested
import Derived.RangeFuncBound
import Derived.RangeFuncCalls
import Derived.RangeFuncLeaves
import Derived.Shelf.RegionOpen
import Derived.OwnWalkIn
import Derived.TacticsInMore
import Derived.LoopNIn
import Derived.LoopIn
import Derived.Maps.AppendAt
import Derived.Deep.Onto
import Derived.OrdersHeld
import Derived.Deep.LoopGhost
import Derived.Deep.WholeRow
import Derived.Deep.OwnRows
import Derived.StillTailTactics
import Derived.Great.Walk
import Derived.Great.BuildSlice
import Derived.Test.YtkhemfnlflbniaaGreatDoorB05
import Derived.Test.YtkhemfnlflbniaaGreatDoorB04
import Derived.WalkMore
import Derived.Deep.MidRow
import Derived.Deep.RegionHeld3
import Derived.Deep.DeepCutAuto
import Derived.Shelf.Small.Bits
import Derived.Shelf.Strconv.Itoa0
import Derived.Shelf.Sort.Plain
import Derived.Shelf.Slices.Turned
import Derived.Ground.Names2Prog
import Derived.Shelf.Slices.CompactI
import Derived.Shelf.Slices.SearchI
import Derived.Shelf.Slices.Cells
import Derived.Shelf.Slices.In.SortNone
import Derived.Lib.OwnBridge
import Derived.Lib.SliceRun
import Derived.WalkSpells
import Derived.Deep.RegionWith
import Derived.Test.YtkhemfnlflbniaaGreatDoorB06
import Derived.Test.YtkhemfnlflbniaaGreatDoorB07
import Derived.Lib.AppendZerosOnto
import Derived.Deep.CutBlock
import Derived.Test.YtkhemfnlflbniaaGreatDoorB09
import Derived.Test.YtkhemfnlflbniaaGreatDoorB08
import Derived.IntWalk
import Derived.Test.YtkhemfnlflbniaaGreatDoorB10
import Derived.Test.YtkhemfnlflbniaaGreatDoorB13
import Derived.Test.YtkhemfnlflbniaaGreatDoorB12
import Derived.Test.YtkhemfnlflbniaaGreatDoorB11
import Derived.Deep.Cut
import Derived.Laws.Rows
import Derived.Laws.Tables
import Derived.Laws.StructEq
import Derived.OrdersIn
import Derived.RangeFuncBox
import Derived.Test.YtkhemfnlflbniaaGreatDoorB15
import Derived.Test.YtkhemfnlflbniaaGreatDoorB14
import Derived.Test.YtkhemfnlflbniaaGreatDoorRows
import Derived.ProofKit
import Derived.OpenShut
import Derived.Carry
import Derived.Lib.SmallJoins
import Derived.Deep.Slices
import Derived.ChangeMaps5
namespace Go.Proofs.YtkhemfnlflbniaaGreatDoor
theorem asked0 {N : Int} {bs : List Bd} (h : askedE N bs [] = 0) : ∃ (R : Nat) (t : List Int), N = R ∧ openedP N bs = some t ∧ NetOk R bs t := by
 obtain ⟨hc, hp, t, ht⟩ := askedE_zero h
 obtain ⟨n0, n1, n2, nv⟩ := checkP_zero hc
 obtain ⟨R, rfl⟩ := Int.eq_ofNat_of_zero_le (show 0 ≤ N by omega)
 exact ⟨R, t, rfl, ht, netOk_of_asked h ht⟩
def tableP (N : Nat) (t : List Int) (bs : List Bd) : List (List Int) := (List.range N).map fun (a : Nat) => distP N t bs (a : Int)
theorem tableP_get (N : Nat) (t : List Int) (bs : List Bd) {a : Nat} (h : a < N) : (tableP N t bs).getD a [] = distP N t bs a := by
 simp [tableP, List.getD_eq_getElem?_getD, h]
theorem tableP_length (N : Nat) (t : List Int) (bs : List Bd) : (tableP N t bs).length = N := by simp [tableP]
def tget (T : List (List Int)) (a b : Nat) : Int := (T.getD a []).getD b 0
end Go.Proofs.YtkhemfnlflbniaaGreatDoor
namespace Go.Proofs.YtkhemfnlflbniaaGreatDoor
open Go Go.RowKit Go.Shelf
theorem map_range_succ {α : Type} (f : Nat → α) (k : Nat) : (List.range (k + 1)).map f = (List.range k).map f ++ [f k] := by rw [List.range_succ, List.map_append]; rfl
set_option maxRecDepth 100000 in
set_option maxHeartbeats 2000000 in
theorem table_any (w : World) (bn R : Nat) (a : Option Addr) (cap : Nat) (bs : List Bd) (t : List Int) (HO : NetOk R bs t) (hB : BoundsAt w a bs) (hn : w.heap[bn]? = some (.cells (netA R (.slice a bs.length cap) t) 265 (0,0))) :
 Calls Tryz.prog 246 #[.pointer (some ⟨bn, 0, none⟩)] w fun e w' => ∃ v, e = .returned v ∧ Below w.heap.size w w' ∧ w'.ownsRow w.heap.size 189 128 v R (flatR (tableP R t bs)) := by
 have dn : ∀ q, q < R → ∀ W, Below w.heap.size w W → Calls Tryz.prog 191 #[.pointer (some ⟨bn, 0, none⟩), .int .i64 (q : Int), .func (.func 152) #[] #[]] W fun e W' => e = .returned (.agg (rowA (distP R t bs q))) ∧ Below W.heap.size W W' :=
  fun q hq W hb => dist_net W bn R a cap bs t q HO hq (hB.below hb (Nat.le_refl _)) (blk_below hb (lt_of_block hn) hn)
 have hn1 := HO.n1
 have hrl : ∀ q, q < R → (distP R t bs q).length = 128 := fun q hq => (HO.row hq).1
 have e0 : w.cell? ⟨bn, 0, none⟩ = some (.int .i64 (R : Int)) := c_e hn rfl
 have hbn := lt_of_block hn
 have DN := hidE dn
 have HRL := hidE hrl
 clear dn hrl hB hn
 go_enter Tryz.func246, Tryz.ntmps246
 go_wp2_with fail
 go_loopw [3, 10] (fun v i wr => ∃ k : Nat, k ≤ R ∧ i = .int .i64 k ∧ Hid (wr.ownsRow w.heap.size 189 128 v k (flatR ((List.range k).map fun (q : Nat) => distP R t bs q))) ∧ Below w.heap.size w wr)
  (fun _ i _ => R - (intOf i).toNat)
 case atStart => exact ⟨0, Nat.zero_le _, rfl, hidE (World.ownsRow_nil _ _ _ _), by go_grown⟩
 case round =>
  obtain ⟨k, hk, rfl, hown, hb⟩ := hrel
  by_cases hlt : k < R
  ·have hcall := DN.out k hlt wr hb
   obtain ⟨r, hr⟩ : ∃ r, distP R t bs k = r := ⟨_, rfl⟩
   have hrl := HRL.out k hlt
   rw [hr] at hcall hrl
   have hbr : Hid (Tryz.prog.builtSlice 189 1 [(0, .agg (rowA r))] = some (rowA r)) := hidE (builtRow hrl)
   have HR := hidE hr
   have HC := hidE hcall
   have HL := hidE hrl
   clear hr hcall hrl
   go_wp2_with fail
   refine HC.out.mono ?_
   rintro e w1 ⟨rfl, hb1⟩
   have hv : ∀ g, u3.ownBlock = some g → g < wr.heap.size := fun g e => by
    rcases hown.out.2 with ⟨e1, _⟩ | ⟨g1, cp', cu, e1, _, hh, _⟩
    ·rw [e1] at e; simp [Value.ownBlock] at e
    ·rw [e1] at e
     simp only [Value.ownBlock, Option.some.injEq] at e
     subst e
     exact lt_of_block hh
   have own1 : w1.ownsRow w.heap.size 189 128 u3 k (flatR ((List.range k).map fun (q : Nat) => distP R t bs q)) := ownsRow_of_block hown.out (fun g e => hb1.block g (hv g e))
   obtain ⟨i0, hi, hz0, hz1, hz2⟩ := info_parts info94
   have hsz := Nat.le_trans hb.size hb1.size
   obtain ⟨v', wa, hrun, hown', hgrow, hnil, hblk⟩ := run_append_own_at (P := Tryz.prog) (w1.alloc (Obj.cells (rowA r) 189)) w.heap.size 185 185 189 i0 _ 128 1024 Tryz.underlying185 hi hz0 hz1 hz2 rfl (by decide) u3 _ _
    (own1.alloc _) ⟨w1.heap.size, 0, none⟩ 1 1 (intsV r) (by simp [intsV, HL.out]) (by
     intro j u hj
     rw [show ((⟨w1.heap.size, 0, none⟩ : Addr).add j) = ⟨w1.heap.size, 0 + j, none⟩ from by unfold Addr.add; split <;> simp_all]
     rw [cell_of_row _ _ _ _ _ _ (heap_alloc_new w1 _), Nat.zero_add]
     simpa [rowA] using hj) (by intro u hu; simp [intsV] at hu; obtain ⟨q, _, rfl⟩ := hu; rfl) (by unfold maxLen; omega) (by omega) (by simp; omega)
   have HRUN := hidE hrun
   have HOWN := hidE hown'
   have hb2 : Below w.heap.size w wa := ((hb.trans (hb1.mono hb.size)).alloc hsz _).grown hgrow (by simp; omega) (fun q e => by
    rcases own1.2 with ⟨e1, _⟩ | ⟨g1, cp', cu, e1, hge, hh, _⟩
    ·rw [e1] at e; simp [Value.ownBlock] at e
    ·rw [e1] at e
     simp only [Value.ownBlock, Option.some.injEq] at e
     omega)
   have HB2 := hidE hb2
   clear hrun hown' hgrow hnil hblk hb2 own1 hv hb1 hown hsz
   go_wp2_with (first
    | (refine Great.wpList_buildSliceTo rfl 185 189 1 _ rfl _ rfl _ rfl Tryz.underlying185 _ (by simp [Act.eval]; exact hbr.out) ?_)
    | (at_builtin; refine wpList_op_append rfl (s := .tmp 13) (x := .tmp 17) (t := 185) rfl rfl rfl HRUN.out ?_))
   go_roundw
   case rel => exact ⟨k + 1, by omega, by go_num, hidE (by rw [map_range_succ, flatR_append, flatR_one, HR.out]; exact HOWN.out), HB2.out⟩
   case measure => simp [intOf]; omega
  ·obtain rfl : k = R := by omega
   go_wp2_with fail
   go_ret
   exact ⟨_, rfl, hb, hown.out⟩
theorem wpListIn_of_wpList {P : Program} {ops : Array Oper} {Q : Exit → Act → World → Prop} (l n : Nat) (hout : ¬ LetsOut Q) : ∀ (ls : List Oper) (_ : ∀ o ∈ ls, ∀ c, o.op ≠ .defer c) (a : Act) (w : World), wpList P ops Q ls a w → wpListIn (Fence.wide.inRound l) n P ops Q ls a w
 | [], _, _, _, h => h
 | o :: rest, hnd, a, w, h => by
   have ih := wpListIn_of_wpList (P := P) (ops := ops) l n hout rest (fun x hx => hnd x (List.mem_cons_of_mem _ hx))
   unfold wpList at h
   unfold wpListIn
   split
   ·rename_i hw
    rw [if_pos hw] at h
    refine operIn_of_oper l n (hnd o (List.mem_cons_self ..)) hout ?_
    rcases h with h | h
    ·exact .inl (Oper.wp_mono ih h)
    ·exact .inr h
   ·rename_i hw
    rw [if_neg hw] at h
    exact ⟨fun _ _ => trivial, ih _ _ h⟩
theorem recordsP_len (bs : List Bd) : (recordsP bs).length ≤ bs.length := by
 unfold recordsP
 have := Lib.compact_length_le (sortP (rcds bs))
 have := sortP_length (rcds bs)
 have := rcds_len bs
 omega
end Go.Proofs.YtkhemfnlflbniaaGreatDoor
namespace Go.Proofs.YtkhemfnlflbniaaGreatDoor
open Go
theorem compactUpTo_asc (d : Array Int) (hs : ∀ i j, i ≤ j → j < d.size → d[i]! ≤ d[j]!) : ∀ m, m ≤ d.size → (Lib.compactUpTo d m).Pairwise (· < ·) ∧ ∀ x, x ∈ Lib.compactUpTo d m ↔ ∃ j, j < m ∧ d[j]! = x
 | 0, _ => by simp [Lib.compactUpTo]
 | m + 1, hm => by
   obtain ⟨h1, h2⟩ := compactUpTo_asc d hs m (by omega)
   rw [Lib.compactUpTo_succ]
   by_cases hk : Lib.keeps d m = true
   ·rw [if_pos hk]
    refine ⟨?_, fun x => ?_⟩
    ·rw [List.pairwise_append]
     refine ⟨h1, by simp, fun x hx y hy => ?_⟩
     rw [List.mem_singleton.1 hy]
     obtain ⟨j, hj, rfl⟩ := (h2 x).1 hx
     have hk2 := of_decide_eq_true hk
     rcases hk2 with e | e
     ·omega
     ·have := hs j (m - 1) (by omega) (by omega)
      have := hs (m - 1) m (by omega) (by omega)
      omega
    ·rw [List.mem_append, h2 x, List.mem_singleton]
     constructor
     ·rintro (⟨j, hj, e⟩ | e)
      ·exact ⟨j, by omega, e⟩
      ·exact ⟨m, by omega, e.symm⟩
     ·rintro ⟨j, hj, e⟩
      by_cases he : j = m
      ·subst he; exact .inr e.symm
      ·exact .inl ⟨j, by omega, e⟩
   ·rw [if_neg hk, List.append_nil]
    refine ⟨h1, fun x => ?_⟩
    rw [h2 x]
    have hk2 : ¬ (m = 0 ∨ d[m]! ≠ d[m - 1]!) := fun e => hk (decide_eq_true e)
    have hk3 : m ≠ 0 ∧ d[m]! = d[m - 1]! := ⟨fun e => hk2 (.inl e), Classical.byContradiction fun e => hk2 (.inr e)⟩
    constructor
    ·rintro ⟨j, hj, e⟩; exact ⟨j, by omega, e⟩
    ·rintro ⟨j, hj, e⟩
     by_cases he : j = m
     ·subst he; exact ⟨j - 1, by omega, by rw [← e, hk3.2]⟩
     ·exact ⟨j, by omega, e⟩
theorem compact_asc {l : List Int} (hs : l.Pairwise (· ≤ ·)) : (Lib.compact l).Pairwise (· < ·) ∧ ∀ x, x ∈ Lib.compact l ↔ x ∈ l := by
 have hs' : ∀ i j, i ≤ j → j < l.toArray.size → l.toArray[i]! ≤ l.toArray[j]! := by
  intro i j hij hj
  have hj' : j < l.length := by simpa using hj
  rw [List.getElem!_toArray, List.getElem!_toArray, getElem!_pos l i (by omega), getElem!_pos l j hj']
  rcases Nat.lt_or_eq_of_le hij with h | h
  ·exact List.pairwise_iff_getElem.1 hs i j (by omega) hj' h
  ·subst h; exact Int.le_refl _
 obtain ⟨h1, h2⟩ := compactUpTo_asc l.toArray hs' l.length (by simp)
 refine ⟨h1, fun x => (h2 x).trans ⟨?_, ?_⟩⟩
 ·rintro ⟨j, hj, rfl⟩
  rw [List.getElem!_toArray, getElem!_pos l j hj]; exact List.getElem_mem _
 ·intro hx
  obtain ⟨j, hj, e⟩ := List.mem_iff_getElem.1 hx
  exact ⟨j, hj, by rw [List.getElem!_toArray, getElem!_pos l j hj, e]⟩
theorem mem_sortP {l : List Int} {x : Int} : x ∈ sortP l ↔ x ∈ l := by unfold sortP; exact List.mem_mergeSort
theorem recordsP_asc (bs : List Bd) : (recordsP bs).Pairwise (· < ·) := (compact_asc (sortP_le _)).1
theorem mem_recordsP {bs : List Bd} {x : Int} : x ∈ recordsP bs ↔ ∃ b ∈ bs, 0 < b.rcd ∧ b.rcd = x := by
 unfold recordsP
 rw [(compact_asc (sortP_le _)).2, mem_sortP]
 unfold rcds
 simp only [List.mem_map, List.mem_filter, decide_eq_true_eq, and_assoc]
end Go.Proofs.YtkhemfnlflbniaaGreatDoor
namespace Go.Proofs.YtkhemfnlflbniaaGreatDoor
theorem nV_near {v : Int} (h : v < farI) : nV v = v := by unfold nV; unfold farI at h; rw [if_neg (by omega)]
def valuesB (N : Int) (y : List Int) : Bool := decide ((y.length : Int) = N) && (y.getD 0 0 == 0) && !(y.any fun v => !inR v (-400000000) 400000000)
def keptB (y : List Int) (b : Bd) : Bool := decide (b.most < getI y b.dst - getI y b.src)
def keptE (N : Int) (bs : List Bd) (y : List Int) : Int × Bool × Int :=
 if checkP N bs ≠ 0 then (0, false, checkP N bs) else if valuesB N y = false then (0, false, 1) else (max (idxOf (keptB y) bs) 0, decide (idxOf (keptB y) bs < 0), 0)
theorem valuesB_iff {N : Nat} {y : List Int} : valuesB N y = true ↔ y.length = N ∧ y.getD 0 0 = 0 ∧ ∀ v ∈ y, -400000000 ≤ v ∧ v ≤ 400000000 := by
 unfold valuesB
 simp only [Bool.and_eq_true, decide_eq_true_eq, beq_iff_eq, Bool.not_eq_true', List.any_eq_false, and_assoc]
 constructor
 ·rintro ⟨h1, h2, h3⟩; exact ⟨by omega, h2, fun v hv => inR_true.1 (by simpa using h3 v hv)⟩
 ·rintro ⟨h1, h2, h3⟩; exact ⟨by omega, h2, fun v hv => by simp [inR_true.2 (h3 v hv)]⟩
theorem kept_pot {bs : List Bd} {y : List Int} : idxOf (keptB y) bs < 0 ↔ Pot y bs := by
 rw [idxOf_neg]
 unfold Pot keptB
 simp only [List.any_eq_false, decide_eq_true_eq]
 constructor
 ·intro h b hb; have := h b hb; omega
 ·intro h b hb; have := h b hb; omega
theorem keptE_iff {N : Nat} {bs : List Bd} {y : List Int} (hc : checkP N bs = 0) : (keptE N bs y).2.1 = true ↔ Keeps N bs y := by
 unfold keptE
 rw [if_neg (by simp [hc])]
 split
 ·rename_i h
  constructor
  ·intro e; simp at e
  ·intro k; rw [valuesB_iff.2 ⟨k.len, k.zero, k.bd⟩] at h; simp at h
 ·rename_i h
  have h2 := valuesB_iff.1 (by simpa using h)
  simp only [decide_eq_true_eq]
  rw [kept_pot]
  exact ⟨fun p => ⟨h2.1, h2.2.1, h2.2.2, p⟩, fun k => k.pot⟩
theorem keptE_err {N : Nat} {bs : List Bd} {y : List Int} (hc : checkP N bs = 0) (h : (keptE N bs y).2.1 = true) : (keptE N bs y).2.2 = 0 ∧ (keptE N bs y).1 = 0 := by
 unfold keptE at h ⊢
 rw [if_neg (by simp [hc])] at h ⊢
 split at h
 ·simp at h
 ·rename_i h2
  rw [if_neg h2]
  simp only [decide_eq_true_eq] at h
  exact ⟨rfl, by simp only; omega⟩
def extremeE (N : Int) (bs : List Bd) (d : Nat → Int) (v : List Int) : List Int × Int :=
 if askedE N bs [] = 0 then (if (List.range N.toNat).any (fun p => !nB (d p)) then ([], 5) else (v, 0)) else ([], askedE N bs [])
def greatestE (N : Int) (bs : List Bd) : List Int × Int := extremeE N bs (fun p => distN N.toNat bs 0 p) (highV N.toNat bs)
def leastE (N : Int) (bs : List Bd) : List Int × Int := extremeE N bs (fun p => distN N.toNat bs p 0) (lowV N.toNat bs)
end Go.Proofs.YtkhemfnlflbniaaGreatDoor
namespace Go.Proofs.YtkhemfnlflbniaaGreatDoor
open Go Go.RowKit Go.Shelf
theorem within_at {n a b : Int} {r : Bool} (h : inR n a b = r) (w : World) : Calls Tryz.prog 232 #[.int .i64 n, .int .i64 a, .int .i64 b] w fun e w' => e = .returned (.bool r) ∧ w = w' := by
 rw [← h]; exact within_any n a b w
theorem values1_any (w : World) (v : Int) : Calls Tryz.prog 282 #[.int .i64 v] w fun e w' => e = .returned (.bool (!inR v (-400000000) 400000000)) ∧ w = w' := by
 obtain ⟨r, hr⟩ : ∃ r, inR v (-400000000) 400000000 = r := ⟨_, rfl⟩
 rw [hr]
 have HR := hidE hr
 clear hr
 go_enter Tryz.func282, Tryz.ntmps282
 go_wp2_with (go_at_call 232; refine (within_at HR.out _).mono ?_; rintro e w' ⟨rfl, rfl⟩)
 go_ret
 exact ⟨rfl, rfl⟩
set_option maxHeartbeats 400000 in
theorem values_any (w : World) (N : Int) (sv : Value) (a : Option Addr) (cap : Nat) (y : List Int) (hN0 : 1 ≤ N) (hN1 : N ≤ 128) (hl : y.length ≤ 9223372036854775807) (h : IntsAt w a y) :
 Calls Tryz.prog 247 #[.agg #[.int .i64 N, sv], .slice a y.length cap] w fun e w' => e = .returned (.bool (valuesB N y)) ∧ Below w.heap.size w w' := by
 by_cases h1 : (y.length : Int) = N
 ·have h1b : ((y.length : Int) == N) = true := by simpa using h1
  have hlt : 0 < y.length := by omega
  obtain ⟨b, off, rfl, hbl, hc⟩ := h.at hlt
  have hg : y.getD 0 0 = y[0] := getD_get y 0 hlt
  obtain ⟨v, hv⟩ : ∃ v, y[0] = v := ⟨_, rfl⟩
  rw [hv] at hc hg
  rw [Nat.add_zero] at hc
  by_cases h2 : v = 0
  ·have h2b : (v == 0) = true := by simpa using h2
   have hq := containsFuncInts_any (w.alloc (.cells #[.int .i64 N, sv] 61)) (some ⟨b, off, none⟩) cap y 282 #[] (fun v => !inR v (-400000000) 400000000) hl (h.alloc _) (fun k hk W hb => (values1_any W y[k]).mono fun _ _ ⟨he, hw⟩ => ⟨he, hw ▸ Below.refl _ _⟩) (enters_of Tryz.func282 (by kernel_rfl) rfl)
   have hval : valuesB N y = !(y.any fun v => !inR v (-400000000) 400000000) := by unfold valuesB; rw [hg, h1]; simp [h2]
   obtain ⟨r, hr⟩ : ∃ r, (y.any fun v => !inR v (-400000000) 400000000) = r := ⟨_, rfl⟩
   rw [hr] at hq hval
   have HQ := hidE hq
   have HV := hidE hval
   clear hq hval hr hg hv h1 h2 h
   go_enter Tryz.func247, Tryz.ntmps247
   go_wp2_with fail
   refine HQ.out.mono ?_
   rintro e w1 ⟨rfl, hb1⟩
   go_wp2_with fail
   go_ret
   exact ⟨by rw [HV.out]; rfl, ((Below.refl _ _).alloc (Nat.le_refl _) _).trans (hb1.mono (by simp))⟩
  ·have h2b : (v == 0) = false := by simpa using h2
   have hval : valuesB N y = false := by unfold valuesB; rw [hg]; simp [h2]
   have HV := hidE hval
   clear hval hg hv h1 h2 h
   go_enter Tryz.func247, Tryz.ntmps247
   go_wp2_with fail
   go_ret
   exact ⟨by rw [HV.out]; rfl, by go_grown⟩
 ·have h1b : ((y.length : Int) == N) = false := by simpa using h1
  have hval : valuesB N y = false := by unfold valuesB; simp [h1]
  have HV := hidE hval
  clear hval h1 h
  go_enter Tryz.func247, Tryz.ntmps247
  go_wp2_with fail
  go_ret
  exact ⟨by rw [HV.out]; rfl, by go_grown⟩
set_option maxHeartbeats 400000 in
theorem kept1_any (w : World) (b : Bd) (N bl : Nat) (a : Option Addr) (cap : Nat) (y : List Int) (hb : b.valid N) (hN : y.length = N) (_hN1 : N ≤ 128) (hv : ∀ v ∈ y, -400000000 ≤ v ∧ v ≤ 400000000) (h : IntsAt w a y) (hc : w.cell? ⟨bl, 0, none⟩ = some (.slice a y.length cap)) (hbl : bl < w.heap.size) :
 Calls Tryz.prog 249 #[b.val, .pointer (some ⟨bl, 0, none⟩)] w fun e w' => e = .returned (.bool (keptB y b)) ∧ Below w.heap.size w w' := by
 obtain ⟨v1, v2, v3, v4, v5, v6⟩ := hb
 obtain ⟨ys, yd, ym, yr⟩ := b
 simp only at v1 v2 v3 v4 v5 v6
 obtain ⟨si, rfl⟩ := Int.eq_ofNat_of_zero_le v1
 obtain ⟨di, rfl⟩ := Int.eq_ofNat_of_zero_le v3
 have hs : si < y.length := by omega
 have hd : di < y.length := by omega
 obtain ⟨b, off, rfl, hbw, hcs⟩ := h.at hs
 obtain ⟨b', off', e', _, hcd⟩ := h.at hd
 cases e'
 have q1 := hv y[si] (List.getElem_mem _)
 have q2 := hv y[di] (List.getElem_mem _)
 have hkb : keptB y ⟨si, di, ym, yr⟩ = decide (ym < y[di] - y[si]) := by
  unfold keptB getI
  rw [decide_eq_decide]
  simp only [Int.toNat_natCast]
  rw [getD_get y 0 hs, getD_get y 0 hd]
 obtain ⟨x, hx⟩ : ∃ x, y[si] = x := ⟨_, rfl⟩
 obtain ⟨z, hz⟩ : ∃ z, y[di] = z := ⟨_, rfl⟩
 rw [hx, hz] at hkb
 rw [hx] at hcs q1
 rw [hz] at hcd q2
 have s0 : (si : Int) < y.length := by omega
 have d0 : (di : Int) < y.length := by omega
 have hw1 : IntKind.i64.wrap (z - x) = z - x := IntWalk.i64_in _ (by omega)
 have HK := hidE hkb
 have hbl1 : bl < w.heap.size + 1 := by omega
 clear hkb hx hz hN h hv hbw
 unfold Bd.val
 go_enter Tryz.func249, Tryz.ntmps249
 go_wp2_with fail
 go_quiet (fail)
 go_wp2_with fail
 go_ret
 exact ⟨by rw [HK.out]; rfl, ((Below.refl _ _).alloc (Nat.le_refl _) _).trans (below_drewN' _ _)⟩
set_option maxHeartbeats 1000000 in
theorem kept_any (w : World) (N : Int) (a : Option Addr) (cap : Nat) (bs : List Bd) (a2 : Option Addr) (cap2 : Nat) (y : List Int) (hN : i64ok N) (hl : bs.length ≤ 9223372036854775807) (hl2 : y.length ≤ 9223372036854775807) (h : BoundsAt w a bs) (h2 : IntsAt w a2 y) :
 Calls Tryz.prog 198 #[.agg #[.int .i64 N, .slice a bs.length cap], .slice a2 y.length cap2] w fun e w' => e = .returned (.tuple #[.int .i64 (keptE N bs y).1, .bool (keptE N bs y).2.1, .int .i64 (keptE N bs y).2.2]) ∧ Below w.heap.size w w' := by
 obtain ⟨W0, hW0⟩ : ∃ W0, W0 = (w.alloc (.cells #[.int .i64 N, .slice a bs.length cap] 61)).alloc (.cells #[.slice a2 y.length cap2] 52) := ⟨_, rfl⟩
 have b0 : Below w.heap.size w W0 := by rw [hW0]; exact ((Below.refl _ _).alloc (Nat.le_refl _) _).alloc (by simp) _
 have x0 : W0.heap[w.heap.size]? = some (.cells #[.int .i64 N, .slice a bs.length cap] 61 (0,0)) := by rw [hW0, Below.heap_alloc _ _ _ (by simp), heap_alloc_new]
 have x1 : W0.heap[w.heap.size + 1]? = some (.cells #[.slice a2 y.length cap2] 52 (0,0)) := by rw [hW0, heap_alloc_at _ _ _ (by simp)]
 have hck := check_any W0 N a cap bs hN hl (h.below b0 (Nat.le_refl _))
 by_cases hc : checkP N bs = 0
 ·obtain ⟨n0, n1, n2, nv⟩ := checkP_zero hc
  rw [hc] at hck
  have HCK := hidE hck
  have H := hidE h
  have H2 := hidE h2
  have X0 := hidE x0
  have X1 := hidE x1
  have B0 := hidE b0
  have HW := hidE hW0
  have HC := hidE hc
  have NV := hidE nv
  clear hck h h2 x0 x1 b0 hW0 hc nv hN
  go_enter Tryz.func198, Tryz.ntmps198
  go_upto_region 1 with fail
  rw [← HW.out]
  have e0 : W0.cell? ⟨w.heap.size, 0, none⟩ = some (.int .i64 N) := c_e X0.out rfl
  have e1 : W0.cell? ⟨w.heap.size, 1, none⟩ = some (.slice a bs.length cap) := c_e X0.out rfl
  go_wp2_with fail
  refine HCK.out.mono ?_
  rintro e w1 ⟨rfl, hb1⟩
  have y0 := blk_below hb1 (lt_of_block X0.out) X0.out
  have y1 := blk_below hb1 (lt_of_block X1.out) X1.out
  have B1 := B0.out.trans (hb1.mono B0.out.size)
  have hva := values_any w1 N (.slice a bs.length cap) a2 cap2 y n0 n1 hl2 (H2.out.below B1 (Nat.le_refl _))
  have Y0 := hidE y0
  have Y1 := hidE y1
  have HB1 := hidE B1
  have HVA := hidE hva
  have f0 : w1.cell? ⟨w.heap.size, 0, none⟩ = some (.int .i64 N) := c_e Y0.out rfl
  have f1 : w1.cell? ⟨w.heap.size, 1, none⟩ = some (.slice a bs.length cap) := c_e Y0.out rfl
  have f2 : w1.cell? ⟨w.heap.size + 1, 0, none⟩ = some (.slice a2 y.length cap2) := cell_of_one Y1.out
  clear y0 y1 B1 hb1 hva e0 e1
  go_wp2_with fail
  refine HVA.out.mono ?_
  rintro e w2 ⟨rfl, hb2⟩
  have z0 := blk_below hb2 (lt_of_block Y0.out) Y0.out
  have z1 := blk_below hb2 (lt_of_block Y1.out) Y1.out
  have B2 := HB1.out.trans (hb2.mono HB1.out.size)
  have Z0 := hidE z0
  have Z1 := hidE z1
  have HB2 := hidE B2
  clear z0 z1 B2 hb2 f0 f1 f2
  cases hvb : valuesB N y with
  | false =>
    have hk : keptE N bs y = (0, false, 1) := by unfold keptE; rw [if_neg (by simp [HC.out]), if_pos hvb]
    have HK := hidE hk
    clear hvb hk
    go_wp2_with fail
    go_ret3
    exact ⟨by rw [HK.out]; rfl, HB2.out⟩
  | true =>
    have hk : keptE N bs y = (max (idxOf (keptB y) bs) 0, decide (idxOf (keptB y) bs < 0), 0) := by unfold keptE; rw [if_neg (by simp [HC.out]), if_neg (by rw [hvb]; simp)]
    obtain ⟨R, rfl⟩ := Int.eq_ofNat_of_zero_le (show 0 ≤ N by omega)
    obtain ⟨q1, q2, q3⟩ := valuesB_iff.1 hvb
    have e0 : w2.cell? ⟨w.heap.size, 0, none⟩ = some (.int .i64 (R : Int)) := c_e Z0.out rfl
    have e1 : w2.cell? ⟨w.heap.size, 1, none⟩ = some (.slice a bs.length cap) := c_e Z0.out rfl
    have l1 := lt_of_block Z1.out
    have hidx := indexFuncBounds_any w2 a cap bs 249 #[.pointer (some ⟨w.heap.size + 1, 0, none⟩)] (· < w2.heap.size) (keptB y) hl (H.out.below HB2.out (Nat.le_refl _)) (fun b hb => hb)
     (fun k hk W hkp => kept1_any W bs[k] R (w.heap.size + 1) a2 cap2 y (NV.out _ (List.getElem_mem _)).1 q1 (by omega) q3 ((H2.out.below HB2.out (Nat.le_refl _)).kept (fun b hb => hkp.same b hb) hkp.size) ((hkp.cell (by show w.heap.size + 1 < _; exact l1)).trans (cell_of_one Z1.out)) (Nat.lt_of_lt_of_le l1 hkp.size))
     (enters_of Tryz.func249 (by kernel_rfl) rfl)
    obtain ⟨ix, hix⟩ : ∃ x, idxOf (keptB y) bs = x := ⟨_, rfl⟩
    rw [hix] at hidx hk
    have HI := hidE hidx
    have HK := hidE hk
    clear hvb hk hidx hix q1 q2 q3
    go_wp2_with fail
    refine HI.out.mono ?_
    rintro e w3 ⟨rfl, hb3⟩
    have HB3 := hidE (HB2.out.trans (hb3.mono HB2.out.size))
    clear hb3 e0 e1
    go_wp2_with fail
    go_ret3
    exact ⟨by rw [HK.out]; rfl, HB3.out⟩
 ·have hk : keptE N bs y = (0, false, checkP N bs) := by unfold keptE; rw [if_pos hc]
  obtain ⟨c, hcc⟩ : ∃ c, checkP N bs = c := ⟨_, rfl⟩
  rw [hcc] at hk hc hck
  have hc2 : (c != 0) = true := by simpa using hc
  have HCK := hidE hck
  have HK := hidE hk
  have X0 := hidE x0
  have B0 := hidE b0
  have HW := hidE hW0
  clear hck hk hc hcc h h2 hN x0 x1 b0 hW0
  go_enter Tryz.func198, Tryz.ntmps198
  go_upto_region 1 with fail
  rw [← HW.out]
  have e0 : W0.cell? ⟨w.heap.size, 0, none⟩ = some (.int .i64 N) := c_e X0.out rfl
  have e1 : W0.cell? ⟨w.heap.size, 1, none⟩ = some (.slice a bs.length cap) := c_e X0.out rfl
  go_wp2_with fail
  refine HCK.out.mono ?_
  rintro e w1 ⟨rfl, hb1⟩
  clear e0 e1
  go_wp2_with fail
  go_ret3
  exact ⟨by rw [HK.out]; rfl, B0.out.trans (hb1.mono B0.out.size)⟩
end Go.Proofs.YtkhemfnlflbniaaGreatDoor
namespace Go.Proofs.YtkhemfnlflbniaaGreatDoor
theorem Tied.n0 {N : Nat} {bs : List Bd} (T : Tied N bs) : 1 ≤ N := by obtain ⟨t, _, H⟩ := T.net; exact H.n0
theorem drw_ends {F : Fld} {l : List Rcd} (h : Good F l) (ha : agreeB F l = true) {y : List Int} (k : Drw F l y) {p : Nat} (h2 : p < ptN F) : lowE F l p ≤ y.getD p 0 ∧ y.getD p 0 ≤ highE F l p := by
 have T := tied h ha
 have d := tied_dist T k h2 (b := 0) T.n0
 have e := tied_dist T k (a := 0) T.n0 h2
 rw [k.zero] at d e
 unfold lowE highE
 omega
def risingB : List Int → Bool
 | [] => true
 | [_] => true
 | a :: b :: l => decide (a < b) && risingB (b :: l)
theorem rising_iff : ∀ (l : List Int), risingB l = true ↔ l.Pairwise (· < ·)
 | [] => by simp [risingB]
 | [_] => by simp [risingB]
 | a :: b :: l => by
   unfold risingB
   rw [Bool.and_eq_true, decide_eq_true_eq, rising_iff (b :: l), List.pairwise_cons (a := a)]
   constructor
   ·rintro ⟨h, k⟩
    refine ⟨fun x hx => ?_, k⟩
    rcases List.mem_cons.1 hx with rfl | hx
    ·exact h
    ·have := (List.pairwise_cons.1 k).1 x hx
     omega
   ·rintro ⟨h, k⟩
    exact ⟨h b (List.mem_cons_self ..), k⟩
def withIds (l : List Rcd) (ids : List Int) : List Rcd := l.filter fun r => ids.contains r.id
def namedR (l : List Rcd) (ids : List Int) : Bool := risingB ids && ids.all fun i => l.any fun r => r.id == i
def onlyB (l : List Rcd) (ids : List Int) : Bool := risingB ids && decide ((withIds l ids).length = ids.length)
theorem with_ids {l : List Rcd} {ids : List Int} : (withIds l ids).map Rcd.id = (l.map Rcd.id).filter fun i => ids.contains i := by
 unfold withIds
 rw [List.filter_map]
 rfl
theorem sub_eq : ∀ {a b : List Int}, a.Pairwise (· < ·) → b.Pairwise (· < ·) → (∀ x ∈ a, x ∈ b) → a.length = b.length → a = b := by
 intro a b ha hb hs hl
 have h : a.Sublist b := by
  induction b generalizing a with
  | nil => cases a with
    | nil => exact List.Sublist.slnil
    | cons x a => simp at hl
  | cons y b ih =>
    cases a with
    | nil => exact List.nil_sublist _
    | cons x a =>
      have hx := hs x (List.mem_cons_self ..)
      have ha2 := List.pairwise_cons.1 ha
      have hb2 := List.pairwise_cons.1 hb
      have key : ∀ z ∈ a, z ∈ b := fun z hz => by
       rcases List.mem_cons.1 (hs z (List.mem_cons_of_mem _ hz)) with rfl | q
       ·have := ha2.1 _ hz
        rcases List.mem_cons.1 hx with rfl | q
        ·omega
        ·have := hb2.1 _ q; omega
       ·exact q
      have hab := ih ha2.2 hb2.2 key (by simpa using hl)
      rcases List.mem_cons.1 hx with rfl | q
      ·exact hab.cons_cons _
      ·exfalso
       have e : a = b := hab.eq_of_length (by simpa using hl)
       subst e
       have := ha2.1 x q
       omega
 exact h.eq_of_length hl
theorem asc_sub_len : ∀ {a b : List Int}, a.Pairwise (· < ·) → (∀ x ∈ a, x ∈ b) → a.length ≤ b.length
 | [], _, _, _ => Nat.zero_le _
 | x :: a, b, ha, hs => by
   have hx := hs x (List.mem_cons_self ..)
   have ha2 := List.pairwise_cons.1 ha
   have := asc_sub_len (a := a) (b := b.erase x) ha2.2 fun z hz => by
    refine (List.mem_erase_of_ne ?_).2 (hs z (List.mem_cons_of_mem _ hz))
    have := ha2.1 z hz
    omega
   rw [List.length_erase_of_mem hx] at this
   have : 0 < b.length := List.length_pos_of_mem hx
   rw [List.length_cons]
   omega
theorem named_ref {l : List Rcd} (hl : l.Pairwise fun a b => a.id < b.id) (ids : List Int) : onlyB l ids = namedR l ids := by
 unfold onlyB namedR
 cases hr : risingB ids with
 | false => rfl
 | true =>
   rw [Bool.true_and, Bool.true_and, Bool.eq_iff_iff, decide_eq_true_eq]
   have hi := (rising_iff ids).1 hr
   have hm : (l.map Rcd.id).Pairwise (· < ·) := List.pairwise_map.2 hl
   have hf : ((withIds l ids).map Rcd.id).Pairwise (· < ·) := by rw [with_ids]; exact hm.filter _
   have hin : ∀ x ∈ (withIds l ids).map Rcd.id, x ∈ ids := fun x hx => by
    rw [with_ids, List.mem_filter] at hx
    simpa using hx.2
   simp only [List.all_eq_true, List.any_eq_true, beq_iff_eq]
   constructor
   ·intro h
    have e := sub_eq hf hi hin (by simpa using h)
    intro i hi2
    rw [← e, List.mem_map] at hi2
    obtain ⟨r, hr, rfl⟩ := hi2
    exact ⟨r, (List.mem_filter.1 hr).1, rfl⟩
   ·intro h
    apply Nat.le_antisymm
    ·have := asc_sub_len hf hin
     simpa using this
    ·have := asc_sub_len (b := (withIds l ids).map Rcd.id) hi fun x hx => by
      obtain ⟨r, hr, rfl⟩ := h x hx
      refine List.mem_map.2 ⟨r, List.mem_filter.2 ⟨hr, by simpa using hx⟩, rfl⟩
     simpa using this
structure IdsOf (q : List Bd) (ids : List Int) : Prop where
 asc : ids.Pairwise (· < ·)
 mem : ∀ x, x ∈ ids ↔ 0 < x ∧ ∃ b ∈ q, b.rcd = x
theorem sys_mem {F : Fld} {l : List Rcd} {b : Bd} : b ∈ sysL F l ↔ b ∈ natF F ∨ ∃ r ∈ l, b ∈ callBs F r.call r.id := by
 unfold sysL Rcd.bs
 rw [List.mem_append, List.mem_flatMap]
theorem ids_named {F : Fld} {l : List Rcd} (h : Good F l) {q : List Bd} (hq : ∀ b ∈ q, b ∈ sysL F l) {ids : List Int} (hi : IdsOf q ids) : onlyB l ids = true ∧ ∀ b ∈ q, b ∈ sysL F (withIds l ids) := by
 constructor
 ·rw [named_ref h.asc]
  unfold namedR
  rw [(rising_iff ids).2 hi.asc, Bool.true_and, List.all_eq_true]
  intro x hx
  obtain ⟨h0, b, hb, he⟩ := (hi.mem x).1 hx
  rw [List.any_eq_true]
  rcases sys_mem.1 (hq b hb) with k | ⟨r, hr, k⟩
  ·have := nat_rcd b k
   omega
  ·have := callBs_rcd b k
   exact ⟨r, hr, by rw [beq_iff_eq]; omega⟩
 ·intro b hb
  rcases sys_mem.1 (hq b hb) with k | ⟨r, hr, k⟩
  ·exact sys_mem.2 (.inl k)
  ·refine sys_mem.2 (.inr ⟨r, List.mem_filter.2 ⟨hr, ?_⟩, k⟩)
   have e := callBs_rcd b k
   have := right_id (h.each r hr).1
   have : r.id ∈ ids := (hi.mem r.id).2 ⟨by omega, b, hb, e⟩
   simpa using this
theorem with_sub (l : List Rcd) (ids : List Int) : (withIds l ids).Sublist l := List.filter_sublist
theorem with_good {F : Fld} {l : List Rcd} (h : Good F l) (ids : List Int) : Good F (withIds l ids) := good_sub h (with_sub l ids)
theorem circle_shows {F : Fld} {l : List Rcd} (h : Good F l) {a : Int} {q : List Bd} (hw : Walk a a q) (ho : Over (sysL F l) q) (hn : wsum q < 0) {ids : List Int} (hi : IdsOf q ids) : onlyB l ids = true ∧ agreeB F (withIds l ids) = false := by
 have k := ids_named h (q := q) ho hi
 refine ⟨k.1, ?_⟩
 cases e : agreeB F (withIds l ids) with
 | false => rfl
 | true =>
   have g := with_good h ids
   have := (keptP_iff (pt_le g.fld).2 (sys_valid g)).1 e a q hw k.2
   omega
theorem last_eq {F : Fld} {l : List Rcd} (h : Good F l) (ha : agreeB F l = true) : greatestE (ptN F) (sysL F l) = (highV (ptN F) (sysL F l), 0) ∧ leastE (ptN F) (sysL F l) = (lowV (ptN F) (sysL F l), 0) := by
 have T := tied h ha
 have k : askedE (ptN F) (sysL F l) [] = 0 := by
  rw [asked_ok h (by simp), if_pos ha]
 have n1 : ¬ ((List.range (ptN F : Int).toNat).any fun p => !nB (distN (ptN F : Int).toNat (sysL F l) 0 p)) = true := by
  simp only [Int.toNat_natCast, List.any_eq_true, List.mem_range, not_exists, not_and]
  intro p hp
  have := T.fin 0 p T.n0 hp
  unfold farI at this
  unfold nB
  simp only [Bool.not_eq_true', decide_eq_false_iff_not]
  omega
 have n2 : ¬ ((List.range (ptN F : Int).toNat).any fun p => !nB (distN (ptN F : Int).toNat (sysL F l) p 0)) = true := by
  simp only [Int.toNat_natCast, List.any_eq_true, List.mem_range, not_exists, not_and]
  intro p hp
  have := T.fin p 0 hp T.n0
  unfold farI at this
  unfold nB
  simp only [Bool.not_eq_true', decide_eq_false_iff_not]
  omega
 unfold greatestE leastE extremeE
 constructor
 ·rw [if_pos k, if_neg n1]; rfl
 ·rw [if_pos k, if_neg n2]; rfl
theorem kept_eq {F : Fld} {l : List Rcd} (h : Good F l) (y : List Int) : ((keptE (ptN F) (sysL F l) y).2.1 && decide ((keptE (ptN F) (sysL F l) y).2.2 = 0)) = true ↔ Drw F l y := by
 rw [Bool.and_eq_true, decide_eq_true_eq]
 constructor
 ·intro k
  exact (keptE_iff (sys_check h)).1 k.1
 ·intro k
  have := (keptE_iff (sys_check h)).2 k
  exact ⟨this, (keptE_err (sys_check h) this).1⟩
theorem either_none {F : Fld} {l : List Rcd} (h : Good F l) (ha : agreeB F l = false) (y : List Int) : ¬ Drw F l y := fun k => by rw [drw_agree h k] at ha; cases ha
theorem either_between {F : Fld} {l : List Rcd} (h : Good F l) {y : List Int} (k : Drw F l y) {n : Nat} (hn : n < y.length) : n < ptN F ∧ (lowV (ptN F) (sysL F l)).getD n 0 ≤ y.getD n 0 ∧ y.getD n 0 ≤ (highV (ptN F) (sysL F l)).getD n 0 := by
 have e : n < ptN F := by rw [← k.len]; exact hn
 rw [lowV_get e, highV_get e]
 exact ⟨e, drw_ends h (drw_agree h k) k e⟩
theorem tget_dist {N : Nat} {bs : List Bd} {t : List Int} (ht : openedP N bs = some t) {a : Nat} (b : Nat) (ha : a < N) : tget (tableP N t bs) a b = distN N bs a b := by
 unfold tget distN
 rw [tableP_get N t bs ha, heightsP_of ht]
end Go.Proofs.YtkhemfnlflbniaaGreatDoor
namespace Go.Proofs.YtkhemfnlflbniaaGreatDoor
open Go Go.RowKit Go.Shelf
set_option maxRecDepth 100000 in
set_option maxHeartbeats 4000000 in
theorem extreme_high (w : World) (N : Int) (a : Option Addr) (cap : Nat) (bs : List Bd) (hN : i64ok N) (hl : bs.length ≤ 9223372036854775807) (h : BoundsAt w a bs) :
 Calls Tryz.prog 189 #[.agg #[.int .i64 N, .slice a bs.length cap], .string ⟨#[104, 105, 103, 104]⟩] w fun e w' => PathPost (greatestE N bs).1 (greatestE N bs).2 w.heap.size e w' ∧ Below w.heap.size w w' := by
 have H := hidE h
 have HN := hidE hN
 clear h hN
 have hB0 : Below w.heap.size w (w.alloc (.cells #[.int .i64 N, .slice a bs.length cap] 61)) := (Below.refl _ _).alloc (Nat.le_refl _) _
 have hx0 : (w.alloc (.cells #[.int .i64 N, .slice a bs.length cap] 61)).heap[w.heap.size]? = some (.cells #[.int .i64 N, .slice a bs.length cap] 61 (0,0)) := heap_alloc_new _ _
 have hask : Calls Tryz.prog 143 #[.agg #[.int .i64 N, .slice a bs.length cap], .slice none 0 0] (w.alloc (.cells #[.int .i64 N, .slice a bs.length cap] 61)) _ :=
  asked_any _ N a cap bs none 0 [] HN.out hl (by simp) (H.out.alloc _) (.inl rfl)
 have X0 := hidE hx0
 clear hx0
 by_cases he : askedE N bs [] = 0
 ·obtain ⟨R, t, rfl, ht, HO⟩ := asked0 he
  have hE : greatestE R bs = if (List.range R).any (fun p => !nB (distN R bs 0 p)) = true then ([], 5) else (highV R bs, 0) := by
   unfold greatestE extremeE; rw [if_pos he]; simp only [Int.toNat_natCast]
  have hn0 := HO.n0
  have hn1 := HO.n1
  have htg := fun (p q : Nat) (hp : p < R) => tget_dist ht q hp
  have htl := tableP_length R t bs
  have hbd : ∀ p q, p < R → q < R → -1000000000000000 ≤ distN R bs p q := fun p q hp hq => by
   have := HO.row_bd hp hq
   unfold distN; rw [heightsP_of ht]
   omega
  have hrl : ∀ r ∈ tableP R t bs, r.length = 128 := by
   intro r hr
   simp only [tableP, List.mem_map, List.mem_range] at hr
   obtain ⟨q, hq, rfl⟩ := hr
   exact (HO.row hq).1
  have HE := hidE hE
  have HA := hidE hask
  have HEE := hidE he
  have HT := hidE ht
  have HTG := hidE htg
  have HTL := hidE htl
  have HRL := hidE hrl
  have HBD := hidE hbd
  clear hE hask he ht htg htl hrl hbd
  go_enter Tryz.func189, Tryz.ntmps189
  go_wp2_with fail
  refine HA.out.mono ?_
  rintro e w1 ⟨hp, hb1⟩
  unfold AskedPost at hp
  rw [if_pos HEE.out] at hp
  obtain ⟨bn, t', ht', rfl, hbn, hcell⟩ := hp
  have htt : t' = t := by have := HT.out; rw [ht'] at this; exact Option.some.inj this
  subst htt
  have B1 := hB0.trans (hb1.mono hB0.size)
  have htab := table_any w1 bn R a cap bs t' HO (H.out.below B1 (Nat.le_refl _)) hcell
  have x1 := blk_below hb1 (by simp) X0.out
  have HTAB := hidE htab
  have HB1 := hidE B1
  have X1 := hidE x1
  clear htab hcell ht' hb1 B1 hbn x1
  go_wp2_with fail
  refine HTAB.out.mono ?_
  rintro e w2 ⟨v, rfl, hb2, hown⟩
  obtain ⟨R', hR'⟩ : ∃ R', R = R' + 1 := ⟨R - 1, by omega⟩
  have hown' := hown
  rw [hR'] at hown'
  obtain ⟨g, cp, rfl⟩ := ownsRow_succ hown'
  rw [← hR'] at hown
  obtain ⟨hra, hgl⟩ := rowsAt_of_owns hown HRL.out
  have x2 := blk_below hb2 (lt_of_block X1.out) X1.out
  have HRA := hidE hra
  have HB2 := hidE (HB1.out.trans (hb2.mono HB1.out.size))
  have X2 := hidE x2
  have e0 : w2.cell? ⟨w.heap.size, 0, none⟩ = some (.int .i64 (R : Int)) := c_e x2 rfl
  rw [← hR']
  clear hra hown hown' hb2 x2 hR'
  go_wp2_with fail
  clear e0
  go_loopw [9, 25] (fun v9 i wr => ∃ k : Nat, k ≤ R ∧ i = .int .i64 k ∧ Hid (∀ p, p < k → nB (distN R bs 0 p) = true) ∧ Hid (wr.ownsRow w2.heap.size 3 1 v9 ((List.range k).map (fun p : Nat => nV (distN R bs 0 p))).length (intsV ((List.range k).map (fun p : Nat => nV (distN R bs 0 p))))) ∧ Hid (Below w2.heap.size w2 wr)) (fun _ i _ => R - (intOf i).toNat)
  case atStart => exact ⟨0, by omega, rfl, hidE (fun p hp => by omega), hidE (World.ownsRow_nil _ _ _ _), hidE (Below.refl _ _)⟩
  case round =>
   obtain ⟨k, hk, rfl, hall, hown, hb⟩ := hrel
   by_cases hlt : k < R
   ·have hra2 := HRA.out.below hb.out hgl
    have c0 := hra2 0 k (by rw [HTL.out]; omega) (by omega)
    have c1 := hra2 k 0 (by rw [HTL.out]; omega) (by omega)
    have g0 := HTG.out 0 k (by omega)
    have g1 := HTG.out k 0 (by omega)
    unfold tget at g0 g1
    rw [g0, Nat.zero_mul, Nat.zero_add] at c0
    rw [g1, Nat.add_zero] at c1
    clear g0 g1
    have hb0 := HBD.out 0 k (by omega) hlt
    have hb9 := HBD.out k 0 hlt (by omega)
    obtain ⟨v1, hv1⟩ : ∃ v, distN R bs 0 k = v := ⟨_, rfl⟩
    obtain ⟨v2, hv2⟩ : ∃ v, distN R bs k 0 = v := ⟨_, rfl⟩
    rw [hv1] at c0 hb0
    rw [hv2] at c1 hb9
    have hgw : g < wr.heap.size := Nat.lt_of_lt_of_le hgl hb.out.size
    have k128 : (k : Int) < 128 := by omega
    have k128' : k < 128 := by omega
    have kR : (k : Int) < (R : Int) := by omega
    have R0 : (0 : Int) < (R : Int) := by omega
    have R0' : 0 < R := by omega
    have HV1 := hidE hv1
    have HV2 := hidE hv2
    have hsn : (List.range (k + 1)).map (fun p : Nat => nV (distN R bs 0 p)) = (List.range k).map (fun p : Nat => nV (distN R bs 0 p)) ++ [numV v1] := by
     rw [List.range_succ, List.map_append]
     simp only [List.map_cons, List.map_nil]
     rw [HV1.out]; rfl
    have HSN := hidE hsn
    obtain ⟨nb, hnb⟩ : ∃ b, numB v1 = b := ⟨_, rfl⟩
    have hnb2 : nB (distN R bs 0 k) = nb := by rw [HV1.out]; exact hnb
    have HNB := hidE hnb2
    obtain ⟨nv, hnv⟩ : ∃ v, numV v1 = v := ⟨_, rfl⟩
    rw [hnv] at HSN
    clear hv1 hv2 hsn hnb2 hra2
    obtain ⟨wq, rfl⟩ : ∃ y : World, y = wr := ⟨wr, rfl⟩
    have lh : (Instr.lookup 242 (.map (some wq.heap.size)) (.string ⟨#[104, 105, 103, 104]⟩) false).run Tryz.prog (wq.alloc endsObj).drew = .ok (.func (.func 267) #[] #[]) (wq.alloc endsObj).drew :=
     run_lookup_string (r := wq.heap.size) (i := 0) Tryz.underlying242 Tryz.underlying9 (heap_alloc_at wq endsObj _ rfl) (by rfl)
    go_wp2_with fail
    go_cut [11, 12] (fun s11 s12 wx => s11 = .int .i64 nv ∧ s12 = .bool nb ∧ Hid (Below wq.heap.size wq wx))
    case first =>
     have ba : Below wq.heap.size wq (wq.alloc endsObj).drew := ((Below.refl _ _).alloc (Nat.le_refl _) _).drew
     have d0 := (ba.cell (p := ⟨g, k, none⟩) hgw).trans c0
     have d1 := (ba.cell (p := ⟨g, k * 128, none⟩) hgw).trans c1
     go_region_held3 (fun V => V.cell? ⟨g, k, none⟩ = some (.int .i64 v1) ∧ V.cell? ⟨g, k * 128, none⟩ = some (.int .i64 v2))
      (first | (exact ⟨u0, u1⟩) | (exact ⟨d0, d1⟩) | (exact ⟨c0, c1⟩) | go_keep)
      (first
       | (go_at_call 223; refine (ends_any _).mono ?_; rintro e W2 ⟨rfl, rfl⟩)
       | (go_at_call 267; refine (high_any _ _ _).mono ?_; rintro e W3 ⟨rfl, h1⟩; (rw [hnb, hnv]); (have h2 : Below wq.heap.size wq W3 := ba.trans (h1.mono (by simp))); (have u0 := (h2.cell (p := ⟨g, k, none⟩) hgw).trans c0); (have u1 := (h2.cell (p := ⟨g, k * 128, none⟩) hgw).trans c1); (have HH := hidE h2); clear h1 h2))
     all_goals (go_wp2_with fail; go_meet)
     all_goals exact ⟨rfl, rfl, HH⟩
    case rest =>
     obtain ⟨rfl, rfl, hbx⟩ := hcut
     obtain ⟨wf, rfl⟩ : ∃ x : World, x = wc := ⟨wc, rfl⟩
     have hbf := hidE (hb.out.trans (hbx.out.mono hb.out.size))
     have hof := ownsRow_of_block hown.out (fun q hq => hbx.out.block q (owns_lt' hown.out hq))
     have HOF := hidE hof
     clear lh c0 c1 hof hnb hnv
     cases nb with
     | false =>
       go_wp2_with fail
       refine bodyPost_ret (v := .tuple #[.slice none 0 0, .int .i64 5]) (by simp [results, Tryz.results189, go_sem]) rfl ⟨?_, HB2.out.trans (hbf.out.mono HB2.out.size)⟩
       have hany : (List.range R).any (fun p => !nB (distN R bs 0 p)) = true := List.any_eq_true.2 ⟨k, List.mem_range.2 hlt, by rw [HNB.out]; rfl⟩
       rw [show greatestE R bs = ([], 5) by rw [HE.out, if_pos hany]]
       exact ⟨_, rfl, World.ownsRow_nil _ _ _ _⟩
     | true =>
       have ba : Below wf.heap.size wf (wf.alloc (.cells #[.int .i64 nv] 3)) := (Below.refl _ _).alloc (Nat.le_refl _) _
       obtain ⟨v', W', hr', ho', hb'⟩ := append_ints (wf.alloc (.cells #[.int .i64 nv] 3)) w2.heap.size u9 ((List.range k).map (fun p : Nat => nV (distN R bs 0 p))) (World.ownsRow.alloc HOF.out _) (some ⟨wf.heap.size, 0, none⟩) 1 [nv] (ints_one wf nv) (by simp; omega) (by simp) (Nat.le_trans hbf.out.size ba.size) 52
       have HR' := hidE hr'
       have HO' := hidE ho'
       have HB' := hidE (hbf.out.trans ((ba.mono hbf.out.size).trans hb'))
       clear hr' ho' hb' ba
       go_wp2_with (at_builtin; refine wpList_op_append rfl (s := .tmp 48) (x := .tmp 50) (t := 52) rfl rfl rfl HR'.out ?_)
       go_roundw
       case rel =>
        refine ⟨k + 1, by omega, by go_num, hidE (fun p hp => ?_), hidE (by rw [HSN.out]; exact HO'.out), HB'⟩
        by_cases e : p = k
        ·subst e; exact HNB.out
        ·exact hall.out p (by omega)
       case measure => simp [intOf]; omega
   ·obtain rfl : k = R := by omega
    have hmap : (List.range k).map (fun p : Nat => nV (distN k bs 0 p)) = highV k bs := by
     unfold highV
     exact List.map_congr_left fun p hp => by rw [nV_near (by have q := hall.out p (List.mem_range.1 hp); unfold nB at q; unfold farI; exact of_decide_eq_true q)]
    have hany : (List.range k).any (fun p => !nB (distN k bs 0 p)) = false := by
     rw [List.any_eq_false]
     intro p hp
     rw [hall.out p (List.mem_range.1 hp)]; simp
    rw [hmap] at hown
    have HAN := hidE hany
    have HOW := hidE (ownsRow_base hown.out HB2.out.size)
    obtain ⟨o9, c9, e9, _, _⟩ := intsAt_of_owns hown.out
    subst e9
    have HBF := hidE (HB2.out.trans (hb.out.mono HB2.out.size))
    clear hmap hany hown hall hb
    go_wp2_with fail
    refine bodyPost_ret (v := .tuple #[.slice o9 (highV k bs).length c9, .int .i64 0]) (by simp [results, Tryz.results189, go_sem]) rfl ⟨?_, HBF.out⟩
    rw [show greatestE k bs = (highV k bs, 0) by rw [HE.out, if_neg (by rw [HAN.out]; simp)]]
    exact ⟨_, rfl, HOW.out⟩
 ·have hE : greatestE N bs = ([], askedE N bs []) := by unfold greatestE extremeE; rw [if_neg he]
  obtain ⟨c, hc⟩ : ∃ c, askedE N bs [] = c := ⟨_, rfl⟩
  have hc1 : (c == 0) = false := by rw [← hc]; simpa using he
  have hc2 : (c != 0) = true := by rw [← hc]; simpa using he
  have HC := hidE hc
  have HD := hidE hE
  have HEE := hidE he
  have HA := hidE hask
  clear hE he hc hask
  go_enter Tryz.func189, Tryz.ntmps189
  go_wp2_with fail
  refine HA.out.mono ?_
  rintro e w1 ⟨hp, hb1⟩
  unfold AskedPost at hp
  rw [if_neg HEE.out, HC.out] at hp
  subst hp
  go_wp2_with fail
  refine bodyPost_ret (v := .tuple #[.slice none 0 0, .int .i64 c]) (by simp [results, Tryz.results189, go_sem]) rfl ⟨?_, hB0.trans (hb1.mono hB0.size)⟩
  rw [HD.out, HC.out]
  exact ⟨_, rfl, World.ownsRow_nil _ _ _ _⟩
set_option maxRecDepth 100000 in
set_option maxHeartbeats 4000000 in
theorem extreme_low (w : World) (N : Int) (a : Option Addr) (cap : Nat) (bs : List Bd) (hN : i64ok N) (hl : bs.length ≤ 9223372036854775807) (h : BoundsAt w a bs) :
 Calls Tryz.prog 189 #[.agg #[.int .i64 N, .slice a bs.length cap], .string ⟨#[108, 111, 119]⟩] w fun e w' => PathPost (leastE N bs).1 (leastE N bs).2 w.heap.size e w' ∧ Below w.heap.size w w' := by
 have H := hidE h
 have HN := hidE hN
 clear h hN
 have hB0 : Below w.heap.size w (w.alloc (.cells #[.int .i64 N, .slice a bs.length cap] 61)) := (Below.refl _ _).alloc (Nat.le_refl _) _
 have hx0 : (w.alloc (.cells #[.int .i64 N, .slice a bs.length cap] 61)).heap[w.heap.size]? = some (.cells #[.int .i64 N, .slice a bs.length cap] 61 (0,0)) := heap_alloc_new _ _
 have hask : Calls Tryz.prog 143 #[.agg #[.int .i64 N, .slice a bs.length cap], .slice none 0 0] (w.alloc (.cells #[.int .i64 N, .slice a bs.length cap] 61)) _ :=
  asked_any _ N a cap bs none 0 [] HN.out hl (by simp) (H.out.alloc _) (.inl rfl)
 have X0 := hidE hx0
 clear hx0
 by_cases he : askedE N bs [] = 0
 ·obtain ⟨R, t, rfl, ht, HO⟩ := asked0 he
  have hE : leastE R bs = if (List.range R).any (fun p => !nB (distN R bs p 0)) = true then ([], 5) else (lowV R bs, 0) := by
   unfold leastE extremeE; rw [if_pos he]; simp only [Int.toNat_natCast]
  have hn0 := HO.n0
  have hn1 := HO.n1
  have htg := fun (p q : Nat) (hp : p < R) => tget_dist ht q hp
  have htl := tableP_length R t bs
  have hbd : ∀ p q, p < R → q < R → -1000000000000000 ≤ distN R bs p q := fun p q hp hq => by
   have := HO.row_bd hp hq
   unfold distN; rw [heightsP_of ht]
   omega
  have hrl : ∀ r ∈ tableP R t bs, r.length = 128 := by
   intro r hr
   simp only [tableP, List.mem_map, List.mem_range] at hr
   obtain ⟨q, hq, rfl⟩ := hr
   exact (HO.row hq).1
  have HE := hidE hE
  have HA := hidE hask
  have HEE := hidE he
  have HT := hidE ht
  have HTG := hidE htg
  have HTL := hidE htl
  have HRL := hidE hrl
  have HBD := hidE hbd
  clear hE hask he ht htg htl hrl hbd
  go_enter Tryz.func189, Tryz.ntmps189
  go_wp2_with fail
  refine HA.out.mono ?_
  rintro e w1 ⟨hp, hb1⟩
  unfold AskedPost at hp
  rw [if_pos HEE.out] at hp
  obtain ⟨bn, t', ht', rfl, hbn, hcell⟩ := hp
  have htt : t' = t := by have := HT.out; rw [ht'] at this; exact Option.some.inj this
  subst htt
  have B1 := hB0.trans (hb1.mono hB0.size)
  have htab := table_any w1 bn R a cap bs t' HO (H.out.below B1 (Nat.le_refl _)) hcell
  have x1 := blk_below hb1 (by simp) X0.out
  have HTAB := hidE htab
  have HB1 := hidE B1
  have X1 := hidE x1
  clear htab hcell ht' hb1 B1 hbn x1
  go_wp2_with fail
  refine HTAB.out.mono ?_
  rintro e w2 ⟨v, rfl, hb2, hown⟩
  obtain ⟨R', hR'⟩ : ∃ R', R = R' + 1 := ⟨R - 1, by omega⟩
  have hown' := hown
  rw [hR'] at hown'
  obtain ⟨g, cp, rfl⟩ := ownsRow_succ hown'
  rw [← hR'] at hown
  obtain ⟨hra, hgl⟩ := rowsAt_of_owns hown HRL.out
  have x2 := blk_below hb2 (lt_of_block X1.out) X1.out
  have HRA := hidE hra
  have HB2 := hidE (HB1.out.trans (hb2.mono HB1.out.size))
  have X2 := hidE x2
  have e0 : w2.cell? ⟨w.heap.size, 0, none⟩ = some (.int .i64 (R : Int)) := c_e x2 rfl
  rw [← hR']
  clear hra hown hown' hb2 x2 hR'
  go_wp2_with fail
  clear e0
  go_loopw [9, 25] (fun v9 i wr => ∃ k : Nat, k ≤ R ∧ i = .int .i64 k ∧ Hid (∀ p, p < k → nB (distN R bs p 0) = true) ∧ Hid (wr.ownsRow w2.heap.size 3 1 v9 ((List.range k).map (fun p : Nat => -nV (distN R bs p 0))).length (intsV ((List.range k).map (fun p : Nat => -nV (distN R bs p 0))))) ∧ Hid (Below w2.heap.size w2 wr)) (fun _ i _ => R - (intOf i).toNat)
  case atStart => exact ⟨0, by omega, rfl, hidE (fun p hp => by omega), hidE (World.ownsRow_nil _ _ _ _), hidE (Below.refl _ _)⟩
  case round =>
   obtain ⟨k, hk, rfl, hall, hown, hb⟩ := hrel
   by_cases hlt : k < R
   ·have hra2 := HRA.out.below hb.out hgl
    have c0 := hra2 0 k (by rw [HTL.out]; omega) (by omega)
    have c1 := hra2 k 0 (by rw [HTL.out]; omega) (by omega)
    have g0 := HTG.out 0 k (by omega)
    have g1 := HTG.out k 0 (by omega)
    unfold tget at g0 g1
    rw [g0, Nat.zero_mul, Nat.zero_add] at c0
    rw [g1, Nat.add_zero] at c1
    clear g0 g1
    have hb0 := HBD.out 0 k (by omega) hlt
    have hb9 := HBD.out k 0 hlt (by omega)
    obtain ⟨v1, hv1⟩ : ∃ v, distN R bs 0 k = v := ⟨_, rfl⟩
    obtain ⟨v2, hv2⟩ : ∃ v, distN R bs k 0 = v := ⟨_, rfl⟩
    rw [hv1] at c0 hb0
    rw [hv2] at c1 hb9
    have hgw : g < wr.heap.size := Nat.lt_of_lt_of_le hgl hb.out.size
    have k128 : (k : Int) < 128 := by omega
    have k128' : k < 128 := by omega
    have kR : (k : Int) < (R : Int) := by omega
    have R0 : (0 : Int) < (R : Int) := by omega
    have R0' : 0 < R := by omega
    have HV1 := hidE hv1
    have HV2 := hidE hv2
    have hsn : (List.range (k + 1)).map (fun p : Nat => -nV (distN R bs p 0)) = (List.range k).map (fun p : Nat => -nV (distN R bs p 0)) ++ [-numV v2] := by
     rw [List.range_succ, List.map_append]
     simp only [List.map_cons, List.map_nil]
     rw [HV2.out]; rfl
    have HSN := hidE hsn
    obtain ⟨nb, hnb⟩ : ∃ b, numB v2 = b := ⟨_, rfl⟩
    have hnb2 : nB (distN R bs k 0) = nb := by rw [HV2.out]; exact hnb
    have HNB := hidE hnb2
    obtain ⟨nv, hnv⟩ : ∃ v, -numV v2 = v := ⟨_, rfl⟩
    rw [hnv] at HSN
    clear hv1 hv2 hsn hnb2 hra2
    obtain ⟨wq, rfl⟩ : ∃ y : World, y = wr := ⟨wr, rfl⟩
    have lh : (Instr.lookup 242 (.map (some wq.heap.size)) (.string ⟨#[108, 111, 119]⟩) false).run Tryz.prog (wq.alloc endsObj).drew = .ok (.func (.func 268) #[] #[]) (wq.alloc endsObj).drew :=
     run_lookup_string (r := wq.heap.size) (i := 1) Tryz.underlying242 Tryz.underlying9 (heap_alloc_at wq endsObj _ rfl) (by rfl)
    go_wp2_with fail
    go_cut [11, 12] (fun s11 s12 wx => s11 = .int .i64 nv ∧ s12 = .bool nb ∧ Hid (Below wq.heap.size wq wx))
    case first =>
     have ba : Below wq.heap.size wq (wq.alloc endsObj).drew := ((Below.refl _ _).alloc (Nat.le_refl _) _).drew
     have d0 := (ba.cell (p := ⟨g, k, none⟩) hgw).trans c0
     have d1 := (ba.cell (p := ⟨g, k * 128, none⟩) hgw).trans c1
     go_region_held3 (fun V => V.cell? ⟨g, k, none⟩ = some (.int .i64 v1) ∧ V.cell? ⟨g, k * 128, none⟩ = some (.int .i64 v2))
      (first | (exact ⟨u0, u1⟩) | (exact ⟨d0, d1⟩) | (exact ⟨c0, c1⟩) | go_keep)
      (first
       | (go_at_call 223; refine (ends_any _).mono ?_; rintro e W2 ⟨rfl, rfl⟩)
       | (go_at_call 268; refine (low_any _ _ _ (by omega)).mono ?_; rintro e W3 ⟨rfl, h1⟩; (rw [hnb, hnv]); (have h2 : Below wq.heap.size wq W3 := ba.trans (h1.mono (by simp))); (have u0 := (h2.cell (p := ⟨g, k, none⟩) hgw).trans c0); (have u1 := (h2.cell (p := ⟨g, k * 128, none⟩) hgw).trans c1); (have HH := hidE h2); clear h1 h2))
     all_goals (go_wp2_with fail; go_meet)
     all_goals exact ⟨rfl, rfl, HH⟩
    case rest =>
     obtain ⟨rfl, rfl, hbx⟩ := hcut
     obtain ⟨wf, rfl⟩ : ∃ x : World, x = wc := ⟨wc, rfl⟩
     have hbf := hidE (hb.out.trans (hbx.out.mono hb.out.size))
     have hof := ownsRow_of_block hown.out (fun q hq => hbx.out.block q (owns_lt' hown.out hq))
     have HOF := hidE hof
     clear lh c0 c1 hof hnb hnv
     cases nb with
     | false =>
       go_wp2_with fail
       refine bodyPost_ret (v := .tuple #[.slice none 0 0, .int .i64 5]) (by simp [results, Tryz.results189, go_sem]) rfl ⟨?_, HB2.out.trans (hbf.out.mono HB2.out.size)⟩
       have hany : (List.range R).any (fun p => !nB (distN R bs p 0)) = true := List.any_eq_true.2 ⟨k, List.mem_range.2 hlt, by rw [HNB.out]; rfl⟩
       rw [show leastE R bs = ([], 5) by rw [HE.out, if_pos hany]]
       exact ⟨_, rfl, World.ownsRow_nil _ _ _ _⟩
     | true =>
       have ba : Below wf.heap.size wf (wf.alloc (.cells #[.int .i64 nv] 3)) := (Below.refl _ _).alloc (Nat.le_refl _) _
       obtain ⟨v', W', hr', ho', hb'⟩ := append_ints (wf.alloc (.cells #[.int .i64 nv] 3)) w2.heap.size u9 ((List.range k).map (fun p : Nat => -nV (distN R bs p 0))) (World.ownsRow.alloc HOF.out _) (some ⟨wf.heap.size, 0, none⟩) 1 [nv] (ints_one wf nv) (by simp; omega) (by simp) (Nat.le_trans hbf.out.size ba.size) 52
       have HR' := hidE hr'
       have HO' := hidE ho'
       have HB' := hidE (hbf.out.trans ((ba.mono hbf.out.size).trans hb'))
       clear hr' ho' hb' ba
       go_wp2_with (at_builtin; refine wpList_op_append rfl (s := .tmp 48) (x := .tmp 50) (t := 52) rfl rfl rfl HR'.out ?_)
       go_roundw
       case rel =>
        refine ⟨k + 1, by omega, by go_num, hidE (fun p hp => ?_), hidE (by rw [HSN.out]; exact HO'.out), HB'⟩
        by_cases e : p = k
        ·subst e; exact HNB.out
        ·exact hall.out p (by omega)
       case measure => simp [intOf]; omega
   ·obtain rfl : k = R := by omega
    have hmap : (List.range k).map (fun p : Nat => -nV (distN k bs p 0)) = lowV k bs := by
     unfold lowV
     exact List.map_congr_left fun p hp => by rw [nV_near (by have q := hall.out p (List.mem_range.1 hp); unfold nB at q; unfold farI; exact of_decide_eq_true q)]
    have hany : (List.range k).any (fun p => !nB (distN k bs p 0)) = false := by
     rw [List.any_eq_false]
     intro p hp
     rw [hall.out p (List.mem_range.1 hp)]; simp
    rw [hmap] at hown
    have HAN := hidE hany
    have HOW := hidE (ownsRow_base hown.out HB2.out.size)
    obtain ⟨o9, c9, e9, _, _⟩ := intsAt_of_owns hown.out
    subst e9
    have HBF := hidE (HB2.out.trans (hb.out.mono HB2.out.size))
    clear hmap hany hown hall hb
    go_wp2_with fail
    refine bodyPost_ret (v := .tuple #[.slice o9 (lowV k bs).length c9, .int .i64 0]) (by simp [results, Tryz.results189, go_sem]) rfl ⟨?_, HBF.out⟩
    rw [show leastE k bs = (lowV k bs, 0) by rw [HE.out, if_neg (by rw [HAN.out]; simp)]]
    exact ⟨_, rfl, HOW.out⟩
 ·have hE : leastE N bs = ([], askedE N bs []) := by unfold leastE extremeE; rw [if_neg he]
  obtain ⟨c, hc⟩ : ∃ c, askedE N bs [] = c := ⟨_, rfl⟩
  have hc1 : (c == 0) = false := by rw [← hc]; simpa using he
  have hc2 : (c != 0) = true := by rw [← hc]; simpa using he
  have HC := hidE hc
  have HD := hidE hE
  have HEE := hidE he
  have HA := hidE hask
  clear hE he hc hask
  go_enter Tryz.func189, Tryz.ntmps189
  go_wp2_with fail
  refine HA.out.mono ?_
  rintro e w1 ⟨hp, hb1⟩
  unfold AskedPost at hp
  rw [if_neg HEE.out, HC.out] at hp
  subst hp
  go_wp2_with fail
  refine bodyPost_ret (v := .tuple #[.slice none 0 0, .int .i64 c]) (by simp [results, Tryz.results189, go_sem]) rfl ⟨?_, hB0.trans (hb1.mono hB0.size)⟩
  rw [HD.out, HC.out]
  exact ⟨_, rfl, World.ownsRow_nil _ _ _ _⟩
set_option maxRecDepth 100000 in
theorem greatest_any (w : World) (N : Int) (a : Option Addr) (cap : Nat) (bs : List Bd) (hN : i64ok N) (hl : bs.length ≤ 9223372036854775807) (h : BoundsAt w a bs) :
 Calls Tryz.prog 117 #[.agg #[.int .i64 N, .slice a bs.length cap]] w fun e w' => PathPost (greatestE N bs).1 (greatestE N bs).2 w.heap.size e w' ∧ Below w.heap.size w w' := by
 have b0 : Below w.heap.size w (w.alloc (.cells #[.int .i64 N, .slice a bs.length cap] 61)) := (Below.refl _ _).alloc (Nat.le_refl _) _
 have hex := extreme_high (w.alloc (.cells #[.int .i64 N, .slice a bs.length cap] 61)) N a cap bs hN hl (h.alloc _)
 obtain ⟨⟨L, c⟩, hLc⟩ : ∃ t, greatestE N bs = t := ⟨_, rfl⟩
 rw [hLc] at hex ⊢
 have HEX := hidE hex
 have B0 := hidE b0
 clear hex b0 hLc
 go_enter Tryz.func117, Tryz.ntmps117
 go_wp2_with fail
 refine HEX.out.mono ?_
 rintro e w1 ⟨⟨v, rfl, ho⟩, hb1⟩
 have HO := hidE ho
 have HB := hidE hb1
 clear ho hb1
 go_wp2_with fail
 refine bodyPost_ret (v := .tuple #[v, .int .i64 c]) (by simp [results, Tryz.results117, go_sem]) rfl ⟨⟨v, rfl, ownsRow_base HO.out B0.out.size⟩, B0.out.trans (HB.out.mono B0.out.size)⟩
set_option maxRecDepth 100000 in
theorem least_any (w : World) (N : Int) (a : Option Addr) (cap : Nat) (bs : List Bd) (hN : i64ok N) (hl : bs.length ≤ 9223372036854775807) (h : BoundsAt w a bs) :
 Calls Tryz.prog 112 #[.agg #[.int .i64 N, .slice a bs.length cap]] w fun e w' => PathPost (leastE N bs).1 (leastE N bs).2 w.heap.size e w' ∧ Below w.heap.size w w' := by
 have b0 : Below w.heap.size w (w.alloc (.cells #[.int .i64 N, .slice a bs.length cap] 61)) := (Below.refl _ _).alloc (Nat.le_refl _) _
 have hex := extreme_low (w.alloc (.cells #[.int .i64 N, .slice a bs.length cap] 61)) N a cap bs hN hl (h.alloc _)
 obtain ⟨⟨L, c⟩, hLc⟩ : ∃ t, leastE N bs = t := ⟨_, rfl⟩
 rw [hLc] at hex ⊢
 have HEX := hidE hex
 have B0 := hidE b0
 clear hex b0 hLc
 go_enter Tryz.func112, Tryz.ntmps112
 go_wp2_with fail
 refine HEX.out.mono ?_
 rintro e w1 ⟨⟨v, rfl, ho⟩, hb1⟩
 have HO := hidE ho
 have HB := hidE hb1
 clear ho hb1
 go_wp2_with fail
 refine bodyPost_ret (v := .tuple #[v, .int .i64 c]) (by simp [results, Tryz.results112, go_sem]) rfl ⟨⟨v, rfl, ownsRow_base HO.out B0.out.size⟩, B0.out.trans (HB.out.mono B0.out.size)⟩
def firstE (F : Fld) (l : List Rcd) : List Int × Int := if matchE F l 0 ≠ 0 then ([], matchE F l 0) else (lowV (ptN F) (sysL F l), 0)
def lastE (F : Fld) (l : List Rcd) : List Int × Int := if matchE F l 0 ≠ 0 then ([], matchE F l 0) else (highV (ptN F) (sysL F l), 0)
set_option maxRecDepth 10000 in
set_option maxHeartbeats 2000000 in
theorem firstL_any (w : World) (x : FV) (F : Fld) (ar : Option Addr) (cr : Nat) (l : List Rcd) (h : FldAt w x F) (hr : RcdsAt w ar l) (hn : l.length ≤ 100000) (hk : ∀ r ∈ l, (0 ≤ r.call.kind ∧ r.call.kind ≤ 255) ∧ r.deed.size ≤ 9223372036854775807) :
 Calls Tryz.prog 45 #[x.val F, .slice ar l.length cr] w fun e w' => PathPost (firstE F l).1 (firstE F l).2 w.heap.size e w' ∧ Below w.heap.size w w' := by
 obtain ⟨w0, hw0⟩ : ∃ W, W = w.alloc (.cells (x.arr F) 27) := ⟨_, rfl⟩
 have B0 := hidE (show Below w.heap.size w w0 by rw [hw0]; exact (Below.refl _ _).alloc (Nat.le_refl _) _)
 have X0 := hidE (show w0.heap[w.heap.size]? = some (.cells (x.arr F) 27 (0,0)) by rw [hw0]; exact heap_alloc_new _ _)
 have HA := hidE (agreed_any w0 x F ar cr l (h.below B0.out) (hr.below B0.out (Nat.le_refl _)) hn hk 95 #[] true (enters_of Tryz.func95 (by kernel_rfl) rfl) (fun hg W b o c hw hb => anything_any W _))
 rw [show flagE true = 0 from rfl] at HA
 obtain ⟨⟨R1, R2⟩, hR⟩ : ∃ R, firstE F l = R := ⟨_, rfl⟩
 rw [hR]
 unfold firstE at hR
 have HMZ := hidE (fun (q : matchE F l 0 = 0) => match_zero.1 q)
 obtain ⟨M, hM⟩ : ∃ M, matchE F l 0 = M := ⟨_, rfl⟩
 rw [hM] at HA hR HMZ
 have HR := hidE hR
 have kk := rowc X0.out
 clear hM h hr hn hk hR
 unfold FV.val FV.arr at *
 go_enter Tryz.func45, Tryz.ntmps45
 go_upto_region 1 with fail
 rw [← hw0]
 clear hw0
 go_wp2_with fail
 refine HA.out.mono ?_
 rintro e w1 ⟨hp, hb1⟩
 have B1 := hidE (B0.out.trans (hb1.mono B0.out.size))
 clear hb1 HA kk X0
 unfold AgreedPost at hp
 by_cases h0 : M = 0
 rotate_left
 ·have hzb : (M != 0) = true := by simpa using h0
  rw [if_neg h0] at hp
  have hq := HR.out
  rw [if_pos h0] at hq
  obtain ⟨v, rfl⟩ := hp
  cases hq
  clear h0 HR HMZ
  go_wp2_with fail
  refine bodyPost_ret (v := .tuple #[.slice none 0 0, .int .i64 R2]) (by simp [results, Tryz.results45, go_sem]) rfl ⟨⟨_, rfl, World.ownsRow_nil _ _ _ _⟩, B1.out⟩
 subst h0
 rw [if_pos rfl] at hp
 have hq := HR.out
 rw [if_neg (by simp)] at hq
 obtain ⟨b, o, c, rfl, hw, hbl⟩ := hp
 obtain ⟨q1, q2, q3⟩ := HMZ.out rfl
 have hL := least_any w1 (ptN F) o c (sysL F l) (ptN_ok q1.fld) (Nat.le_trans hw.cap.1 hw.cap.2) hw.bnd
 rw [(last_eq q1 q3).2, hq] at hL
 have HX := hidE hw.box
 have kx := rowc HX.out
 unfold WV.arr at kx
 have HL := hidE hL
 obtain ⟨P, hP⟩ : ∃ P : Int, ((ptN F : Nat) : Int) = P := ⟨_, rfl⟩
 rw [hP] at kx HL
 obtain ⟨LN, hLN⟩ : ∃ n, (sysL F l).length = n := ⟨_, rfl⟩
 rw [hLN] at kx HL
 clear hP hLN hq hL q1 q2 q3 hw hbl HR HMZ HX
 go_wp2_with fail
 refine HL.out.mono ?_
 rintro e w2 ⟨⟨v, rfl, ho⟩, hb2⟩
 have B2 := hidE (B1.out.trans (hb2.mono B1.out.size))
 have HO := hidE (ownsRow_base ho B1.out.size)
 clear hb2 ho kx HL
 go_wp2_with fail
 refine bodyPost_ret (v := .tuple #[v, .int .i64 R2]) (by simp [results, Tryz.results45, go_sem]) rfl ⟨⟨_, rfl, HO.out⟩, B2.out⟩
set_option maxRecDepth 10000 in
set_option maxHeartbeats 2000000 in
theorem lastL_any (w : World) (x : FV) (F : Fld) (ar : Option Addr) (cr : Nat) (l : List Rcd) (h : FldAt w x F) (hr : RcdsAt w ar l) (hn : l.length ≤ 100000) (hk : ∀ r ∈ l, (0 ≤ r.call.kind ∧ r.call.kind ≤ 255) ∧ r.deed.size ≤ 9223372036854775807) :
 Calls Tryz.prog 49 #[x.val F, .slice ar l.length cr] w fun e w' => PathPost (lastE F l).1 (lastE F l).2 w.heap.size e w' ∧ Below w.heap.size w w' := by
 obtain ⟨w0, hw0⟩ : ∃ W, W = w.alloc (.cells (x.arr F) 27) := ⟨_, rfl⟩
 have B0 := hidE (show Below w.heap.size w w0 by rw [hw0]; exact (Below.refl _ _).alloc (Nat.le_refl _) _)
 have X0 := hidE (show w0.heap[w.heap.size]? = some (.cells (x.arr F) 27 (0,0)) by rw [hw0]; exact heap_alloc_new _ _)
 have HA := hidE (agreed_any w0 x F ar cr l (h.below B0.out) (hr.below B0.out (Nat.le_refl _)) hn hk 95 #[] true (enters_of Tryz.func95 (by kernel_rfl) rfl) (fun hg W b o c hw hb => anything_any W _))
 rw [show flagE true = 0 from rfl] at HA
 obtain ⟨⟨R1, R2⟩, hR⟩ : ∃ R, lastE F l = R := ⟨_, rfl⟩
 rw [hR]
 unfold lastE at hR
 have HMZ := hidE (fun (q : matchE F l 0 = 0) => match_zero.1 q)
 obtain ⟨M, hM⟩ : ∃ M, matchE F l 0 = M := ⟨_, rfl⟩
 rw [hM] at HA hR HMZ
 have HR := hidE hR
 have kk := rowc X0.out
 clear hM h hr hn hk hR
 unfold FV.val FV.arr at *
 go_enter Tryz.func49, Tryz.ntmps49
 go_upto_region 1 with fail
 rw [← hw0]
 clear hw0
 go_wp2_with fail
 refine HA.out.mono ?_
 rintro e w1 ⟨hp, hb1⟩
 have B1 := hidE (B0.out.trans (hb1.mono B0.out.size))
 clear hb1 HA kk X0
 unfold AgreedPost at hp
 by_cases h0 : M = 0
 rotate_left
 ·have hzb : (M != 0) = true := by simpa using h0
  rw [if_neg h0] at hp
  have hq := HR.out
  rw [if_pos h0] at hq
  obtain ⟨v, rfl⟩ := hp
  cases hq
  clear h0 HR HMZ
  go_wp2_with fail
  refine bodyPost_ret (v := .tuple #[.slice none 0 0, .int .i64 R2]) (by simp [results, Tryz.results49, go_sem]) rfl ⟨⟨_, rfl, World.ownsRow_nil _ _ _ _⟩, B1.out⟩
 subst h0
 rw [if_pos rfl] at hp
 have hq := HR.out
 rw [if_neg (by simp)] at hq
 obtain ⟨b, o, c, rfl, hw, hbl⟩ := hp
 obtain ⟨q1, q2, q3⟩ := HMZ.out rfl
 have hL := greatest_any w1 (ptN F) o c (sysL F l) (ptN_ok q1.fld) (Nat.le_trans hw.cap.1 hw.cap.2) hw.bnd
 rw [(last_eq q1 q3).1, hq] at hL
 have HX := hidE hw.box
 have kx := rowc HX.out
 unfold WV.arr at kx
 have HL := hidE hL
 obtain ⟨P, hP⟩ : ∃ P : Int, ((ptN F : Nat) : Int) = P := ⟨_, rfl⟩
 rw [hP] at kx HL
 obtain ⟨LN, hLN⟩ : ∃ n, (sysL F l).length = n := ⟨_, rfl⟩
 rw [hLN] at kx HL
 clear hP hLN hq hL q1 q2 q3 hw hbl HR HMZ HX
 go_wp2_with fail
 refine HL.out.mono ?_
 rintro e w2 ⟨⟨v, rfl, ho⟩, hb2⟩
 have B2 := hidE (B1.out.trans (hb2.mono B1.out.size))
 have HO := hidE (ownsRow_base ho B1.out.size)
 clear hb2 ho kx HL
 go_wp2_with fail
 refine bodyPost_ret (v := .tuple #[v, .int .i64 R2]) (by simp [results, Tryz.results49, go_sem]) rfl ⟨⟨_, rfl, HO.out⟩, B2.out⟩
theorem wp_rangeCaps {α : Type} {P : Program} {g : Operand} {ps : Array Tmp} {assign body : Code} {Q : Exit → Act → World → Prop} {a : Act} {w : World} {gf : Nat} {cs : Array Value}
 (hg : a.eval g = .func (.func gf) #[] cs) (eg : ∀ args w, (callFunc gf args).run P w = .ok (.enter gf args) w)
 (encs : α → Array Value) (hps : ∀ x, (encs x).size = ps.size) (S : List α → Prop) (N : Nat) (Kp : World → World → Prop) (hKt : ∀ {A B C : World}, Kp A B → Kp B C → Kp A C)
 (hKb : ∀ (W : World) (l : Nat) (o o' : Obj), w.heap.size ≤ l → W.heap[l]? = some o → o.isCells = false → o.isWalk = false → Kp W (W.putObj l o'))
 (hseq : ∀ (l : Nat) (J : List α → World → Prop) (W : World), Below w.heap.size w W → AbidesFrom W.heap.size J →
  (∀ pre x W1, J pre W1 → pre.length < N → YieldAt Fence.wide 6 P l (encs x) W1 fun e W' => e = .returned (.bool true) ∧ J (pre ++ [x]) W' ∧ Kp W1 W') → J [] W →
  CallsIn Fence.wide 7 P gf (#[.func (.yield l) #[] #[]] ++ cs) W fun e W' => (∃ v, e = .returned v) ∧ ∃ ys, S ys ∧ J ys W')
 (I : List α → World → Prop) (hI : OwnFrom w.heap.size I) (h0 : I [] w) (Ax : α → Act → World → Prop) (hAx : ∀ x a', OwnFrom w.heap.size (fun (_ : Unit) W => Ax x a' W))
 (hassign : ∀ (l : Nat) (pre : List α) (x : α) (W : World) (K : Act → World → Prop), I pre W → (∀ a' W', KeepsFrom w.heap.size W W' → Kp W W' → I pre W' → Ax x a' W' → K a' W') →
  assign.wpIn (Fence.wide.inRound l) 6 P (Exit.then K (fun _ _ _ => False)) { tmps := (ps.zip (encs x)).foldl (fun t (p, v) => t.setIfInBounds p v) a.tmps, defers := [] } W)
 (hbody : ∀ (l : Nat) (pre : List α) (x : α) (a' : Act) (W : World), I pre W → Ax x a' W → pre.length < N → body.wpIn (Fence.wide.inRound l) 6 P (roundPost w.heap.size Kp I (pre ++ [x]) W) a' W)
 (hdone : ∀ (D : Nat) (xs : List α) (W : World), w.heap.size ≤ D → S xs → I xs W → W.heap[D]? = some (.deferred (some [])) → Q .normal { a with defers := { target := .collected D, args := #[] } :: a.defers } W) :
 (Code.rangeFunc g ps assign body).wp P Q a w := by
 refine (wpIn_wide (n := 8)).1 (wpIn_rangeFunc ?_)
 intro fn hfn
 obtain ⟨rec, hrec⟩ : ∃ rec : LoopState → Loop, rec = fun st => { state := st, pending := none, fn, tmps := a.tmps, params := ps, assign, body, defers := w.heap.size } := ⟨_, rfl⟩
 obtain ⟨W1, hW1⟩ : ∃ W1, (w.alloc (.deferred (some []))).alloc (.loop (rec .ready)) = W1 := ⟨_, rfl⟩
 have hL1 : W1.heap[w.heap.size + 1]? = some (.loop (rec .ready)) := by
  rw [← hW1]; have := World.alloc_heap_new (w.alloc (.deferred (some []))) (.loop (rec .ready)); rwa [World.size_alloc] at this
 have hD1 : W1.heap[w.heap.size]? = some (.deferred (some [])) := by
  rw [← hW1]; exact (Below.heap_alloc _ _ _ (by simp)).trans (World.alloc_heap_new w _)
 have hI1 : I [] W1 := by rw [← hW1]; exact hI.alloc _ (hI.alloc _ h0)
 have hb1 : Below w.heap.size w W1 := by rw [← hW1]; exact ((Below.refl _ w).alloc (Nat.le_refl _) _).alloc (by simp) _
 refine ⟨w.heap.size + 1, [{ target := .collected w.heap.size, args := #[] }], W1, { target := .fn (.func gf) cs, args := #[.func (.yield (w.heap.size + 1)) #[] #[]] }, W1, gf,
  (#[.func (.yield (w.heap.size + 1)) #[] #[]] ++ cs), W1, ?_, ?_, ?_, ?_, fun _ => by omega, ?_⟩
 ·rw [← hW1, hrec]; exact run_enterLoop_outer _ _ _ _ _
 ·simp only [resolve, hg]
  simp [go_sem]
 ·intro f' hf'; trivial
 ·simp [invoke, go_sem, eg]
 ·have hnw : ∀ {A : World} {row : Option Nat}, (∀ r, row = some r → W1.heap.size ≤ r ∧ ∃ o : Obj, A.heap[r]? = some o ∧ o.isWalk = true) → (∀ r, row = some r → w.heap.size ≤ r ∧ ∃ o : Obj, A.heap[r]? = some o ∧ o.isCells = false) :=
   fun hr r e => by obtain ⟨hB, o, ho, hw⟩ := hr r e; exact ⟨by rw [← hW1] at hB; simp at hB; omega, o, ho, Obj.not_cells_of_walk hw⟩
  refine (hseq (w.heap.size + 1) (fun pre W => I pre W ∧ W.heap[w.heap.size + 1]? = some (.loop (rec .ready)) ∧ W.heap[w.heap.size]? = some (.deferred (some []))) W1 hb1
   (fun s A B row hs hg' hr => ⟨hI s A B row hs.1 hg' (hnw hr), (grownBy_keeps hg' (fun r e => (hr r e).2) hs.2.1 rfl).trans hs.2.1, (grownBy_keeps hg' (fun r e => (hr r e).2) hs.2.2 rfl).trans hs.2.2⟩)
   ?_ ⟨hI1, hL1, hD1⟩).mono ?_
  ·rintro pre x W ⟨hi, hl, hk⟩ hlen
   have hy := run_yield (P := P) (args := encs x) hl (by rw [hrec]; exact hps x)
   rw [hrec] at hy
   refine ⟨fn, _, assign, body, hy, roundIn_of_wpIn hfn (hassign _ pre x W _ hi ?_)⟩
   clear hy
   intro a' Wa hkfa hkpa hia hax
   have hla := hkfa.same _ _ (by omega) hl rfl
   have hka := hkfa.same _ _ (Nat.le_refl _) hk rfl
   have hlt : w.heap.size + 1 < Wa.heap.size := (Array.getElem?_eq_some_iff.1 hla).1
   obtain ⟨Wb, hWb⟩ : ∃ Wb, Wa.putObj (w.heap.size + 1) (.loop { rec .ready with state := .busy }) = Wb := ⟨_, rfl⟩
   refine ⟨Wb, by rw [← hWb]; exact run_beginRound hla (by rw [hrec]), ?_⟩
   have hlb : Wb.heap[w.heap.size + 1]? = some (.loop { rec .ready with state := .busy }) := by rw [← hWb]; exact World.putObj_heap_same hlt
   have hkb : Wb.heap[w.heap.size]? = some (.deferred (some [])) := by rw [← hWb]; exact (World.putObj_heap_other (by omega)).trans hka
   have hwb : Kp Wa Wb := by rw [← hWb]; exact hKb _ _ _ _ (by omega) hla rfl rfl
   have hib : I pre Wb := by rw [← hWb]; exact hI.putObj _ hia (by omega) hla rfl
   have haxb : Ax x a' Wb := by rw [← hWb]; exact (hAx x a').putObj (s := ()) _ hax (by omega) hla rfl
   refine wpIn_mono (hbody _ pre x a' Wb hib haxb hlen) ?_
   rintro e a3 W3 ⟨rfl, hk3, hkp3, hi3⟩
   have hl3 := hk3.same _ _ (by omega) hlb rfl
   have hd3 := hk3.same _ _ (Nat.le_refl _) hkb rfl
   have hr := run_endRound (P := P) none hl3
   rw [hrec] at hr hl3
   refine ⟨_, _, hr, rfl, ⟨hI.putObj _ hi3 (by omega) hl3 rfl, ?_, (World.putObj_heap_other (by omega)).trans hd3⟩, hKt hkpa (hKt (hKt hwb hkp3) (hKb _ _ _ _ (by omega) hl3 rfl rfl))⟩
   rw [hrec]
   exact World.putObj_heap_same (Array.getElem?_eq_some_iff.1 hl3).1
  ·rintro e W2 ⟨⟨v, rfl⟩, xs, hS, hi, hl, hk⟩
   exact ⟨none, _, by have := run_endLoop (P := P) hl (by rw [hrec]; simp); rw [hrec] at this; exact this, hdone _ xs _ (Nat.le_refl _) hS (hI.putObj _ hi (by omega) hl rfl) ((World.putObj_heap_other (by omega)).trans hk)⟩
theorem adj_asc {l : List Int} (h : ∀ j (hj : j + 1 < l.length), l[j] < l[j + 1]) : l.Pairwise (· < ·) := by
 rw [List.pairwise_iff_getElem]
 intro i j hi hj hij
 induction j with
 | zero => omega
 | succ j ih =>
   by_cases e : i = j
   ·subst e; exact h i hj
   ·exact Int.lt_trans (ih (by omega) (by omega)) (h j hj)
theorem rising_of {l : List Int} (h : ∀ j (hj : j + 1 < l.length), l[j] < l[j + 1]) : risingB l = true := (rising_iff l).2 (adj_asc h)
theorem rising_not {l : List Int} {j : Nat} (hj : j + 1 < l.length) (h : l[j + 1] ≤ l[j]) : risingB l = false := by
 cases q : risingB l with
 | false => rfl
 | true =>
   have := List.pairwise_iff_getElem.1 ((rising_iff l).1 q) j (j + 1) (by omega) hj (by omega)
   omega
set_option maxRecDepth 10000 in
set_option maxHeartbeats 2000000 in
theorem risingI_any (w : World) (a : Option Addr) (c : Nat) (l : List Int) (h : IntsAt w a l) (hl : l.length ≤ 9223372036854775807) :
 Calls Tryz.prog 187 #[.slice a l.length c] w fun e w' => e = .returned (.bool (risingB l)) ∧ Below w.heap.size w w' := by
 have H := hidE h
 have HL := hidE hl
 have HOF := hidE (fun q => rising_of (l := l) q)
 have HNO := hidE (fun j hj q => rising_not (l := l) (j := j) hj q)
 obtain ⟨R, hR⟩ : ∃ R, risingB l = R := ⟨_, rfl⟩
 rw [hR] at HOF HNO ⊢
 clear h hl hR
 have hl := HL.out
 go_enter Tryz.func187, Tryz.ntmps187
 go_wp2_with fail
 go_loopw [3] (fun i wr => ∃ k : Nat, 1 ≤ k ∧ (k ≤ l.length ∨ k = 1) ∧ i = .int .i64 (k : Int) ∧ Hid (∀ j (hj : j + 1 < l.length), j + 1 < k → l[j] < l[j + 1]) ∧ Hid (Below w.heap.size w wr)) (fun i _ => l.length - (intOf i).toNat)
 case atStart => exact ⟨1, Nat.le_refl _, .inr rfl, rfl, hidE (fun j _ q => absurd q (by omega)), hidE (Below.refl _ _)⟩
 case round =>
  obtain ⟨k, k1, kl, rfl, hall, hb⟩ := hrel
  have hl := HL.out
  by_cases hlt : k < l.length
  ·obtain ⟨j, rfl⟩ : ∃ j, k = j + 1 := ⟨k - 1, by omega⟩
   have hj : j < l.length := by omega
   obtain ⟨b0, o0, rfl, hb0, d0⟩ := H.out.at hj
   obtain ⟨b1, o1, e2, hb1, d1⟩ := H.out.at hlt
   cases e2
   have d0' := (hb.out.cell (by exact hb0)).trans d0
   have d1' := (hb.out.cell (by exact hb1)).trans d1
   obtain ⟨x, hx⟩ : ∃ x, l[j] = x := ⟨_, rfl⟩
   obtain ⟨y, hy⟩ : ∃ y, l[j + 1] = y := ⟨_, rfl⟩
   rw [hx] at d0'
   rw [hy] at d1'
   have HX := hidE hx
   have HY := hidE hy
   obtain ⟨m, hm⟩ : ∃ m, j + 1 = m := ⟨_, rfl⟩
   have HM := hidE hm
   have e0 : (m : Int) - 1 = (j : Int) := by omega
   have e1 : IntKind.i64.wrap (j : Int) = (j : Int) := IntWalk.i64_in _ (by omega)
   have j0 : (0 : Int) ≤ (j : Int) := by omega
   have j1 : (j : Int) < (l.length : Int) := by omega
   have m0 : (0 : Int) ≤ (m : Int) := by omega
   have m1 : (m : Int) < (l.length : Int) := by omega
   have HNJ := hidE (fun q => HNO.out j hlt q)
   rw [hm] at d1' ⊢
   clear d0 d1 hx hy hm
   by_cases hxy : y ≤ x
   ·have q : decide (y ≤ x) = true := decide_eq_true hxy
    have hr := HNJ.out (by rw [HX.out, HY.out]; exact hxy)
    clear hxy HNJ
    go_wp2_with fail
    go_quiet (fail)
    go_wp2_with fail
    go_ret
    exact ⟨by rw [hr]; rfl, hb.out.trans (below_drewN' _ _)⟩
   ·have q : decide (y ≤ x) = false := decide_eq_false hxy
    have hq := hidE hxy
    clear hxy HNJ
    go_wp2_with fail
    go_quiet (fail)
    go_wp2_with fail
    go_roundw
    case rel => exact ⟨m + 1, by omega, .inl (by omega), by go_num, hidE (fun i hi hik => by
     by_cases z : i + 1 < j + 1
     ·exact hall.out i hi z
     ·have hm := HM.out
      obtain rfl : i = j := by omega
      have := hq.out
      rw [HX.out, HY.out]; omega), hidE (hb.out.trans (below_drewN' _ _))⟩
    case measure => simp [intOf]; omega
  ·have hr := HOF.out (fun j hj => hall.out j hj (by omega))
   go_wp2_with fail
   go_ret
   exact ⟨by rw [hr]; rfl, hb.out⟩
section
variable {P : Program} {ops : Array Oper} {Q : Exit → Act → World → Prop} {F : Fence} {n : Nat}
theorem wpListIn_value {rest : List Oper} {o : Oper} {a : Act} {w : World} {v : Value} (hro : F.round = none) (hg : o.guard = none) (hab : o.about P w a.eval = none) (hv : (execOp a.eval o).run P w = .ok (.value v) w) (h : wpListIn F n P ops Q rest (a.put o.dst v) w) : wpListIn F n P ops Q (o :: rest) a w := by
 refine wpListIn_plain hg fun K hK => ?_
 simp only [Oper.wpIn, hro, Oper.semAt_none, hv, Oper.uponIn]
 exact ⟨fun f hf => (by rw [hab] at hf; cases hf), hK _ _ h⟩
theorem wpListIn_load_mid {rest : List Oper} {o : Oper} {a : Act} {w : World} (hro : F.round = none) (hg : o.guard = none) (hab : o.about P w a.eval = none) (ty : TypeId) (x : Operand) (ho : o.op = .load ty x)
 (b off : Nat) (hx : a.eval x = .pointer (some ⟨b, off, none⟩)) (cs : List Value) (d : TypeDesc) (hc : w.rangeAt b off cs) (hu : P.underlying ty = some d) (hd : d.isRow = true) (hi : (P.info? ty).map (·.size) = some cs.length)
 (h : wpListIn F n P ops Q rest (a.put o.dst (.agg cs.toArray)) w) : wpListIn F n P ops Q (o :: rest) a w :=
 wpListIn_value hro hg hab (by unfold execOp; simp only [ho, hx, Instr.loadAt, Instr.sureAddr, Sem.run_bind, Sem.run_pure, Result.andThen_ok, run_loadVar_mid w b off ty cs d hc hu hd hi]) h
theorem wpListIn_store_row {rest : List Oper} {o : Oper} {a : Act} {w : World} (hnd : ∀ c, o.op ≠ .defer c) (hg : o.guard = none) (hab : o.about P w a.eval = none) (ty : TypeId) (x y : Operand) (ho : o.op = .store ty x y)
 (g : Nat) (cells : Array Value) (hx : a.eval x = .pointer (some ⟨g, 0, none⟩)) (hy : a.eval y = .agg cells) (t : TypeId) (old : Array Value) (hgb : w.heap[g]? = some (.cells old t (0, 0))) (hi : (P.info? ty).map (·.size) = some cells.size)
 (hold : old.size = cells.size) (h1 : cells.all (·.oneCell') = true) (h : wpListIn F n P ops Q rest (a.put o.dst undef) (w.setRow g cells)) : wpListIn F n P ops Q (o :: rest) a w := by
 refine wpListIn_plain hg fun K hK => ?_
 have e : (execOp a.eval o).run P w = .ok .skip (w.setRow g cells) := by
  unfold execOp
  simp only [ho, hx, hy, Instr.storeAt, Instr.sureAddr, Sem.run_bind, Sem.run_pure, Result.andThen_ok, run_storeVar_row w g t ty old cells hgb hi hold h1]
 rw [show o.wpIn F n P a w K Q = ((∀ f, o.about P w a.eval = some f → F.fn f) ∧ o.uponIn F n P a K Q ((o.semAt F.round a.eval).run P w)) from rfl, Oper.semAt_eq _ _ _ hnd, e]
 exact ⟨fun f hf => (by rw [hab] at hf; cases hf), hK _ _ h⟩
end
set_option maxRecDepth 10000 in
theorem recordsW_any (w : World) (b : Nat) (a2 : Option Addr) (n c2 : Nat) (u : Bool) :
 Calls Tryz.prog 186 #[.pointer (some ⟨b, 0, none⟩), .slice a2 n c2, .bool u] w fun e w' => e = .returned (.func (.func 245) #[] #[.pointer (some ⟨w.heap.size, 0, none⟩), .pointer (some ⟨w.heap.size + 1, 0, none⟩), .pointer (some ⟨w.heap.size + 1 + 1, 0, none⟩)]) ∧ w' = ((w.alloc (.cells #[.pointer (some ⟨b, 0, none⟩)] 103)).alloc (.cells #[.slice a2 n c2] 52)).alloc (.cells #[.bool u] 4) := by
 go_enter Tryz.func186, Tryz.ntmps186
 go_wp2_with fail
 go_ret
 exact ⟨rfl, rfl⟩
structure RJ (W : World) (A b : Nat) (y : WV) (F : Fld) (l : List Rcd) (a2 : Option Addr) (c2 : Nat) (ids : List Int) : Prop where
 k0 : W.heap[A]? = some (.cells #[.pointer (some ⟨b, 0, none⟩)] 103 (0,0))
 k1 : W.heap[A + 1]? = some (.cells #[.slice a2 ids.length c2] 52 (0,0))
 k2 : W.heap[A + 1 + 1]? = some (.cells #[.bool true] 4 (0,0))
 k3 : W.heap[b]? = some (.cells (y.arr F l) 119 (0,0))
 i : IntsAt W a2 ids
 r : RcdsAt W y.ar l
theorem RJ.next {W W' : World} {A b : Nat} {y : WV} {F : Fld} {l : List Rcd} {a2 : Option Addr} {c2 : Nat} {ids : List Int} (h : RJ W A b y F l a2 c2 ids) (hb : Below W.heap.size W W') : RJ W' A b y F l a2 c2 ids :=
 ⟨blk_below hb (lt_of_block h.k0) h.k0, blk_below hb (lt_of_block h.k1) h.k1, blk_below hb (lt_of_block h.k2) h.k2, blk_below hb (lt_of_block h.k3) h.k3, h.i.below hb (Nat.le_refl _), h.r.below hb (Nat.le_refl _)⟩
structure RK (Fix : Nat → Prop) (A b : Nat) (y : WV) (a2 : Option Addr) (l : List Rcd) (ids : List Int) : Prop where
 k0 : Fix A
 k1 : Fix (A + 1)
 k2 : Fix (A + 1 + 1)
 k3 : Fix b
 i : ids ≠ [] → ∀ q, a2 = some q → Fix q.block
 r : l ≠ [] → ∀ q, y.ar = some q → Fix q.block
theorem RJ.keep {Fix : Nat → Prop} {W W' : World} {A b : Nat} {y : WV} {F : Fld} {l : List Rcd} {a2 : Option Addr} {c2 : Nat} {ids : List Int} (h : RJ W A b y F l a2 c2 ids) (f : RK Fix A b y a2 l ids) (hk : KeepsB Fix W W') : RJ W' A b y F l a2 c2 ids := by
 refine ⟨(hk.same _ f.k0).trans h.k0, (hk.same _ f.k1).trans h.k1, (hk.same _ f.k2).trans h.k2, (hk.same _ f.k3).trans h.k3, ?_, ?_⟩
 ·by_cases z : ids = []
  ·exact .inl z
  rcases h.i with e | ⟨b', off, e, hl, hc⟩
  ·exact .inl e
  ·exact .inr ⟨b', off, e, Nat.lt_of_lt_of_le hl hk.size, fun i hi => (hk.cell (p := ⟨b', off + i, none⟩) (show Fix b' from f.i z _ e)).trans (hc i hi)⟩
 ·by_cases z : l = []
  ·exact .inl z
  rcases h.r with e | ⟨b', off, e, hl, hc⟩
  ·exact .inl e
  ·exact .inr ⟨b', off, e, Nat.lt_of_lt_of_le hl hk.size, fun i hi j hj => (hk.cell (p := ⟨b', off + i * 18 + j, none⟩) (show Fix b' from f.r z _ e)).trans (hc i hi j hj)⟩
def wthL (l : List Rcd) (ids : List Int) (k : Nat) : List Rcd := (l.take k).filter fun r => ids.contains r.id
theorem wthL_all (l : List Rcd) (ids : List Int) : wthL l ids l.length = withIds l ids := by unfold wthL withIds; rw [List.take_length]
theorem wthL_succ (l : List Rcd) (ids : List Int) {n : Nat} (hn : n < l.length) : wthL l ids (n + 1) = wthL l ids n ++ (if ids.contains l[n].id = true then [l[n]] else []) := by
 unfold wthL
 rw [List.take_succ_eq_append_getElem hn, List.filter_append]
 congr 1
 by_cases h : ids.contains l[n].id = true
 ·rw [List.filter_cons, if_pos h, if_pos h]; rfl
 ·rw [List.filter_cons, if_neg h, if_neg h]; rfl
theorem wthL_lt (l : List Rcd) (ids : List Int) {n : Nat} (hn : n < l.length) (h : ids.contains l[n].id = true) : (wthL l ids n).length < (withIds l ids).length := by
 have e := wthL_succ l ids hn
 rw [if_pos h] at e
 have : (wthL l ids (n + 1)).length ≤ (withIds l ids).length := by
  unfold wthL withIds
  exact (List.Sublist.filter _ (List.take_sublist _ _)).length_le
 rw [e, List.length_append] at this
 simp at this
 omega
section
variable {P : Program} {ops : Array Oper} {Q : Exit → Act → World → Prop} {md : Region.Mode} {S : World → Prop} {last : Nat} {F : Fence} {n : Nat}
theorem wpIn_nm {c : Code} {a : Act} {w : World} (h : ∀ W2, W2 = w → c.wpIn F n P Q a W2) : c.wpIn F n P Q a w := h w rfl
theorem oI {oi : Oper} {fuel : Nat} {listed : Array Bool} {a : Act} {w : World} (i d : Nat) (hi : ops[i]? = some oi) (hB : ((waitsAll md ops last && decide (i ≠ last) || decide (ops.size ≤ last)) && tkB md ops listed i d) = true) (hro : F.round = none)
 (hw : Region.wanted oi (yielded ops a.tmps) = false) (hab : ∀ w, oi.about P w a.eval = none) (hQ : ∀ c a w, Q (.panic c) (a.put oi.dst undef) w → Q (.panic c) a w) (hS : S w)
 (h : wpAnyI F n P md ops Q S last fuel (listed.setIfInBounds i true) { a with tmps := a.tmps.setIfInBounds d undef } w) : wpAnyI F n P md ops Q S last (fuel + 1) listed a w := by
 simp only [Bool.and_eq_true, Bool.or_eq_true, decide_eq_true_eq] at hB
 obtain ⟨h1, h2, h3, h4⟩ := tkB_spec hi hB.2
 exact wpAnyI_first hro hB.1 hi (Region.noSelect_spec h2) hQ fuel listed a w (Region.free_spec hi h3) (by simpa using h4) ⟨.inr ⟨hw, rfl⟩, hab⟩ hS (by rw [h1]; exact h)
theorem oper_value {o : Oper} {a : Act} {w : World} {v : Value} {K : Act → World → Prop} (hro : F.round = none) (hab : o.about P w a.eval = none) (hv : (execOp a.eval o).run P w = .ok (.value v) w) (h : K (a.put o.dst v) w) : Oper.wpIn F n P o a w K Q := by
 simp only [Oper.wpIn, hro, Oper.semAt_none, hv, Oper.uponIn]
 exact ⟨fun f hf => (by rw [hab] at hf; cases hf), h⟩
theorem oper_load_row {o : Oper} {a : Act} {w : World} {K : Act → World → Prop} (hro : F.round = none) (hab : o.about P w a.eval = none) (ty : TypeId) (x : Operand) (ho : o.op = .load ty x) (g : Nat) (hx : a.eval x = .pointer (some ⟨g, 0, none⟩)) (t : TypeId) (fr : Nat × Nat) (cs : Array Value) (d : TypeDesc)
 (hg : w.heap[g]? = some (.cells cs t fr)) (hu : P.underlying ty = some d) (hd : (match d with | .struct _ | .array _ _ => true | _ => false) = true) (hi : (P.info? ty).map (·.size) = some cs.size) (h : K (a.put o.dst (.agg cs)) w) : Oper.wpIn F n P o a w K Q :=
 oper_value hro hab (by unfold execOp; simp only [ho, hx, Instr.loadAt, Instr.sureAddr, Sem.run_bind, Sem.run_pure, Result.andThen_ok, run_loadVar_row w g t ty cs fr d hg hu hd hi]) h
end
set_option maxRecDepth 100000 in
set_option maxHeartbeats 8000000 in
theorem records1_in (l A b : Nat) (Fix : Nat → Prop) (W : World) (y : WV) (F : Fld) (rs : List Rcd) (a2 : Option Addr) (c2 : Nat) (ids : List Int) (fk : RK Fix A b y a2 rs ids) (hl : rs.length ≤ 100000) (hil : ids.length ≤ 9223372036854775807)
 (h : RJ W A b y F rs a2 c2 ids) (J : List Rcd → World → Prop) (hJ : AbidesFrom W.heap.size J)
 (hY : ∀ pre r W1, J pre W1 → pre.length < (withIds rs ids).length → YieldAt Fence.wide 6 Tryz.prog l #[.agg r.vals] W1 fun e W' => e = .returned (.bool true) ∧ J (pre ++ [r]) W' ∧ KeepsB Fix W1 W') (h0 : J [] W) :
 CallsIn Fence.wide 7 Tryz.prog 245 (#[.func (.yield l) #[] #[]] ++ #[.pointer (some ⟨A, 0, none⟩), .pointer (some ⟨A + 1, 0, none⟩), .pointer (some ⟨A + 1 + 1, 0, none⟩)]) W fun e W' => (∃ v, e = .returned v) ∧ ∃ ys, ys = withIds rs ids ∧ J ys W' := by
 have HY := hidE hY
 have HJ := hidE hJ
 have HR := hidE h
 have HSU := hidE (fun k (hk : k < rs.length) => wthL_succ rs ids hk)
 have HLT := hidE (fun k (hk : k < rs.length) (q : ids.contains rs[k].id = true) => wthL_lt rs ids hk q)
 have HAL := hidE (wthL_all rs ids)
 have HFK := hidE fk
 have HIL := hidE hil
 have k0 := rowc h.k0
 have k3 := rowc h.k3
 unfold WV.arr at k3
 clear hY hJ h fk hil
 refine callsIn_of_wp Tryz.func245 rfl trivial ?_ rfl
 simp only [Tryz.ntmps245, List.size_toArray, List.length_cons, List.length_nil, Nat.reduceAdd, Nat.reduceSub, Array.replicate_succ, Array.replicate_zero, List.push_toArray, List.append_toArray, List.nil_append, List.cons_append]
 gi_wp2_with fail
 clear k0 k3
 gi_loopw [12] (fun p wr => ∃ k : Nat, k ≤ rs.length ∧ p = .int .i64 (k : Int) ∧ Hid (J (wthL rs ids k) wr) ∧ Hid (RJ wr A b y F rs a2 c2 ids)) (fun p _ => rs.length - (intOf p).toNat)
 case atStart => exact ⟨0, Nat.zero_le _, rfl, hidE h0, HR⟩
 case round =>
  obtain ⟨k, hk, rfl, hJk, hRk⟩ := hrel
  by_cases hlt : k < rs.length
  rotate_left
  ·obtain rfl : k = rs.length := by omega
   gi_wp2_with fail
   go_end0
   have hfin := hJk.out
   rw [HAL.out] at hfin
   exact ⟨⟨_, rfl⟩, _, rfl, hfin⟩
  obtain ⟨rb, ro, e1, hbl, hcc⟩ := RecsAt.at hRk.out.r hlt
  have HCC := hidE (range_of_recs hcc)
  have HS := hidE (HSU.out k hlt)
  have HL := hidE (HLT.out k hlt)
  obtain ⟨r, hr⟩ : ∃ r, rs[k] = r := ⟨_, rfl⟩
  rw [hr] at HS HL HCC
  have q0 : (0 : Int) ≤ (k : Int) := by omega
  have q1 : (k : Int) < (rs.length : Int) := by omega
  obtain ⟨ct, hct⟩ : ∃ c, ids.contains r.id = c := ⟨_, rfl⟩
  rw [hct] at HS HL
  have HCT := hidE hct
  clear hcc hbl hr hct
  rw [e1]
  have HE1 := hidE e1
  clear e1
  obtain ⟨wA, rfl⟩ : ∃ z : World, z = wr := ⟨wr, rfl⟩
  gi_wp2_with (first | (refine wpListIn_load_mid rfl rfl rfl 50 _ rfl rb (ro + k * 18) rfl _ _ HCC.out Tryz.underlying50 rfl (by kernel_rfl) ?_) | (refine wpListIn_store_row (fun c e => by cases e) rfl rfl 50 _ _ rfl wA.heap.size r.vals rfl rfl 50 _ (heap_alloc_new _ _) (by kernel_rfl) (by kernel_rfl) (by simp [Rcd.vals, Value.oneCell']) ?_; rw [World.setRow_alloc_new]))
  refine wpIn_nm ?_
  intro W2 hW2
  obtain ⟨g, hg⟩ : ∃ g, wA.heap.size = g := ⟨_, rfl⟩
  have hbA : Below wA.heap.size wA W2 := by rw [hW2]; exact (Below.refl _ _).alloc (Nat.le_refl _) _
  have hG0 : W2.heap[g]? = some (.cells r.vals 50) := by rw [hW2, ← hg]; exact heap_alloc_new _ _
  rw [hg]
  have j0 := hidE (jNext HJ.out hJk.out hbA)
  have R0 := hidE (hRk.out.next hbA)
  clear hW2 hbA hJk hRk HCC
  have j0 := hidE (jNext HJ.out j0.out (Below.refl _ W2).drew)
  have hS1 : RJ W2.drew A b y F rs a2 c2 ids := R0.out.next (Below.refl _ W2).drew
  have hG1 : W2.drew.heap[g]? = some (.cells r.vals 50) := hG0
  have Hc := hidE (fun W (h : RJ W A b y F rs a2 c2 ids) => contains_any W a2 c2 ids r.id HIL.out h.i)
  rw [HCT.out] at Hc
  clear hG0 R0
  refine wpIn_region_I (S := fun W => RJ W A b y F rs a2 c2 ids) (last := 100) (by kernel_rfl) ?_
  refine tI 0 16 (.slice a2 ids.length c2) rfl (by kernel_rfl) rfl rfl (fun _ => rfl) (fun _ _ _ h => h) (fun V hV => ?_) hS1 ?_
  ·have z := rowc hV.k1; simp [go_sem, execOp, z]
  try simp only [sA, sB, sC]
  refine tI 1 17 (.pointer (some ⟨g, 0, none⟩)) rfl (by kernel_rfl) rfl rfl (fun _ => rfl) (fun _ _ _ h => h) (fun V hV => ?_) hS1 ?_
  ·simp [go_sem, execOp]
  try simp only
  refine tI 4 20 (.bool true) rfl (by kernel_rfl) rfl rfl (fun _ => rfl) (fun _ _ _ h => h) (fun V hV => ?_) hS1 ?_
  ·have z := rowc hV.k2; simp [go_sem, execOp, z]
  try simp only
  refine sI 2 rfl (by kernel_rfl) (fun K hK => ?_)
  refine Eq.mpr (if_pos (by kernel_rfl)) ?_
  refine oper_value (v := .int .i64 r.id) rfl rfl (by have z := rowc hG1; unfold Rcd.vals at z; simp [go_sem, execOp, z]) ?_
  refine hK.out _ _ ⟨.inr hS1, ?_⟩
  clear hK K
  try simp only [Act.put, sA, sB, sC]
  refine sI 3 rfl (by kernel_rfl) (fun K hK => ?_)
  refine Eq.mpr (if_pos (by kernel_rfl)) ?_
  gi_wp2_with fail
  refine ⟨trivial, (callsIn_wide.2 (Hc.out _ hS1)).mono ?_⟩
  rintro e u1 ⟨rfl, rfl⟩
  gi_wp2_with fail
  refine hK.out _ _ ⟨.inr hS1, ?_⟩
  clear hK K
  try simp only [Act.put, sA, sB, sC]
  refine tI 5 21 (.bool ct) rfl (by kernel_rfl) rfl rfl (fun _ => rfl) (fun _ _ _ h => h) (fun V hV => ?_) hS1 ?_
  ·cases ct <;> simp [go_sem, execOp]
  try simp only [sA, sB, sC]
  refine tI 6 22 (.bool ct) rfl (by kernel_rfl) rfl rfl (fun _ => rfl) (fun _ _ _ h => h) (fun V hV => ?_) hS1 ?_
  ·simp [go_sem, execOp]
  try simp only [sA, sB, sC]
  cases ct with
  | false =>
    refine oI 7 23 rfl (by kernel_rfl) rfl rfl (fun _ => rfl) (fun _ _ _ h => h) hS1 ?_
    try simp only [sA, sB, sC]
    refine oI 8 24 rfl (by kernel_rfl) rfl rfl (fun _ => rfl) (fun _ _ _ h => h) hS1 ?_
    try simp only [sA, sB, sC]
    refine sI 9 rfl (by kernel_rfl) (fun K hK => ?_)
    refine Eq.mpr (if_neg (fun h => Bool.false_ne_true ((by kernel_rfl : false = _).trans h))) ?_
    refine ⟨fun _ h => (by cases h), hK.out _ _ ⟨.inr hS1, ?_⟩⟩
    clear hK K
    try simp only [Act.put, sA]
    refine oI 10 26 rfl (by kernel_rfl) rfl rfl (fun _ => rfl) (fun _ _ _ h => h) hS1 ?_
    try simp only [sA, sB, sC]
    refine tI 11 27 (.bool false) rfl (by kernel_rfl) rfl rfl (fun _ => rfl) (fun _ _ _ h => h) (fun V hV => ?_) hS1 ?_
    ·simp [go_sem, execOp]
    try simp only
    refine wpAnyI_done (by kernel_rfl) ?_ _
    gi_wp2_with fail
    go_roundw
    case rel => exact ⟨k + 1, by omega, by go_num, by rw [HS.out]; simpa using j0, hidE hS1⟩
    case measure => simp [intOf]; omega
  | true =>
    refine tI 7 23 (.func (.yield l) #[] #[]) rfl (by kernel_rfl) rfl rfl (fun _ => rfl) (fun _ _ _ h => h) (fun V hV => ?_) hS1 ?_
    ·simp [go_sem, execOp]
    try simp only [sA, sB, sC]
    refine sI 8 rfl (by kernel_rfl) (fun K hK => ?_)
    refine Eq.mpr (if_pos (by kernel_rfl)) ?_
    refine oper_load_row rfl rfl 50 _ rfl g rfl 50 (0,0) r.vals _ hG1 Tryz.underlying50 rfl (by kernel_rfl) ?_
    refine hK.out _ _ ⟨.inr hS1, ?_⟩
    clear hK K
    try simp only [Act.put, sA]
    obtain ⟨fn, tmps, assign, body, hy, hR⟩ := HY.out _ r _ j0.out (HL.out (by trivial))
    refine sI 9 rfl (by kernel_rfl) (fun K hK => ?_)
    refine Eq.mpr (if_pos (by kernel_rfl)) ?_
    gi_wp2_with fail
    refine hR.mono ?_
    rintro e W3 ⟨rfl, hJ3, hk3⟩
    have hS3 := hS1.keep HFK.out hk3
    rw [if_pos trivial] at HS
    rw [← HS.out] at hJ3
    have HJ3 := hidE hJ3
    clear hJ3 hk3 hR hy
    gi_wp2_with fail
    refine hK.out _ _ ⟨.inr hS3, ?_⟩
    clear hK K
    try simp only [Act.put, sA, sB, sC]
    refine tI 10 26 (.bool false) rfl (by kernel_rfl) rfl rfl (fun _ => rfl) (fun _ _ _ h => h) (fun V hV => ?_) hS3 ?_
    ·simp [go_sem, execOp]
    try simp only [sA, sB, sC]
    refine tI 11 27 (.bool false) rfl (by kernel_rfl) rfl rfl (fun _ => rfl) (fun _ _ _ h => h) (fun V hV => ?_) hS3 ?_
    ·simp [go_sem, execOp]
    try simp only [sA, sB, sC]
    refine wpAnyI_done (by kernel_rfl) ?_ _
    gi_wp2_with fail
    go_roundw
    case rel => exact ⟨k + 1, by omega, by go_num, HJ3, hidE hS3⟩
    case measure => simp [intOf]; omega
theorem KeepsD.cell {B : Nat} {W W' : World} (h : KeepsD B W W') {p : Addr} {v : Value} (hp : W.cell? p = some v) : W'.cell? p = some v := by
 obtain ⟨o, ho, hc⟩ := cells_of_cell hp
 cases o <;> simp [Obj.isCells] at hc
 case cells c t f =>
  have := h.cells _ _ _ _ ho
  rw [← hp]
  unfold World.cell?
  rw [ho, this]
theorem KeepsD.recs {α : Type} {k : Nat} {g : α → List Value} {B : Nat} {W W' : World} (h : KeepsD B W W') (hs : W.heap.size ≤ W'.heap.size) {a : Option Addr} {xs : List α} (hx : RecsAt k g W a xs) (hg : ∀ x, (g x).length = k) : RecsAt k g W' a xs := by
 rcases hx with e | ⟨b, off, e, hl, hc⟩
 ·exact .inl e
 ·refine .inr ⟨b, off, e, Nat.lt_of_lt_of_le hl hs, fun i hi j hj => ?_⟩
  have := hc i hi j hj
  rw [List.getElem?_eq_getElem (by rw [hg]; exact hj)] at this ⊢
  exact h.cell this
theorem KeepsD.bnds {B : Nat} {W W' : World} (h : KeepsD B W W') (hs : W.heap.size ≤ W'.heap.size) {a : Option Addr} {xs : List Bd} (hx : BoundsAt W a xs) : BoundsAt W' a xs := by
 rcases hx with e | ⟨b, off, e, hl, hc⟩
 ·exact .inl e
 ·refine .inr ⟨b, off, e, Nat.lt_of_lt_of_le hl hs, fun i hi => ?_⟩
  obtain ⟨h0, h1, h2, h3⟩ := hc i hi
  exact ⟨h.cell h0, h.cell h1, h.cell h2, h.cell h3⟩
theorem KeepsD.fld {B : Nat} {W W' : World} (h : KeepsD B W W') (hs : W.heap.size ≤ W'.heap.size) {x : FV} {F : Fld} (hx : FldAt W x F) : FldAt W' x F :=
 ⟨h.recs hs hx.st (fun _ => rfl), h.recs hs hx.lm (fun _ => rfl), h.recs hs hx.pr (fun _ => rfl), h.recs hs hx.vr (fun _ => rfl), hx.ls, hx.ll, hx.lp, hx.lv, hx.nm, hx.sx, hx.px, hx.vx⟩
theorem KeepsD.wat {B : Nat} {W W' : World} (h : KeepsD B W W') (hs : W.heap.size ≤ W'.heap.size) {b : Nat} {y : WV} {F : Fld} {l : List Rcd} (hx : WAt W b y F l) : WAt W' b y F l :=
 ⟨h.cells _ _ _ _ hx.box, h.bnds hs hx.bnd, hx.cap, h.fld hs hx.fld, h.recs hs hx.rcd (fun _ => rfl)⟩
theorem wpListIn_out {P : Program} {ops : Array Oper} {Q : Exit → Act → World → Prop} {l n : Nat} {a : Act} {w : World} (ls : List Oper) (hnd : noDefer ls.toArray = true) (hout : ¬ LetsOut Q) (h : wpList P ops Q ls a w) : wpListIn (Fence.wide.inRound l) n P ops Q ls a w :=
 wpListIn_of_wpList l n hout ls (fun o ho c => by
  obtain ⟨j, hj, e⟩ := List.getElem_of_mem ho
  exact noDefer_spec hnd j o (by simp [← e]) c) a w h
theorem built_rcd (r : Rcd) : Tryz.prog.builtSlice 50 1 [(0, .agg r.vals)] = some r.vals := by kernel_rfl
attribute [local go_sem] Oper.semAt_some
def onlyP (F : Fld) (l : List Rcd) (ids : List Int) : Prop := risingB ids = true ∧ (withIds l ids).length = ids.length ∧ (checkE F (withIds l ids)).2 = 0
def OnlyPost (F : Fld) (l : List Rcd) (ids : List Int) (e : Ending) (w' : World) : Prop :=
 (onlyP F l ids ∧ ∃ b y, e = .returned (.tuple #[.pointer (some ⟨b, 0, none⟩), .bool true]) ∧ WAt w' b y F (withIds l ids)) ∨ (¬ onlyP F l ids ∧ e = .returned (.tuple #[.pointer none, .bool false]))
theorem ymid {P : Program} {o : Oper} {a : Act} {V : World} {ty : TypeId} {x : Operand} {b off : Nat} {cs : List Value} {d : TypeDesc} (ho : o.op = .load ty x) (hx : a.eval x = .pointer (some ⟨b, off, none⟩)) (hc : V.rangeAt b off cs)
 (hu : P.underlying ty = some d) (hd : d.isRow = true) (hi : (P.info? ty).map (·.size) = some cs.length) : (execOp a.eval o).run P V = .ok (.value (.agg cs.toArray)) V := by
 unfold execOp
 simp only [ho, hx, Instr.loadAt, Instr.sureAddr, Sem.run_bind, Sem.run_pure, Result.andThen_ok, run_loadVar_mid V b off ty cs d hc hu hd hi]
theorem fld_mid {V : World} {b : Nat} {y : WV} {F : Fld} {l : List Rcd} (h : V.heap[b]? = some (.cells (y.arr F l) 119 (0,0))) : V.rangeAt b 2 (y.x.arr F).toList := by
 intro j v hv
 have e : (y.x.arr F).toList[j]? = (y.arr F l)[2 + j]? := by
  unfold FV.arr WV.arr
  match j with
  | 0 => rfl
  | 1 => rfl
  | 2 => rfl
  | 3 => rfl
  | j + 4 =>
    have := (List.getElem?_eq_some_iff.1 hv).1
    unfold FV.arr at this
    simp at this
    omega
 rw [cell_of_row _ _ _ _ _ _ h, ← e]
 exact hv
def noPan (Q : Exit → Act → World → Prop) : Exit → Act → World → Prop := fun e a w => (∀ c, e ≠ .panic c) ∧ Q e a w
theorem wp_noPan {P : Program} {c : Code} {Q : Exit → Act → World → Prop} {a : Act} {w : World} (h : c.wp P (noPan Q) a w) : c.wp P Q a w := Code.wp_mono (fun _ _ _ h => h.2) h
theorem noPan_hQ {Q : Exit → Act → World → Prop} {d : Option Tmp} {v : Value} : ∀ c a w, noPan Q (.panic c) (a.put d v) w → noPan Q (.panic c) a w := fun _ _ _ h => (h.1 _ rfl).elim
theorem keep_typed50 {W wa : World} {tmp : Obj} {v nv : Value} {B k base n : Nat} {cs : Array Value} {t : TypeId} {f : Nat × Nat} {xs : List Value} (h : W.ownsRow base 50 18 v n xs) (hg : (W.alloc tmp).grownBy wa v.ownBlock) (hk : W.heap[k]? = some (.cells cs t f)) (ht : t ≠ 50) (hB : k ≠ B) : (wa.setCell ⟨B, 0, none⟩ nv).heap[k]? = W.heap[k]? := by
 rw [heap_setCell_other _ _ _ _ hB]
 have hlt := lt_of_block hk
 rw [hg.block k (by simp; omega) ?_]
 ·exact Below.heap_alloc _ _ _ hlt
 ·intro e
  rcases h.2 with ⟨rfl, _⟩ | ⟨g, cap, cur, rfl, _, hgb, _⟩
  ·cases e
  ·simp only [Value.ownBlock, Option.some.injEq] at e
   subst e
   rw [hk] at hgb
   cases hgb
   exact ht rfl
set_option maxRecDepth 100000 in
set_option maxHeartbeats 4000000 in
theorem only_any (w : World) (b : Nat) (y : WV) (F : Fld) (l : List Rcd) (a2 : Option Addr) (c2 : Nat) (ids : List Int) (h : WAt w b y F l) (hi : IntsAt w a2 ids) (hil : ids.length ≤ 9223372036854775807) (hn : l.length ≤ 100000) (hk : ∀ r ∈ l, (0 ≤ r.call.kind ∧ r.call.kind ≤ 255) ∧ r.deed.size ≤ 9223372036854775807) :
 Calls Tryz.prog 107 #[.pointer (some ⟨b, 0, none⟩), .slice a2 ids.length c2] w fun e w' => OnlyPost F l ids e w' ∧ Below w.heap.size w w' := by
 obtain ⟨i0, hi50, hz0, hz1, hz2⟩ := info_parts info50
 have HI0 := hidE hi50
 have HZ0 := hidE hz0
 have HZ1 := hidE hz1
 have HZ2 := hidE hz2
 obtain ⟨w1, hw1⟩ : ∃ W, W = w.alloc (.cells #[.slice none 0 0] 28) := ⟨_, rfl⟩
 have HS1 := hidE (show w1.heap.size = w.heap.size + 1 by rw [hw1]; simp)
 have HB1 := hidE (show Below w.heap.size w w1 by rw [hw1]; exact (Below.refl _ _).alloc (Nat.le_refl _) _)
 have HBX := hidE (show Boxed w1 w.heap.size 28 (.slice none 0 0) by rw [hw1]; exact Boxed.new w 28 (.slice none 0 0))
 have HW := hidE (h.next HB1.out)
 have HI := hidE (hi.below HB1.out (Nat.le_refl _))
 have HW0 := hidE h
 have HI00 := hidE hi
 have HW1 := hidE hw1
 have HK := hidE hk
 have HNN := hidE hn
 have HIL := hidE hil
 have HLT := hidE h.lt
 clear hi50 hz0 hz1 hz2 hw1 h hi hk
 refine (callsIn_wide (n := 8)).1 (callsIn_of_wp_marks Tryz.func107 rfl trivial (wpIn_wide.2 ?_) rfl)
 simp only [Tryz.ntmps107, List.size_toArray, List.length_cons, List.length_nil, Nat.reduceAdd, Nat.reduceSub, Array.replicate_succ, Array.replicate_zero, List.push_toArray, List.append_toArray, List.nil_append, List.cons_append]
 go_upto_region 2 with fail
 rw [← HW1.out]
 clear HW1
 go_wp2_with fail
 refine (recordsW_any _ b a2 ids.length c2 true).mono ?_
 rintro e w2 ⟨rfl, hw2⟩
 have HS2 := hidE (show w2.heap.size = w.heap.size + 4 by rw [hw2]; have := HS1.out; simp; omega)
 have hb2 : Below w1.heap.size w1 w2 := by rw [hw2]; exact (((Below.refl _ _).alloc (Nat.le_refl _) _).alloc (by simp) _).alloc (by simp; omega) _
 have HB2 := hidE (HB1.out.trans (hb2.mono HB1.out.size))
 have HBX2 := hidE (show Boxed w2 w.heap.size 28 (.slice none 0 0) by rw [hw2]; exact ((HBX.out.alloc _).alloc _).alloc _)
 have HR2 := hidE (show RJ w2 w1.heap.size b y F l a2 c2 ids by
  have hh := HW.out.next hb2
  refine ⟨?_, ?_, ?_, hh.box, HI.out.below hb2 (Nat.le_refl _), hh.rcd⟩
  ·rw [hw2, Below.heap_alloc _ _ _ (by simp; omega), Below.heap_alloc _ _ _ (by simp)]; exact heap_alloc_new _ _
  ·rw [hw2, Below.heap_alloc _ _ _ (by simp)]; have := heap_alloc_new (w1.alloc (.cells #[.pointer (some ⟨b, 0, none⟩)] 103)) (.cells #[.slice a2 ids.length c2] 52); simpa using this
  ·rw [hw2]; have := heap_alloc_new ((w1.alloc (.cells #[.pointer (some ⟨b, 0, none⟩)] 103)).alloc (.cells #[.slice a2 ids.length c2] 52)) (.cells #[.bool true] 4); simpa using this)
 clear hw2 hb2 HBX HW HI
 go_wp2_with fail
 obtain ⟨Fix, hFix⟩ : ∃ Fix : Nat → Prop, Fix = (fun k => k ≠ w.heap.size ∧ k < w.heap.size + 4) := ⟨_, rfl⟩
 have FK := hidE (show RK Fix w1.heap.size b y a2 l ids by
  have hlt := HLT.out
  have HL1 := HS1.out
  rw [hFix]
  refine ⟨⟨by omega, by omega⟩, ⟨by omega, by omega⟩, ⟨by omega, by omega⟩, ⟨by omega, by omega⟩, fun z q e => ?_, fun z q e => ?_⟩
  ·rcases HI00.out with e0 | ⟨b', o', e', hl, _⟩
   ·exact absurd e0 z
   ·rw [e] at e'; cases e'; exact ⟨by dsimp only; omega, by dsimp only; omega⟩
  ·rcases HW0.out.rcd with e0 | ⟨b', o', e', hl, _⟩
   ·exact absurd e0 z
   ·rw [e] at e'; cases e'; exact ⟨by dsimp only; omega, by dsimp only; omega⟩)
 have HFX := hidE hFix
 have HSPN := hidE (fun (lv : Nat) W (hr : RJ W w1.heap.size b y F l a2 c2 ids) => records1_in lv w1.heap.size b Fix W y F l a2 c2 ids FK.out HNN.out HIL.out hr)
 have HQL := hidE (show (withIds l ids).length ≤ 100000 from Nat.le_trans (List.length_filter_le _ _) HNN.out)
 have HQK := hidE (show ∀ r ∈ withIds l ids, (0 ≤ r.call.kind ∧ r.call.kind ≤ 255) ∧ r.deed.size ≤ 9223372036854775807 from fun r hr => HK.out r (List.mem_filter.1 hr).1)
 have HON := hidE (show onlyP F l ids ↔ (risingB ids = true ∧ (withIds l ids).length = ids.length ∧ (checkE F (withIds l ids)).2 = 0) from Iff.rfl)
 obtain ⟨R, hR⟩ : ∃ R, withIds l ids = R := ⟨_, rfl⟩
 rw [hR] at HSPN HQL HQK HON
 have HRR := hidE hR
 have HKB := hidE (show ∀ A B : World, w2.heap.size ≤ A.heap.size → Below A.heap.size A B → KeepsB Fix A B from fun A B hs hb => KeepsB.below hb (fun k hk => by rw [hFix] at hk; have := HS2.out; have := hk.2; omega))
 clear hFix hR
 obtain ⟨IX, hIX⟩ : ∃ IX : List Rcd → World → Prop, (fun pre W => (∃ v, Boxed W w.heap.size 28 v ∧ W.ownsRow w.heap.size 50 18 v pre.length (pre.flatMap Rcd.cells) ∧ pre.length ≤ R.length) ∧ Below w.heap.size w W ∧ w.heap.size + 4 ≤ W.heap.size ∧ RJ W w1.heap.size b y F l a2 c2 ids) = IX := ⟨_, rfl⟩
 refine wp_rangeCaps (gf := 245) (cs := #[.pointer (some ⟨w1.heap.size, 0, none⟩), .pointer (some ⟨w1.heap.size + 1, 0, none⟩), .pointer (some ⟨w1.heap.size + 1 + 1, 0, none⟩)]) rfl (enters_of Tryz.func245 (by kernel_rfl) rfl) (fun (r : Rcd) => #[.agg r.vals]) (fun x => rfl) (fun ys => ys = R) R.length (KeepsB Fix) (fun h k => h.trans k) ?kb ?seq
  IX ?own ?start (fun y' a' W => ∃ g, a' = { tmps := #[.pointer (some ⟨b, 0, none⟩), .slice a2 ids.length c2, undef, undef, .pointer none, .bool false, .pointer (some ⟨w.heap.size, 0, none⟩), .pointer (some ⟨g, 0, none⟩), undef, undef, .pointer (some ⟨b, 0, none⟩), .slice a2 ids.length c2, .func (.func 245) #[] #[.pointer (some ⟨w1.heap.size, 0, none⟩), .pointer (some ⟨w1.heap.size + 1, 0, none⟩), .pointer (some ⟨w1.heap.size + 1 + 1, 0, none⟩)], .agg y'.vals, undef, undef, undef, undef, undef, undef, undef, undef, undef, undef, undef, undef, undef, undef, undef, undef, undef, undef, undef, undef, undef, undef, undef, undef, undef, undef], defers := [] } ∧ W.heap[g]? = some (.cells y'.vals 50 (0,0)) ∧ w.heap.size + 4 ≤ g) ?ax ?assign ?body ?done
 case kb =>
  intro W lv o o' hle ho hi hwk
  have := HS2.out
  refine ⟨by simp, fun k hk => ?_⟩
  rw [HFX.out] at hk
  exact World.putObj_heap_other (by have := hk.2; omega)
 case seq =>
  intro lv J W hb J2 hY h0
  exact HSPN.out lv W (HR2.out.next hb) J J2 hY h0
 case own =>
  rw [← hIX]
  rintro pre X Y row ⟨h1, h2, h3, h4⟩ hg hr
  have hs2 := HS2.out
  refine ⟨holdsRow_own w.heap.size w.heap.size 28 50 18 (fun p : List Rcd => p.length) (fun p => p.flatMap Rcd.cells) (fun p _ => p.length ≤ R.length) pre X Y row h1 hg (fun r e => (hr r e).2), h2.grown hg (by omega) (fun k e => by have := (hr k e).1; omega), Nat.le_trans h3 hg.size, ?_⟩
  refine h4.keep FK.out ⟨hg.size, fun k hk => ?_⟩
  rw [HFX.out] at hk
  have := hk.2
  exact hg.block _ (by omega) (fun e => by have := (hr _ e.symm).1; omega)
 case start =>
  rw [← hIX]
  exact ⟨⟨_, HBX2.out, World.ownsRow_nil _ _ _ _, Nat.zero_le _⟩, HB2.out, by rw [HS2.out]; omega, HR2.out⟩
 case ax =>
  rintro y' a' _ X Y row ⟨g, h1, h2, h3⟩ hg hr
  exact ⟨g, h1, (grownBy_keeps_cells hg (fun r e => (hr r e).2) h2 rfl).trans h2, h3⟩
 case assign =>
  intro lv pre y' W K hI hK
  have hI2 := hI
  rw [← hIX] at hI2
  have hsz := hI2.2.2.1
  obtain ⟨WA, hWA⟩ : ∃ WA, WA = W.alloc (.cells y'.vals 50) := ⟨_, rfl⟩
  have hba : Below W.heap.size W WA := by rw [hWA]; exact (Below.refl _ _).alloc (Nat.le_refl _) _
  have hIA : IX pre WA := by
   rw [← hIX]
   obtain ⟨⟨v, g1, g2, g3⟩, g4, g5, g6⟩ := hI2
   exact ⟨⟨v, by rw [hWA]; exact g1.alloc _, by rw [hWA]; exact g2.alloc _, g3⟩, g4.trans (hba.mono g4.size), Nat.le_trans g5 hba.size, g6.next hba⟩
  have hK2 := hK _ WA (by rw [hWA]; exact (KeepsOthers.alloc W _).from _) (HKB.out _ _ (by have := HS2.out; omega) hba) hIA ⟨W.heap.size, rfl, by rw [hWA]; exact heap_alloc_new _ _, hsz⟩
  clear hK
  rw [hWA] at hK2
  simp only [s_a, s_b, s_c, List.zip_toArray, List.zip_cons_cons, List.zip_nil_right, List.foldl_toArray, List.foldl_cons, List.foldl_nil] at hK2 ⊢
  gi_wp2_with (refine wpListIn_out _ (by kernel_rfl) (by rintro ⟨a, w, h⟩; exact h) ?_; refine wpList_store_row rfl 50 _ _ rfl W.heap.size y'.vals rfl rfl 50 _ (heap_alloc_new _ _) (by kernel_rfl) (by kernel_rfl) (by simp [Rcd.vals, Value.oneCell']) ?_; rw [World.setRow_alloc_new])
  exact hK2
 case body =>
  rintro lv pre y' a' W hIW ⟨g, rfl, hg, hgl⟩ hlen2
  rw [← hIX] at hIW
  obtain ⟨⟨v, hv, hrow, hpl⟩, hbl, hsz, hK⟩ := hIW
  have c0 := hv.cell
  have HG := hidE hg
  have HV := hidE hv
  have HROW := hidE hrow
  have HBL := hidE hbl
  have HSZ := hidE hsz
  have HKK := hidE hK
  obtain ⟨v', wa, hrun, hown', hgrow, -⟩ := run_append_own (P := Tryz.prog) (W.alloc (.cells y'.vals 50)) w.heap.size 28 28 50 i0 _ 18 152 Tryz.underlying28 HI0.out HZ0.out HZ1.out HZ2.out rfl (by decide) v pre.length (pre.flatMap Rcd.cells) (hrow.alloc _) ⟨W.heap.size, 0, none⟩ 1 1 y'.cells rfl (fun j u hj => by
   rw [show ((⟨W.heap.size, 0, none⟩ : Addr).add j) = ⟨W.heap.size, 0 + j, none⟩ from by unfold Addr.add; split <;> simp_all]
   rw [cell_of_row _ _ _ _ _ _ (heap_alloc_new W (.cells y'.vals 50)), Nat.zero_add]
   simpa [Rcd.cells, Rcd.vals] using hj) (rcd_one y') (by have := HQL.out; unfold maxLen; omega) (by have := HQL.out; omega) (by simp; omega)
  obtain ⟨g', cp', rfl⟩ := ownsRow_succ hown'
  have hA := Boxed.appended hv (by decide) hrow (by omega) (Nat.le_refl _) hown' hgrow
  have cb := hA.1.cell
  have fb := hA.1.frozen
  have HRUN := hidE hrun
  have HGR := hidE hgrow
  have HA := hidE hA
  clear hv hrow hbl hsz hK hrun hA hown' hgrow hg
  gi_wp2_with (refine wpListIn_out _ (by kernel_rfl) (by rintro ⟨a, w, h⟩; cases h.1) ?_; go_wp2_with (first | (at_builtin; refine wpList_op_append rfl (s := .tmp 14) (x := .tmp 16) (t := 28) rfl rfl rfl HRUN.out ?_) | (refine wpList_load_rowG rfl 50 _ rfl _ rfl g rfl 50 _ (0,0) _ HG.out Tryz.underlying50 rfl (by kernel_rfl) ?_) | (refine Great.wpList_buildSliceTo rfl 28 50 1 _ rfl _ rfl _ rfl Tryz.underlying28 y'.vals (by simp [Act.eval]; exact built_rcd y') ?_)))
  have h1s := HS1.out
  have kb : KeepsB Fix W (wa.setCell ⟨w.heap.size, 0, none⟩ (.slice (some ⟨g', 0, none⟩) (pre.length + 1) cp')) := by
   refine ⟨HA.out.2.2.2.2.size, fun k hk => ?_⟩
   rw [HFX.out] at hk
   by_cases hkl : k < w.heap.size
   ·exact HA.out.2.2.2.2.block k hkl
   ·have q : k = w1.heap.size ∨ k = w1.heap.size + 1 ∨ k = w1.heap.size + 1 + 1 := by have := hk.1; have := hk.2; omega
    rcases q with rfl | rfl | rfl
    ·exact keep_typed50 HROW.out HGR.out HKK.out.k0 (by decide) (by omega)
    ·exact keep_typed50 HROW.out HGR.out HKK.out.k1 (by decide) (by omega)
    ·exact keep_typed50 HROW.out HGR.out HKK.out.k2 (by decide) (by omega)
  refine ⟨rfl, HA.out.2.2.2.1.from _, kb, ?_⟩
  rw [← hIX]
  refine ⟨⟨_, HA.out.2.1, ?_, ?_⟩, HBL.out.trans HA.out.2.2.2.2, Nat.le_trans HSZ.out kb.size, HKK.out.keep FK.out kb⟩
  ·have := HA.out.2.2.1
   rw [List.length_append, List.flatMap_append]
   simpa using this
  ·rw [List.length_append]; exact hlen2
 case done =>
  rintro D ys W hD hys hI2 hKD
  subst hys
  rw [← hIX] at hI2
  obtain ⟨⟨v, hv, hrow, _⟩, hbl, hsz, hrj⟩ := hI2
  obtain ⟨a3, c3, rfl, hr3⟩ := rcds_owned hrow
  have c0 := hv.cell
  have HBV := hidE hv
  have HROW := hidE hrow
  have HBL := hidE hbl
  have HR3 := hidE hr3
  have HRJ := hidE hrj
  have HKD := hidE hKD
  have hs2 := HS2.out
  have HDG := hidE (show w.heap.size ≤ D from by omega)
  have HRI := hidE (fun W (h : IntsAt W a2 ids) => risingI_any W a2 c2 ids h HIL.out)
  obtain ⟨rb, hrb⟩ : ∃ r, risingB ids = r := ⟨_, rfl⟩
  rw [hrb] at HRI HON
  clear hv hrow hbl hr3 hrj hKD hrb
  go_wp2_with fail
  refine (HRI.out _ HRJ.out.i).mono ?_
  rintro e w3 ⟨rfl, hb3⟩
  have HB3 := hidE hb3
  have HWS := hidE (show w.heap.size < W.heap.size by omega)
  have HBS := hidE (show b < W.heap.size from lt_of_block HRJ.out.k3)
  have c1 : w3.cell? ⟨w.heap.size, 0, none⟩ = some (.slice a3 ys.length c3) := (hb3.cell (p := ⟨w.heap.size, 0, none⟩) HWS.out).trans c0
  have HB3W := hidE (HBL.out.trans (hb3.mono HBL.out.size))
  have HCQ := hidE c1
  clear hb3 c0
  cases rb with
  | false =>
    have hno : ¬ onlyP F l ids := fun q => by have := (HON.out.1 q).1; cases this
    clear c1
    go_wp2_with fail
    refine leaves_marks (B := w.heap.size) _ w3 ⟨[D], rfl, by simp, fun D' hm => by rw [List.mem_singleton] at hm; subst hm; exact ⟨HDG.out, blk_below HB3.out (lt_of_block HKD.out) HKD.out⟩⟩ (fun W' hk' => ?_)
    exact ⟨_, results_tmp2 Tryz.results107 _ _ _, .inr ⟨hno, rfl⟩, HB3W.out.trans hk'.below⟩
  | true =>
    by_cases hne : ys.length = ids.length
    rotate_left
    ·have hno : ¬ onlyP F l ids := fun q => hne (HON.out.1 q).2.1
     have hd : ((ys.length : Int) != (ids.length : Int)) = true := by simp only [bne_iff_ne, ne_eq]; omega
     have HNO := hidE hno
     clear hno hne
     go_wp2_with fail
     refine leaves_marks (B := w.heap.size) _ w3 ⟨[D], rfl, by simp, fun D' hm => by rw [List.mem_singleton] at hm; subst hm; exact ⟨HDG.out, blk_below HB3.out (lt_of_block HKD.out) HKD.out⟩⟩ (fun W' hk' => ?_)
     exact ⟨_, results_tmp2 Tryz.results107 _ _ _, .inr ⟨HNO.out, rfl⟩, HB3W.out.trans hk'.below⟩
    have hd : ((ys.length : Int) != (ids.length : Int)) = false := by simp only [bne_eq_false_iff_eq]; omega
    have HNE := hidE hne
    clear hne
    go_upto_region 7 with fail
    have hS0 : Below w3.heap.size w3 w3.drew := (Below.refl _ _).drew
    have HX3 := hidE (show w3.heap[b]? = some (.cells (y.arr F l) 119 (0,0)) from blk_below HB3.out HBS.out HRJ.out.k3)
    have HOP := hidE (fun W9 (hb : Below W.heap.size W W9) (h0 : Below w.heap.size w W9) => open_any W9 y.x F a3 c3 ys (HW0.out.fld.below h0) (HR3.out.below hb (Nat.le_refl _)) HQL.out HQK.out)
    unfold FV.val FV.arr at HOP
    refine wp_noPan ?_
    refine wp_region_F (S := Below w3.heap.size w3) (last := 100) (by kernel_rfl) ?_
    refine tF 0 29 (.pointer (some ⟨b, 0, none⟩)) rfl (by kernel_rfl) rfl noPan_hQ (fun V hV => ?_) hS0 ?_
    ·simp [go_sem, execOp]
    try simp only [sA, sB, sC]
    refine tF 1 30 (.pointer (some ⟨b, 0, none⟩)) rfl (by kernel_rfl) rfl noPan_hQ (fun V hV => ?_) hS0 ?_
    ·simp [go_sem, execOp]
    try simp only [sA, sB, sC]
    refine tF 2 31 (.pointer (some ⟨b, 2, none⟩)) rfl (by kernel_rfl) rfl noPan_hQ (fun V hV => ?_) hS0 ?_
    ·simp [go_sem, execOp]
    try simp only [sA, sB, sC]
    refine tF 3 32 (.agg #[.slice y.x.aS F.sts.length y.x.cS, .slice y.x.aL F.lms.length y.x.cL, .slice y.x.aP F.prs.length y.x.cP, .slice y.x.aV F.vrs.length y.x.cV]) rfl (by kernel_rfl) rfl noPan_hQ (fun V hV => ?_) hS0 ?_
    ·exact ymid rfl rfl (fld_mid (blk_below hV (lt_of_block HX3.out) HX3.out)) Tryz.underlying27 rfl (by kernel_rfl)
    try simp only [sA, sB, sC]
    refine tF 4 33 (.slice a3 ys.length c3) rfl (by kernel_rfl) rfl noPan_hQ (fun V hV => ?_) hS0 ?_
    ·(have z := (hV.cell (p := ⟨w.heap.size, 0, none⟩) (Nat.lt_of_lt_of_le HWS.out HB3.out.size)).trans HCQ.out; simp [go_sem, execOp, z])
    try simp only [sA, sB, sC]
    refine wpAnyF_step 5 rfl (by kernel_rfl) (fun K hK => ?_)
    go_simp
    go_at_call 85
    refine (HOP.out _ (HB3.out.trans (hS0.mono HB3.out.size)) (HB3W.out.trans (hS0.mono HB3W.out.size))).mono ?_
    rintro e w5 ⟨hp, hb5⟩
    have hS5 : Below w3.heap.size w3 w5 := hS0.trans (hb5.mono hS0.size)
    have HB5 := hidE (HB3W.out.trans (hS5.mono HB3W.out.size))
    have HBW5 := hidE (HB3.out.trans (hS5.mono HB3.out.size))
    obtain ⟨er, her⟩ : ∃ er, (checkE F ys).2 = er := ⟨_, rfl⟩
    rw [her] at hp
    have HER := hidE her
    clear hb5 her
    unfold OpenPost at hp
    by_cases h0 : er = 0
    ·rw [if_pos h0] at hp
     obtain ⟨bb, oo, cc, rfl, hw, -, -⟩ := hp
     have HWW := hidE hw
     have hyes : onlyP F l ids := HON.out.2 ⟨by trivial, HNE.out, HER.out.trans h0⟩
     have HYES := hidE hyes
     clear hw hyes h0 hd c1
     go_wp2_with fail
     refine hK.out _ _ (.inr hS5) ?_
     clear hK K
     try simp only [Act.put, sA, sB, sC]
     refine tF 6 28 (.tuple #[.pointer (some ⟨bb, 0, none⟩), .int .i64 0]) rfl (by kernel_rfl) rfl noPan_hQ (fun V hV => ?_) hS5 ?_
     ·simp [go_sem, execOp]
     try simp only [sA, sB, sC]
     refine tF 7 35 (.pointer (some ⟨bb, 0, none⟩)) rfl (by kernel_rfl) rfl noPan_hQ (fun V hV => ?_) hS5 ?_
     ·simp [go_sem, execOp]
     try simp only [sA, sB, sC]
     refine tF 8 36 (.int .i64 0) rfl (by kernel_rfl) rfl noPan_hQ (fun V hV => ?_) hS5 ?_
     ·simp [go_sem, execOp]
     try simp only [sA, sB, sC]
     refine tF 9 8 (.pointer (some ⟨bb, 0, none⟩)) rfl (by kernel_rfl) rfl noPan_hQ (fun V hV => ?_) hS5 ?_
     ·simp [go_sem, execOp]
     try simp only [sA, sB, sC]
     refine tF 10 9 (.int .i64 0) rfl (by kernel_rfl) rfl noPan_hQ (fun V hV => ?_) hS5 ?_
     ·simp [go_sem, execOp]
     try simp only [sA, sB, sC]
     refine wpAnyF_done (by kernel_rfl) ?_ _
     refine ⟨fun _ h => (by cases h), ?_⟩
     go_wp2_with fail
     refine leaves_marks (B := w.heap.size) _ w5 ⟨[D], rfl, by simp, fun D' hm => by rw [List.mem_singleton] at hm; subst hm; exact ⟨HDG.out, blk_below HBW5.out (lt_of_block HKD.out) HKD.out⟩⟩ (fun W' hk' => ?_)
     exact ⟨_, results_tmp2 Tryz.results107 _ _ _, .inl ⟨HYES.out, _, _, rfl, by rw [HRR.out]; exact hk'.wat hk'.below.size HWW.out⟩, HB5.out.trans hk'.below⟩
    ·rw [if_neg h0] at hp
     subst hp
     have hno : ¬ onlyP F l ids := fun q => h0 (HER.out.symm.trans (HON.out.1 q).2.2)
     have HNO := hidE hno
     have hz : (er == 0) = false := by simpa using h0
     clear hno h0 hd c1
     go_wp2_with fail
     refine hK.out _ _ (.inr hS5) ?_
     clear hK K
     try simp only [Act.put, sA, sB, sC]
     refine tF 6 28 (.tuple #[.pointer none, .int .i64 er]) rfl (by kernel_rfl) rfl noPan_hQ (fun V hV => ?_) hS5 ?_
     ·simp [go_sem, execOp]
     try simp only [sA, sB, sC]
     refine tF 7 35 (.pointer none) rfl (by kernel_rfl) rfl noPan_hQ (fun V hV => ?_) hS5 ?_
     ·simp [go_sem, execOp]
     try simp only [sA, sB, sC]
     refine tF 8 36 (.int .i64 er) rfl (by kernel_rfl) rfl noPan_hQ (fun V hV => ?_) hS5 ?_
     ·simp [go_sem, execOp]
     try simp only [sA, sB, sC]
     refine tF 9 8 (.pointer none) rfl (by kernel_rfl) rfl noPan_hQ (fun V hV => ?_) hS5 ?_
     ·simp [go_sem, execOp]
     try simp only [sA, sB, sC]
     refine tF 10 9 (.int .i64 er) rfl (by kernel_rfl) rfl noPan_hQ (fun V hV => ?_) hS5 ?_
     ·simp [go_sem, execOp]
     try simp only [sA, sB, sC]
     refine wpAnyF_done (by kernel_rfl) ?_ _
     refine ⟨fun _ h => (by cases h), ?_⟩
     go_wp2_with fail
     refine leaves_marks (B := w.heap.size) _ w5 ⟨[D], rfl, by simp, fun D' hm => by rw [List.mem_singleton] at hm; subst hm; exact ⟨HDG.out, blk_below HBW5.out (lt_of_block HKD.out) HKD.out⟩⟩ (fun W' hk' => ?_)
     exact ⟨_, results_tmp2 Tryz.results107 _ _ _, .inr ⟨HNO.out, rfl⟩, HB5.out.trans hk'.below⟩
theorem only_good {F : Fld} {l : List Rcd} (h : Good F l) (ids : List Int) : onlyP F l ids ↔ onlyB l ids = true := by
 unfold onlyP onlyB
 rw [Bool.and_eq_true, decide_eq_true_eq]
 exact ⟨fun q => ⟨q.1, q.2.1⟩, fun q => ⟨q.1, q.2, (check_iff F _).2 (with_good h ids)⟩⟩
def conB (F : Fld) (l : List Rcd) (ids : List Int) : Bool := onlyB l ids && !agreeB F (withIds l ids)
set_option maxRecDepth 10000 in
set_option maxHeartbeats 2000000 in
theorem conB_any (w : World) (x : FV) (F : Fld) (ar : Option Addr) (cr : Nat) (l : List Rcd) (a2 : Option Addr) (c2 : Nat) (ids : List Int) (h : FldAt w x F) (hr : RcdsAt w ar l) (hn : l.length ≤ 100000) (hk : ∀ r ∈ l, (0 ≤ r.call.kind ∧ r.call.kind ≤ 255) ∧ r.deed.size ≤ 9223372036854775807) (hi : IntsAt w a2 ids) (hil : ids.length ≤ 9223372036854775807) :
 Calls Tryz.prog 43 #[x.val F, .slice ar l.length cr, .slice a2 ids.length c2] w fun e w' => e = .returned (.tuple #[.bool (if (checkE F l).2 = 0 then conB F l ids else false), .int .i64 (checkE F l).2]) ∧ Below w.heap.size w w' := by
 obtain ⟨w0, hw0⟩ : ∃ W, W = w.alloc (.cells (x.arr F) 27) := ⟨_, rfl⟩
 have B0 := hidE (show Below w.heap.size w w0 by rw [hw0]; exact (Below.refl _ _).alloc (Nat.le_refl _) _)
 have X0 := hidE (show w0.heap[w.heap.size]? = some (.cells (x.arr F) 27 (0,0)) by rw [hw0]; exact heap_alloc_new _ _)
 have HC := hidE (open_any w0 x F ar cr l (h.below B0.out) (hr.below B0.out (Nat.le_refl _)) hn hk)
 have HG := hidE (fun (q : (checkE F l).2 = 0) => (check_iff F l).1 q)
 have HI := hidE (fun W (hb : Below w.heap.size w W) => hi.below hb (Nat.le_refl _))
 have HON := hidE (fun W b y (q : WAt W b y F l) (hb : Below w.heap.size w W) => only_any W b y F l a2 c2 ids q (HI.out W hb) hil hn hk)
 obtain ⟨r2, hR⟩ : ∃ R, (checkE F l).2 = R := ⟨_, rfl⟩
 rw [hR] at HC HG
 rw [hR]
 obtain ⟨RV, hRV⟩ : ∃ v, (if r2 = 0 then conB F l ids else false) = v := ⟨_, rfl⟩
 rw [hRV]
 have HRV := hidE hRV
 clear hR h hr hn hk hi hRV
 have kk := rowc X0.out
 unfold FV.val FV.arr at *
 go_enter Tryz.func43, Tryz.ntmps43
 go_upto_region 1 with fail
 rw [← hw0]
 clear hw0
 go_wp2_with fail
 refine HC.out.mono ?_
 rintro e w1 ⟨hp, hb1⟩
 have B1 := hidE (B0.out.trans (hb1.mono B0.out.size))
 clear hb1 HC X0 kk
 unfold OpenPost at hp
 by_cases h0 : r2 = 0
 rotate_left
 ·have hzb : (r2 != 0) = true := by simpa using h0
  rw [if_neg h0] at hp
  subst hp
  have hv := HRV.out
  rw [if_neg h0] at hv
  subst hv
  clear h0 HG HON HRV
  go_wp2_with fail
  go_ret2
  exact ⟨rfl, B1.out⟩
 subst h0
 rw [if_pos rfl] at hp
 obtain ⟨b, o, c, rfl, hw, -, -⟩ := hp
 have hG := HG.out rfl
 have HO := hidE (HON.out w1 b _ hw B1.out)
 have HAG := hidE (fun W b y (q : WAt W b y F (withIds l ids)) => agrees_any W b y F (withIds l ids) q (by have := pt_le hG.fld; unfold i64ok; omega))
 rw [agrees_num (with_good hG ids)] at HAG
 have HOG := hidE (only_good hG ids)
 have HCB := hidE (show conB F l ids = (onlyB l ids && !agreeB F (withIds l ids)) from rfl)
 have hv := HRV.out
 rw [if_pos rfl] at hv
 obtain ⟨ob, hob⟩ : ∃ v, onlyB l ids = v := ⟨_, rfl⟩
 obtain ⟨ab, hab⟩ : ∃ v, agreeB F (withIds l ids) = v := ⟨_, rfl⟩
 rw [hab] at HAG
 rw [hv, hob, hab] at HCB
 rw [hob] at HOG
 clear hv hob hab hG hw HG HON HRV
 go_wp2_with fail
 refine HO.out.mono ?_
 rintro e w2 ⟨hp, hb2⟩
 have B2 := hidE (B1.out.trans (hb2.mono B1.out.size))
 clear hb2 HO
 rcases hp with ⟨hy, b2, y2, rfl, hw2⟩ | ⟨hno, rfl⟩
 ·have ho := HOG.out.1 hy
  subst ho
  have HA := hidE (HAG.out _ _ _ hw2)
  have hc := HCB.out
  clear hy hw2 HAG HOG HCB
  go_wp2_with fail
  refine HA.out.mono ?_
  rintro e w3 ⟨rfl, hb3⟩
  have B3 := hidE (B2.out.trans (hb3.mono B2.out.size))
  clear hb3 HA
  subst hc
  cases ab
  ·go_wp2_with fail
   go_ret2
   exact ⟨rfl, B3.out⟩
  ·go_wp2_with fail
   go_ret2
   exact ⟨rfl, B3.out⟩
 ·have ho : ob = false := by
   cases ob
   ·rfl
   ·exact absurd (HOG.out.2 rfl) hno
  subst ho
  have hc := HCB.out
  subst hc
  clear hno HAG HOG HCB
  go_wp2_with fail
  go_ret2
  exact ⟨rfl, B2.out⟩
def drwB (F : Fld) (l : List Rcd) (y : List Int) : Bool := (keptE (ptN F) (sysL F l) y).2.1 && decide ((keptE (ptN F) (sysL F l) y).2.2 = 0)
def drawE (F : Fld) (l : List Rcd) (y : List Int) : Bool × Int := if (checkE F l).2 ≠ 0 then (false, (checkE F l).2) else (drwB F l y, 0)
set_option maxRecDepth 10000 in
set_option maxHeartbeats 2000000 in
theorem drawing_any (w : World) (b : Nat) (v : WV) (F : Fld) (l : List Rcd) (h : WAt w b v F l) (hF : F.check = 0) (a2 : Option Addr) (c2 : Nat) (y : List Int) (hl : y.length ≤ 9223372036854775807) (h2 : IntsAt w a2 y) :
 Calls Tryz.prog 125 #[.pointer (some ⟨b, 0, none⟩), .slice a2 y.length c2] w fun e w' => e = .returned (.bool (drwB F l y)) ∧ Below w.heap.size w w' := by
 have HK := hidE (kept_any w (ptN F) v.o v.c (sysL F l) a2 c2 y (ptN_ok hF) (Nat.le_trans h.cap.1 h.cap.2) hl h.bnd h2)
 unfold drwB
 obtain ⟨⟨k1, k2, k3⟩, hk⟩ : ∃ k, keptE (ptN F) (sysL F l) y = k := ⟨_, rfl⟩
 rw [hk] at HK ⊢
 have kx := rowc h.box
 unfold WV.arr at kx
 obtain ⟨P, hP⟩ : ∃ P : Int, ((ptN F : Nat) : Int) = P := ⟨_, rfl⟩
 obtain ⟨LN, hLN⟩ : ∃ n, (sysL F l).length = n := ⟨_, rfl⟩
 obtain ⟨LY, hLY⟩ : ∃ n, y.length = n := ⟨_, rfl⟩
 rw [hP, hLN] at kx HK
 rw [hLY] at HK ⊢
 clear hP hLN hLY hk h hF hl h2
 go_enter Tryz.func125, Tryz.ntmps125
 go_wp2_with fail
 refine HK.out.mono ?_
 rintro e w1 ⟨rfl, hb1⟩
 have B1 := hidE hb1
 clear hb1 kx HK
 cases k2
 ·go_wp2_with fail
  go_ret
  exact ⟨rfl, B1.out⟩
 ·by_cases h3 : k3 = 0
  ·subst h3
   go_wp2_with fail
   go_ret
   exact ⟨rfl, B1.out⟩
  ·have z : (k3 == 0) = false := by simpa using h3
   have HZ := hidE (show decide (k3 = 0) = false by simpa using h3)
   clear h3
   go_wp2_with fail
   go_ret
   exact ⟨by rw [HZ.out]; rfl, B1.out⟩
set_option maxRecDepth 10000 in
set_option maxHeartbeats 2000000 in
theorem drawL_any (w : World) (x : FV) (F : Fld) (ar : Option Addr) (cr : Nat) (l : List Rcd) (h : FldAt w x F) (hr : RcdsAt w ar l) (hn : l.length ≤ 100000) (hk : ∀ r ∈ l, (0 ≤ r.call.kind ∧ r.call.kind ≤ 255) ∧ r.deed.size ≤ 9223372036854775807)
 (a2 : Option Addr) (c2 : Nat) (y : List Int) (hl : y.length ≤ 9223372036854775807) (h2 : IntsAt w a2 y) :
 Calls Tryz.prog 59 #[x.val F, .slice ar l.length cr, .slice a2 y.length c2] w fun e w' => e = .returned (.tuple #[.bool (drawE F l y).1, .int .i64 (drawE F l y).2]) ∧ Below w.heap.size w w' := by
 obtain ⟨w0, hw0⟩ : ∃ W, W = w.alloc (.cells (x.arr F) 27) := ⟨_, rfl⟩
 have B0 := hidE (show Below w.heap.size w w0 by rw [hw0]; exact (Below.refl _ _).alloc (Nat.le_refl _) _)
 have X0 := hidE (show w0.heap[w.heap.size]? = some (.cells (x.arr F) 27 (0,0)) by rw [hw0]; exact heap_alloc_new _ _)
 have HC := hidE (open_any w0 x F ar cr l (h.below B0.out) (hr.below B0.out (Nat.le_refl _)) hn hk)
 have HG := hidE (fun (q : (checkE F l).2 = 0) => (check_iff F l).1 q)
 have HI := hidE (h2.below B0.out (Nat.le_refl _))
 have HYL := hidE hl
 obtain ⟨⟨R1, R2⟩, hR⟩ : ∃ R, drawE F l y = R := ⟨_, rfl⟩
 rw [hR]
 unfold drawE at hR
 obtain ⟨M, hM⟩ : ∃ M, (checkE F l).2 = M := ⟨_, rfl⟩
 rw [hM] at HC HG hR
 have HR := hidE hR
 have kk := rowc X0.out
 obtain ⟨LY, hLY⟩ : ∃ n, y.length = n := ⟨_, rfl⟩
 have HLY := hidE hLY
 rw [hLY]
 clear hM h hr hn hk hR h2 hl hLY
 unfold FV.val FV.arr at *
 go_enter Tryz.func59, Tryz.ntmps59
 go_upto_region 1 with fail
 rw [← hw0]
 clear hw0
 go_wp2_with fail
 refine HC.out.mono ?_
 rintro e w1 ⟨hp, hb1⟩
 have B1 := hidE (B0.out.trans (hb1.mono B0.out.size))
 have HI1 := hidE (HI.out.below hb1 (Nat.le_refl _))
 clear hb1 HC X0 kk HI
 unfold OpenPost at hp
 by_cases h0 : M = 0
 rotate_left
 ·have hzb : (M != 0) = true := by simpa using h0
  rw [if_neg h0] at hp
  subst hp
  have hq := HR.out
  rw [if_pos h0] at hq
  cases hq
  clear h0 HR HG
  go_wp2_with fail
  go_ret2
  exact ⟨rfl, B1.out⟩
 subst h0
 rw [if_pos rfl] at hp
 obtain ⟨b, o, c, rfl, hw, hbl, -⟩ := hp
 have hq := HR.out
 rw [if_neg (by simp)] at hq
 have HD := hidE (drawing_any w1 b _ F l hw (HG.out rfl).fld a2 c2 y HYL.out HI1.out)
 rw [HLY.out] at HD
 obtain ⟨db, hdb⟩ : ∃ v, drwB F l y = v := ⟨_, rfl⟩
 rw [hdb] at HD hq
 cases hq
 clear hdb hw hbl HR HG HI1 HYL HLY
 go_wp2_with fail
 refine HD.out.mono ?_
 rintro e w2 ⟨rfl, hb2⟩
 have B2 := hidE (B1.out.trans (hb2.mono B1.out.size))
 clear hb2 HD
 go_wp2_with fail
 go_ret2
 exact ⟨rfl, B2.out⟩
theorem drwB_iff {F : Fld} {l : List Rcd} (h : Good F l) {y : List Int} : drwB F l y = true ↔ Drw F l y := kept_eq h y
theorem ids_recs (q : List Bd) : IdsOf q (recordsP q) := ⟨recordsP_asc q, fun x => by rw [mem_recordsP]; exact ⟨fun ⟨b, h1, h2, h3⟩ => ⟨by omega, b, h1, h3⟩, fun ⟨h0, b, h1, h3⟩ => ⟨b, h1, by omega, h3⟩⟩⟩
theorem either_spec {F : Fld} {l : List Rcd} (h : (conflictE F l).2.2 = 0) :
 (∀ y, drawE F l y = (drwB F l y, 0)) ∧ (checkE F l).2 = 0 ∧
 ((conflictE F l).2.1 = true → (firstE F l).2 = 40 ∧ (lastE F l).2 = 40 ∧ (firstE F l).1 = [] ∧ (lastE F l).1 = [] ∧ (∀ y, drwB F l y = false) ∧ conB F l (conflictE F l).1 = true ∧ (conflictE F l).1.length ≤ 4000) ∧
 ((conflictE F l).2.1 = false → (conflictE F l).1 = [] ∧ (firstE F l).2 = 0 ∧ (lastE F l).2 = 0 ∧ drwB F l (firstE F l).1 = true ∧ drwB F l (lastE F l).1 = true ∧ (firstE F l).1.length ≤ 128 ∧ (lastE F l).1.length ≤ 128 ∧
   ∀ y, drwB F l y = true → y.length = (firstE F l).1.length ∧ y.length = (lastE F l).1.length ∧ ∀ n, n < y.length → (firstE F l).1.getD n 0 ≤ y.getD n 0 ∧ y.getD n 0 ≤ (lastE F l).1.getD n 0) := by
 have hc : (checkE F l).2 = 0 := by
  refine Classical.byContradiction fun q => ?_
  unfold conflictE at h
  rw [if_pos q] at h
  exact q h
 have g := (check_iff F l).1 hc
 refine ⟨fun y => by unfold drawE; rw [if_neg (by rw [hc]; simp)], hc, fun hb => ?_, fun hb => ?_⟩
 ·have ha : agreeB F l = false := by
   cases q : agreeB F l with
   | false => rfl
   | true => unfold conflictE at hb; rw [if_neg (by rw [hc]; simp), if_pos q] at hb; cases hb
  have hm : matchE F l 0 = 40 := by unfold matchE; rw [if_neg (by rw [hc]; simp), if_neg (by simp), if_neg (by rw [ha]; simp)]
  have e1 : firstE F l = ([], 40) := by unfold firstE; rw [hm, if_pos (by simp)]
  have e2 : lastE F l = ([], 40) := by unfold lastE; rw [hm, if_pos (by simp)]
  obtain ⟨c, k1, k2, k3, a, k4, k5, k6⟩ := conflict_circle g ha
  have e3 : (conflictE F l).1 = recordsP (c.map (bAt (sysL F l))) := by unfold conflictE; rw [if_neg (by rw [hc]; simp), if_neg (by rw [ha]; simp), k1]
  have cs := circle_shows g k4 k5 k6 (ids_recs _)
  refine ⟨by rw [e1], by rw [e2], by rw [e1], by rw [e2], fun y => ?_, ?_, ?_⟩
  ·cases q : drwB F l y with
   | false => rfl
   | true => exact absurd ((drwB_iff g).1 q) (either_none g ha y)
  ·unfold conB; rw [e3, cs.1, cs.2]; rfl
  ·rw [e3]; have := recordsP_len (c.map (bAt (sysL F l))); rw [List.length_map] at this; have := (pt_le g.fld).2; omega
 ·have ha : agreeB F l = true := by
   cases q : agreeB F l with
   | true => rfl
   | false => unfold conflictE at hb; rw [if_neg (by rw [hc]; simp), if_neg (by rw [q]; simp)] at hb; cases hb
  have hm : matchE F l 0 = 0 := match_zero.2 ⟨g, rfl, ha⟩
  have e1 : firstE F l = (lowV (ptN F) (sysL F l), 0) := by unfold firstE; rw [hm, if_neg (by simp)]
  have e2 : lastE F l = (highV (ptN F) (sysL F l), 0) := by unfold lastE; rw [hm, if_neg (by simp)]
  have d := last_drw g ha
  have pl := (pt_le g.fld).2
  refine ⟨by unfold conflictE; rw [if_neg (by rw [hc]; simp), if_pos ha], by rw [e1], by rw [e2], by rw [e1]; exact (drwB_iff g).2 d.2, by rw [e2]; exact (drwB_iff g).2 d.1, by rw [e1, d.2.len]; exact pl, by rw [e2, d.1.len]; exact pl, fun y hy => ?_⟩
  have k := (drwB_iff g).1 hy
  rw [e1, e2]
  refine ⟨by rw [k.len, d.2.len], by rw [k.len, d.1.len], fun n hn => ?_⟩
  have := either_between g k hn
  exact ⟨this.2.1, this.2.2⟩
theorem either_err {F : Fld} {l : List Rcd} (h : (conflictE F l).2.2 ≠ 0) : (firstE F l).2 = (conflictE F l).2.2 ∧ (lastE F l).2 = (conflictE F l).2.2 ∧ (conflictE F l).2.1 = false ∧ (conflictE F l).1 = [] := by
 by_cases hc : (checkE F l).2 ≠ 0
 ·have e : conflictE F l = ([], false, (checkE F l).2) := by unfold conflictE; rw [if_pos hc]
  have hm : matchE F l 0 = (checkE F l).2 := by unfold matchE; rw [if_pos hc]
  rw [e]
  refine ⟨?_, ?_, rfl, rfl⟩
  ·unfold firstE; rw [hm, if_pos hc]
  ·unfold lastE; rw [hm, if_pos hc]
 ·exfalso
  apply h
  unfold conflictE
  rw [if_neg hc]
  split <;> rfl
set_option maxRecDepth 10000 in
set_option maxHeartbeats 8000000 in
theorem limitsEither_any (w : World) (x : FV) (F : Fld) (ar : Option Addr) (cr : Nat) (l : List Rcd) (a2 : Option Addr) (c2 : Nat) (y : List Int) (h : FldAt w x F) (hr : RcdsAt w ar l) (hn : l.length ≤ 9223372036854775807) (hd : ∀ r ∈ l, r.deed.size ≤ 9223372036854775807) (hk : ∀ r ∈ l, 0 ≤ r.call.kind ∧ r.call.kind ≤ 255) (hm_y : y.length ≤ 9223372036854775807) (hi_y : IntsAt w a2 y) :
 Calls Tryz.prog 16 #[x.val F, .slice ar l.length cr, .slice a2 y.length c2] w fun e w' => e = .returned (.bool true) ∧ Below w.heap.size w w' := by
 obtain ⟨w0, hw0⟩ : ∃ W, W = w.alloc (.cells (x.arr F) 27) := ⟨_, rfl⟩
 have B0 := hidE (show Below w.heap.size w w0 by rw [hw0]; exact (Below.refl _ _).alloc (Nat.le_refl _) _)
 have X0 := hidE (show Kb [(w.heap.size, .cells (x.arr F) 27)] w0 by
  rw [hw0]
  have := Kb.alloc (W := w) (o := .cells (x.arr F) 27) (L := []) trivial
  simpa using this)
 have HF := hidE (fun W (hb : Below w0.heap.size w0 W) => (h.below B0.out).below hb)
 have HRR := hidE (fun W (hb : Below w0.heap.size w0 W) => (hr.below B0.out (Nat.le_refl _)).below hb (Nat.le_refl _))
 have HI_y := hidE (fun W (hb : Below w0.heap.size w0 W) => (hi_y.below B0.out (Nat.le_refl _)).below hb (Nat.le_refl _))
 have HM_y := hidE hm_y
 have HSM := hidE (smallL_any w0 x F ar cr l (h.below B0.out) (hr.below B0.out (Nat.le_refl _)) hn hd)
 have HSV := hidE (fun W => surveyed_any W)
 have HRC := hidE (fun (q : smallB F l = true) => And.intro (small_facts q) (small_recs q hk))
 obtain ⟨sm, hsm⟩ : ∃ b, smallB F l = b := ⟨_, rfl⟩
 rw [hsm] at HSM HRC
 have k0 := rowc X0.out.1
 unfold FV.arr at k0
 unfold FV.val FV.arr at HSM
 clear h hr hn hd hk hsm hm_y hi_y
 go_enter Tryz.func16, Tryz.ntmps16
 go_upto_region 1 with fail
 try unfold FV.val FV.arr
 rw [show w.alloc (.cells #[.slice x.aS F.sts.length x.cS, .slice x.aL F.lms.length x.cL, .slice x.aP F.prs.length x.cP, .slice x.aV F.vrs.length x.cV] 27) = w0 from hw0.symm]
 clear hw0
 go_wp2_with fail
 refine HSM.out.mono ?_
 rintro e w1 ⟨rfl, hb1⟩
 have BB1 := hidE hb1
 have X1 := hidE (X0.out.next hb1)
 clear hb1 k0 HSM X0
 cases sm
 ·go_wp2_with fail
  refine (HSV.out _).mono ?_
  rintro e wz ⟨rfl, hbz⟩
  have BZ := hidE (B0.out.trans ((BB1.out.trans (hbz.mono BB1.out.size)).mono B0.out.size))
  clear hbz
  go_wp2_with fail
  go_ret
  exact ⟨rfl, BZ.out⟩
 obtain ⟨⟨⟨f1, f2, f3⟩, f4, f5⟩, hn5, hk5⟩ := HRC.out (by trivial)
 by_cases hy2 : y.length ≤ 200
 rotate_left
 ·have dy : decide (200 < (y.length : Int)) = true := by simp; omega
  go_wp2_with fail
  refine (HSV.out _).mono ?_
  rintro e wz ⟨rfl, hbz⟩
  have BZ := hidE (B0.out.trans ((BB1.out.trans (hbz.mono BB1.out.size)).mono B0.out.size))
  clear hbz
  go_wp2_with fail
  go_ret
  exact ⟨rfl, BZ.out⟩
 have dy : decide (200 < (y.length : Int)) = false := by simp; omega
 have HCF := hidE (fun W (hb : Below w0.heap.size w0 W) => conflictL_any W x F ar cr l (HF.out W hb) (HRR.out W hb) hn5 hk5)
 have HFI := hidE (fun W (hb : Below w0.heap.size w0 W) => firstL_any W x F ar cr l (HF.out W hb) (HRR.out W hb) hn5 hk5)
 have HLA := hidE (fun W (hb : Below w0.heap.size w0 W) => lastL_any W x F ar cr l (HF.out W hb) (HRR.out W hb) hn5 hk5)
 have HDR := hidE (fun W (hb : Below w0.heap.size w0 W) a9 c9 (z : List Int) (hz : z.length ≤ 9223372036854775807) (hi : IntsAt W a9 z) => drawL_any W x F ar cr l (HF.out W hb) (HRR.out W hb) hn5 hk5 a9 c9 z hz hi)
 have HCN := hidE (fun W (hb : Below w0.heap.size w0 W) a9 c9 (z : List Int) (hz : z.length ≤ 9223372036854775807) (hi : IntsAt W a9 z) => conB_any W x F ar cr l a9 c9 z (HF.out W hb) (HRR.out W hb) hn5 hk5 hi hz)
 have HSP := hidE (fun (q : (conflictE F l).2.2 = 0) => either_spec q)
 have HER := hidE (fun (q : (conflictE F l).2.2 ≠ 0) => either_err q)
 obtain ⟨⟨CI, CB, CE⟩, hp⟩ : ∃ p, conflictE F l = p := ⟨_, rfl⟩
 obtain ⟨⟨A, AE⟩, hp2⟩ : ∃ p, firstE F l = p := ⟨_, rfl⟩
 obtain ⟨⟨Z, ZE⟩, hp3⟩ : ∃ p, lastE F l = p := ⟨_, rfl⟩
 rw [hp] at HCF HSP HER
 rw [hp2] at HFI HSP HER
 rw [hp3] at HLA HSP HER
 dsimp only at HSP HER
 obtain ⟨n1, hn1⟩ : ∃ n, CI.length = n := ⟨_, rfl⟩
 obtain ⟨n2, hn2⟩ : ∃ n, A.length = n := ⟨_, rfl⟩
 obtain ⟨n3, hn3⟩ : ∃ n, Z.length = n := ⟨_, rfl⟩
 have HN1 := hidE hn1
 have HN2 := hidE hn2
 have HN3 := hidE hn3
 have HY2 := hidE hy2
 clear hp hp2 hp3 hn1 hn2 hn3 f1 f2 f3 f4 f5 hn5 hk5 HRC HF HRR hy2
 have k0 := rowc X1.out.1
 unfold FV.arr at k0
 have HC := hidE (HCF.out w1 BB1.out)
 try unfold FV.val FV.arr at HC
 go_wp2_with fail
 refine HC.out.mono ?_
 rintro e w2 ⟨⟨v1, rfl, o1⟩, hb⟩
 have BB2 := hidE (BB1.out.trans (hb.mono BB1.out.size))
 have X2 := hidE (X1.out.next hb)
 obtain ⟨a3, c3, rfl, hi1⟩ := owns_intsAt o1
 have LA2 := hidE hi1
 simp only [HN1.out]
 clear hb k0 HC BB1 X1 HCF o1 hi1 dy
 have k0 := rowc X2.out.1
 unfold FV.arr at k0
 have HC := hidE (HFI.out w2 BB2.out)
 try unfold FV.val FV.arr at HC
 go_wp2_with fail
 refine HC.out.mono ?_
 rintro e w3 ⟨⟨v1, rfl, o1⟩, hb⟩
 have BB3 := hidE (BB2.out.trans (hb.mono BB2.out.size))
 have X3 := hidE (X2.out.next hb)
 have LA3 := hidE (LA2.out.below hb (Nat.le_refl _))
 obtain ⟨a4, c4, rfl, hi1⟩ := owns_intsAt o1
 have LB3 := hidE hi1
 simp only [HN2.out]
 clear hb k0 HC BB2 X2 LA2 HFI o1 hi1
 have k0 := rowc X3.out.1
 unfold FV.arr at k0
 have HC := hidE (HLA.out w3 BB3.out)
 try unfold FV.val FV.arr at HC
 go_wp2_with fail
 refine HC.out.mono ?_
 rintro e w4 ⟨⟨v1, rfl, o1⟩, hb⟩
 have BB4 := hidE (BB3.out.trans (hb.mono BB3.out.size))
 have X4 := hidE (X3.out.next hb)
 have LA4 := hidE (LA3.out.below hb (Nat.le_refl _))
 have LB4 := hidE (LB3.out.below hb (Nat.le_refl _))
 obtain ⟨a5, c5, rfl, hi1⟩ := owns_intsAt o1
 have LC4 := hidE hi1
 simp only [HN3.out]
 clear hb k0 HC BB3 X3 LA3 LB3 HLA o1 hi1
 by_cases h0 : CE = 0
 rotate_left
 ·obtain ⟨e1, e2, e3, e4⟩ := HER.out h0
  have hzb : (CE != 0) = true := by simpa using h0
  have hz1 : (AE == CE) = true := by simpa using e1
  have hz2 : (ZE == CE) = true := by simpa using e2
  have hz3 : n1 = 0 := by rw [← HN1.out, e4]; rfl
  subst e3 hz3
  clear h0 e1 e2 e4 HER HSP HDR HCN
  go_wp2_with fail
  refine (HSV.out _).mono ?_
  rintro e wz ⟨rfl, hbz⟩
  have BZ := hidE (B0.out.trans ((BB4.out.trans (hbz.mono BB4.out.size)).mono B0.out.size))
  clear hbz
  go_wp2_with fail
  go_ret
  exact ⟨rfl, BZ.out⟩
 subst h0
 obtain ⟨hD, hck, hT, hN⟩ := HSP.out (by trivial)
 have HDY := hidE (fun W (hb : Below w0.heap.size w0 W) => (by
  have := HDR.out W hb a2 c2 y HM_y.out (HI_y.out W hb)
  rw [hD] at this
  exact this))
 have HDA := hidE (fun W (hb : Below w0.heap.size w0 W) a9 c9 (hz : A.length ≤ 9223372036854775807) (hi : IntsAt W a9 A) => (by
  have := HDR.out W hb a9 c9 A hz hi
  rw [hD, HN2.out] at this
  exact this))
 have HDZ := hidE (fun W (hb : Below w0.heap.size w0 W) a9 c9 (hz : Z.length ≤ 9223372036854775807) (hi : IntsAt W a9 Z) => (by
  have := HDR.out W hb a9 c9 Z hz hi
  rw [hD, HN3.out] at this
  exact this))
 have HCC := hidE (fun W (hb : Below w0.heap.size w0 W) a9 c9 (hz : CI.length ≤ 9223372036854775807) (hi : IntsAt W a9 CI) => (by
  have := HCN.out W hb a9 c9 CI hz hi
  rw [hck, if_pos rfl, HN1.out] at this
  exact this))
 have HT := hidE hT
 have HNO := hidE hN
 obtain ⟨dr, hdr⟩ : ∃ d, drwB F l y = d := ⟨_, rfl⟩
 rw [hdr] at HDY
 have HDRY := hidE hdr
 clear hD hck hT hN hdr HSP HER HDR HCN
 have k0 := rowc X4.out.1
 unfold FV.arr at k0
 have HC := hidE (HDY.out w4 BB4.out)
 try unfold FV.val FV.arr at HC
 go_wp2_with fail
 refine HC.out.mono ?_
 rintro e w5 ⟨rfl, hb⟩
 have BB5 := hidE (BB4.out.trans (hb.mono BB4.out.size))
 have X5 := hidE (X4.out.next hb)
 have LA5 := hidE (LA4.out.below hb (Nat.le_refl _))
 have LB5 := hidE (LB4.out.below hb (Nat.le_refl _))
 have LC5 := hidE (LC4.out.below hb (Nat.le_refl _))
 clear hb k0 HC BB4 X4 LA4 LB4 LC4 HDY
 cases CB
 rotate_left
 ·obtain ⟨e1, e2, e3, e4, e5, e6, e7⟩ := HT.out (by trivial)
  have e8 : dr = false := HDRY.out.symm.trans (e5 y)
  rw [e6] at HCC
  subst e1 e2 e8
  have hcl : CI.length ≤ 9223372036854775807 := by omega
  clear e3 e4 e5 e6 e7 HT HNO HDRY HDA HDZ
  have k0 := rowc X5.out.1
  unfold FV.arr at k0
  have HC := hidE (HCC.out w5 BB5.out a3 c3 hcl LA5.out)
  try unfold FV.val FV.arr at HC
  go_wp2_with fail
  refine HC.out.mono ?_
  rintro e w6 ⟨rfl, hb⟩
  have BB6 := hidE (BB5.out.trans (hb.mono BB5.out.size))
  have X6 := hidE (X5.out.next hb)
  have LA6 := hidE (LA5.out.below hb (Nat.le_refl _))
  have LB6 := hidE (LB5.out.below hb (Nat.le_refl _))
  have LC6 := hidE (LC5.out.below hb (Nat.le_refl _))
  clear hb k0 HC BB5 X5 LA5 LB5 LC5 HCC hcl
  go_wp2_with fail
  refine (HSV.out _).mono ?_
  rintro e wz ⟨rfl, hbz⟩
  have BZ := hidE (B0.out.trans ((BB6.out.trans (hbz.mono BB6.out.size)).mono B0.out.size))
  clear hbz
  go_wp2_with fail
  go_ret
  exact ⟨rfl, BZ.out⟩
 obtain ⟨e1, e2, e3, e4, e5, e6, e7, e8⟩ := HNO.out (by trivial)
 have hz3 : n1 = 0 := by rw [← HN1.out, e1]; rfl
 subst e2 e3 hz3
 rw [e4] at HDA
 rw [e5] at HDZ
 have HA1 := hidE e6
 have HZ1 := hidE e7
 have HBT := hidE (fun (q : dr = true) => e8 y (HDRY.out.trans q))
 clear e1 e4 e5 e6 e7 e8 HT HNO HDRY HCC
 have k0 := rowc X5.out.1
 unfold FV.arr at k0
 have HC := hidE (HDA.out w5 BB5.out a4 c4 (by have := HA1.out; omega) LB5.out)
 try unfold FV.val FV.arr at HC
 go_wp2_with fail
 refine HC.out.mono ?_
 rintro e w6 ⟨rfl, hb⟩
 have BB6 := hidE (BB5.out.trans (hb.mono BB5.out.size))
 have X6 := hidE (X5.out.next hb)
 have LA6 := hidE (LA5.out.below hb (Nat.le_refl _))
 have LB6 := hidE (LB5.out.below hb (Nat.le_refl _))
 have LC6 := hidE (LC5.out.below hb (Nat.le_refl _))
 clear hb k0 HC BB5 X5 LA5 LB5 LC5 HDA
 have k0 := rowc X6.out.1
 unfold FV.arr at k0
 have HC := hidE (HDZ.out w6 BB6.out a5 c5 (by have := HZ1.out; omega) LC6.out)
 try unfold FV.val FV.arr at HC
 go_wp2_with fail
 refine HC.out.mono ?_
 rintro e w7 ⟨rfl, hb⟩
 have BB7 := hidE (BB6.out.trans (hb.mono BB6.out.size))
 have X7 := hidE (X6.out.next hb)
 have LA7 := hidE (LA6.out.below hb (Nat.le_refl _))
 have LB7 := hidE (LB6.out.below hb (Nat.le_refl _))
 have LC7 := hidE (LC6.out.below hb (Nat.le_refl _))
 clear hb k0 HC BB6 X6 LA6 LB6 LC6 HDZ
 go_wp2_with fail
 go_loopw [22] (fun p wr => ∃ k : Nat, k ≤ y.length ∧ p = .int .i64 (k : Int) ∧ Hid (Below w7.heap.size w7 wr)) (fun p _ => y.length - (intOf p).toNat)
 case atStart => exact ⟨0, Nat.zero_le _, rfl, hidE (Below.refl _ _)⟩
 case round =>
  obtain ⟨k, hk, rfl, HB⟩ := hrel
  obtain ⟨w8, rfl⟩ : ∃ z : World, z = wr := ⟨wr, rfl⟩
  have BB8 := hidE (BB7.out.trans (HB.out.mono BB7.out.size))
  have X8 := hidE (X7.out.next HB.out)
  have HB8 := hidE HB.out
  have LB8 := hidE (LB7.out.below HB.out (Nat.le_refl _))
  have LC8 := hidE (LC7.out.below HB.out (Nat.le_refl _))
  have LY8 := hidE (HI_y.out w8 BB8.out)
  clear HB LA7 LB7 LC7
  cases dr
  ·by_cases hlt : k < y.length
   ·go_wp2_with fail
    refine (HSV.out _).mono ?_
    rintro e wz ⟨rfl, hbz⟩
    have BZ := hidE (B0.out.trans ((BB8.out.trans (hbz.mono BB8.out.size)).mono B0.out.size))
    clear hbz
    go_wp2_with fail
    go_ret
    exact ⟨rfl, BZ.out⟩
   ·go_wp2_with fail
    refine (HSV.out _).mono ?_
    rintro e wz ⟨rfl, hbz⟩
    have BZ := hidE (B0.out.trans ((BB8.out.trans (hbz.mono BB8.out.size)).mono B0.out.size))
    clear hbz
    go_wp2_with fail
    go_ret
    exact ⟨rfl, BZ.out⟩
  by_cases hlt : k < y.length
  rotate_left
  ·go_wp2_with fail
   refine (HSV.out _).mono ?_
   rintro e wz ⟨rfl, hbz⟩
   have BZ := hidE (B0.out.trans ((BB8.out.trans (hbz.mono BB8.out.size)).mono B0.out.size))
   clear hbz
   go_wp2_with fail
   go_ret
   exact ⟨rfl, BZ.out⟩
  obtain ⟨g1, g2, g3⟩ := HBT.out (by trivial)
  have g4 := g3 k hlt
  have hkA : k < A.length := by omega
  have hkZ : k < Z.length := by omega
  obtain ⟨yb, yo, ey, -, hcy⟩ := IntsAt.at LY8.out hlt
  obtain ⟨ab, ao, ea, -, hca⟩ := IntsAt.at LB8.out hkA
  obtain ⟨zb, zo, ez, -, hcz⟩ := IntsAt.at LC8.out hkZ
  rw [List.getD_eq_getElem?_getD, List.getElem?_eq_getElem hkA, List.getD_eq_getElem?_getD, List.getElem?_eq_getElem hlt, List.getD_eq_getElem?_getD, List.getElem?_eq_getElem hkZ] at g4
  dsimp only [Option.getD_some] at g4
  obtain ⟨vy, hvy⟩ : ∃ v, y[k] = v := ⟨_, rfl⟩
  obtain ⟨va, hva⟩ : ∃ v, A[k] = v := ⟨_, rfl⟩
  obtain ⟨vz, hvz⟩ : ∃ v, Z[k] = v := ⟨_, rfl⟩
  rw [hvy] at hcy g4
  rw [hva] at hca g4
  rw [hvz] at hcz g4
  subst ey ea ez
  have q0 : (0 : Int) ≤ (k : Int) := by omega
  have q1 : (k : Int) < (y.length : Int) := by omega
  have q2 : (k : Int) < (n2 : Int) := by have := HN2.out; omega
  have q3 : (k : Int) < (n3 : Int) := by have := HN3.out; omega
  have d1 : decide ((n2 : Int) ≤ (k : Int)) = false := by simp; omega
  have d2 : decide ((n3 : Int) ≤ (k : Int)) = false := by simp; omega
  have d3 : decide (vy < va) = false := by simp; omega
  have d4 : decide (vz < vy) = false := by simp; omega
  have r2 : k < n2 := by omega
  have r3 : k < n3 := by omega
  have z3 : va ≤ vy := g4.1
  have z4 : vy ≤ vz := g4.2
  clear g1 g2 g3 g4 hkA hkZ hvy hva hvz
  go_wp2_with fail
  go_quiet (fail)
  have hw1 : IntKind.i64.wrap ((k : Int) + 1) = (k : Int) + 1 := IntWalk.i64_in _ (by have := HY2.out; omega)
  go_wp2_with fail
  go_roundw
  case rel => exact ⟨k + 1, by omega, by go_num, hidE (HB8.out.trans ((below_drewN' _ _).mono HB8.out.size))⟩
  case measure => simp [intOf]; omega
end Go.Proofs.YtkhemfnlflbniaaGreatDoor
namespace Go.Proofs.YtkhemfnlflbniaaGreatDoor
open Go Go.ChangeShapes Go.WideShapes Go.ChangeAt Go.RowKit Go.Joins Go.Deep
theorem and2 {a b : Bool} (ha : a = true) (hb : b = true) : (a && b) = true := by rw [ha, hb]; rfl
theorem argOk27 : ArgOk 52 := ⟨by kernel_rfl, of_decide_eq_true (by kernel_rfl)⟩
section
variable {H : Type} {enc : TypeId × Value → H}
theorem trodAll_below {W W' : World} (hb : Below W.heap.size W W') : ∀ (ts : List TypeId) (vs : List Value) (ds : List (DataW H)) (ps : List MemPlace), (∀ t ∈ ts, ArgOk t) → DataW.TrodAll enc Tryz.prog W 0 (fun _ => true) true ts vs ds ps →
 (∀ x ∈ ps, x.block < W.heap.size) → DataW.TrodAll enc Tryz.prog W' 0 (fun b => decide (b < W.heap.size)) true ts vs ds ps
 | [], vs, ds, ps, _, h, _ => by
   obtain ⟨rfl, rfl, rfl⟩ := trodAll_nil h
   exact trodAll_mk0
 | t :: ts, vs, ds, ps, hT, h, hs => by
   obtain ⟨v, vs', d, ds', p, q, rfl, rfl, rfl, h1, h2⟩ := trodAll_cons h
   have ht := hT t (List.mem_cons_self ..)
   exact trodAll_cons_mk (Below.trod Tryz.laidOut ht.1 ht.2 h1 hb (fun x hx => hs x (List.mem_append_left _ hx))) (trodAll_below hb ts vs' ds' q (fun x hx => hT x (List.mem_cons_of_mem _ hx)) h2 (fun x hx => hs x (List.mem_append_right _ hx)))
theorem law_post {f : Func} {s : ChangeSpec} {W W' : World} {args : Array Value} {ds gs : List (DataW H)} {before : List MemPlace}
 (hW : DataW.Whole enc Tryz.prog f.params.toList s.vars false W args.toList ds gs before) (hb : Below W.heap.size W W') (hrt : f.resultTypes = #[4])
 (hts : ∀ t ∈ f.params.toList, ArgOk t) (hsv : s.vars = []) (hfn : s.fn H (ds ++ []) = { results := [.lit (.bool true)], args := ds }) :
 s.post enc Tryz.prog f false true false false W args (.bool true) W' := by
 have hW' := hW
 obtain ⟨p, q, hA, hV, rfl, hfz, hnd⟩ := hW
 have hV' := hV
 rw [hsv] at hV'
 obtain ⟨rfl, rfl⟩ := trodVars_none hV'
 have hlt : ∀ x ∈ p, x.block < W.heap.size := fun x hx => by
  have := hW'.lt x
  exact this (List.mem_append_left _ hx)
 refine ⟨ds, [], p ++ [], [], p, [], hW', ?_, ?_, ?_, hb.frame _, fun h => by cases h⟩
 ·rw [hfn, hrt]
  exact trodAll_cons_mk (shut_bool Tryz.underlying4 _) trodAll_mk0
 ·rw [hfn]
  exact trodAll_below hb _ _ _ _ hts hA hlt
 ·rw [hfn, hsv]
  rfl
theorem ints_trod {W : World} {n : Nat} {cs : List Value} {x : DataW H × List MemPlace} (h : DataW.trod enc Tryz.prog W 0 (fun _ => true) true n 52 cs = some x) :
 ∃ (a : Option Addr) (cap : Nat) (l : List Int), cs = [.slice a l.length cap] ∧ IntsAt W a l ∧ SliceOk a l.length cap ∧ l.length ≤ 9223372036854775807 ∧ ∀ x ∈ l, i64ok x := by
 have c3 : Tryz.prog.cellsOf 3 = 1 := by kernel_rfl
 rcases open_slice1 Tryz.underlying52 c3 h with ⟨h1, _⟩ | ⟨a, len, cap, m, n', V, D, Pl, hcs, _, hl, hm, hmm, _, hx⟩
 ·exact ⟨none, 0, [], h1, .inl rfl, fun _ => ⟨rfl, rfl⟩, by simp, by simp⟩
 ·have hmm' : m = cap := hmm
  obtain ⟨l, hll, hlp⟩ := list_of (p := fun i (k : Int) => W.cell? (a.add i) = some (.int .i64 k) ∧ i64ok k) len (fun i hi => by
   obtain ⟨h1, h2⟩ := hx i (by omega)
   obtain ⟨k, hk, hok⟩ := int_cell h2
   exact ⟨k, by rw [h1, hk], hok⟩)
  have hm2 : cap ≤ 9223372036854775807 := hm
  refine ⟨some a, cap, l, by rw [hcs, hll], ?_, (fun e => by cases e), by omega, fun x hx => ?_⟩
  ·by_cases h0 : len = 0
   ·exact .inl (List.length_eq_zero_iff.1 (by omega))
   ·have z := (hlp 0 (by omega)).1
    have ha : a.spot = none := by
     have := (cell_plain z).1
     unfold Addr.add at this
     simpa using this
    obtain ⟨b, off, sp⟩ := a
    simp only at ha
    subst ha
    refine .inr ⟨b, off, rfl, ?_, fun i hi => ?_⟩
    ·have := (cell_plain z).2
     rw [add_plain] at this; exact this
    ·have := (hlp i hi).1
     rw [add_plain] at this; exact this
  ·obtain ⟨i, hi, rfl⟩ := List.getElem_of_mem hx
   exact (hlp i hi).2
set_option maxRecDepth 100000 in
theorem open_list {b0 : Nat} {W : World} {v : Value} {d : DataW H} {p : List MemPlace} (hv : Value.okWide Tryz.prog W .any b0 52 v) (h : DataW.Trod enc Tryz.prog W 0 (fun _ => true) true 52 v d p) :
 ∃ (a : Option Addr) (cap : Nat) (l : List Int), v = .slice a l.length cap ∧ IntsAt W a l ∧ SliceOk a l.length cap ∧ l.length ≤ 9223372036854775807 ∧ ∀ x ∈ l, i64ok x := by
 obtain ⟨n, hn⟩ := h
 obtain ⟨a, cap, l, h1, h2⟩ := ints_trod hn
 have hc : v = .slice a l.length cap := by
  have hs := okWide_slice Tryz.underlying52 hv
  obtain ⟨a', n', c', rfl⟩ := hs
  simpa [Value.cells] using h1
 exact ⟨a, cap, l, hc, h2⟩
end
theorem argOk46 : ArgOk 27 := ⟨by kernel_rfl, of_decide_eq_true (by kernel_rfl)⟩
section
variable {H : Type} {enc : TypeId × Value → H}
theorem sta_trod {W : World} {n : Nat} {cs : List Value} {y : DataW H × List MemPlace} (hl : cs.length = 2) (h : DataW.trod enc Tryz.prog W 0 (fun _ => true) true n 131 cs = some y) : ∃ s : Sta, cs = s.cells ∧ s.name.size ≤ 9223372036854775807 ∧ i64ok s.x := by
 have c9 : Tryz.prog.cellsOf 9 = 1 := by kernel_rfl
 have c3 : Tryz.prog.cellsOf 3 = 1 := by kernel_rfl
 match cs, hl with
 | [u0, u1], _ =>
   obtain ⟨ys, n2, _, _, _, hyl, hf⟩ := DataW.trod_struct Tryz.underlying131 h
   match ys, hyl with
   | [y0, y1], _ =>
     have f0 : DataW.trod enc Tryz.prog W 0 (fun _ => true) true n2 9 (([u0, u1].drop 0).take (Tryz.prog.cellsOf 9)) = some y0 := hf 0 _ rfl
     have f1 : DataW.trod enc Tryz.prog W 0 (fun _ => true) true n2 3 (([u0, u1].drop 1).take (Tryz.prog.cellsOf 3)) = some y1 := hf 1 _ rfl
     rw [c9] at f0
     rw [c3] at f1
     obtain ⟨k0, rfl, o0⟩ := str_cell (v := u0) (y := y0) f0
     obtain ⟨k1, rfl, o1⟩ := int_cell (v := u1) (y := y1) f1
     exact ⟨⟨k0, k1⟩, rfl, o0, o1⟩
theorem par_trod {W : World} {n : Nat} {cs : List Value} {y : DataW H × List MemPlace} (hl : cs.length = 4) (h : DataW.trod enc Tryz.prog W 0 (fun _ => true) true n 133 cs = some y) : ∃ s : Par, cs = s.cells ∧ s.name.size ≤ 9223372036854775807 ∧ i64ok s.south ∧ i64ok s.wst ∧ i64ok s.est := by
 have c9 : Tryz.prog.cellsOf 9 = 1 := by kernel_rfl
 have c3 : Tryz.prog.cellsOf 3 = 1 := by kernel_rfl
 match cs, hl with
 | [u0, u1, u2, u3], _ =>
   obtain ⟨ys, n2, _, _, _, hyl, hf⟩ := DataW.trod_struct Tryz.underlying133 h
   match ys, hyl with
   | [y0, y1, y2, y3], _ =>
     have f0 : DataW.trod enc Tryz.prog W 0 (fun _ => true) true n2 9 (([u0, u1, u2, u3].drop 0).take (Tryz.prog.cellsOf 9)) = some y0 := hf 0 _ rfl
     have f1 : DataW.trod enc Tryz.prog W 0 (fun _ => true) true n2 3 (([u0, u1, u2, u3].drop 1).take (Tryz.prog.cellsOf 3)) = some y1 := hf 1 _ rfl
     have f2 : DataW.trod enc Tryz.prog W 0 (fun _ => true) true n2 3 (([u0, u1, u2, u3].drop 2).take (Tryz.prog.cellsOf 3)) = some y2 := hf 2 _ rfl
     have f3 : DataW.trod enc Tryz.prog W 0 (fun _ => true) true n2 3 (([u0, u1, u2, u3].drop 3).take (Tryz.prog.cellsOf 3)) = some y3 := hf 3 _ rfl
     rw [c9] at f0
     rw [c3] at f1 f2 f3
     obtain ⟨k0, rfl, o0⟩ := str_cell (v := u0) (y := y0) f0
     obtain ⟨k1, rfl, o1⟩ := int_cell (v := u1) (y := y1) f1
     obtain ⟨k2, rfl, o2⟩ := int_cell (v := u2) (y := y2) f2
     obtain ⟨k3, rfl, o3⟩ := int_cell (v := u3) (y := y3) f3
     exact ⟨⟨k0, k1, k2, k3⟩, rfl, o0, o1, o2, o3⟩
theorem vrn_trod {W : World} {n : Nat} {cs : List Value} {y : DataW H × List MemPlace} (hl : cs.length = 2) (h : DataW.trod enc Tryz.prog W 0 (fun _ => true) true n 253 cs = some y) : ∃ s : Vrn, cs = s.cells ∧ i64ok s.year ∧ i64ok s.east := by
 have c3 : Tryz.prog.cellsOf 3 = 1 := by kernel_rfl
 match cs, hl with
 | [u0, u1], _ =>
   obtain ⟨ys, n2, _, _, _, hyl, hf⟩ := DataW.trod_struct Tryz.underlying253 h
   match ys, hyl with
   | [y0, y1], _ =>
     have f0 : DataW.trod enc Tryz.prog W 0 (fun _ => true) true n2 3 (([u0, u1].drop 0).take (Tryz.prog.cellsOf 3)) = some y0 := hf 0 _ rfl
     have f1 : DataW.trod enc Tryz.prog W 0 (fun _ => true) true n2 3 (([u0, u1].drop 1).take (Tryz.prog.cellsOf 3)) = some y1 := hf 1 _ rfl
     rw [c3] at f0 f1
     obtain ⟨k0, rfl, o0⟩ := int_cell (v := u0) (y := y0) f0
     obtain ⟨k1, rfl, o1⟩ := int_cell (v := u1) (y := y1) f1
     exact ⟨⟨k0, k1⟩, rfl, o0, o1⟩
set_option maxRecDepth 100000 in
theorem open_fld {b0 : Nat} {W : World} {v : Value} {d : DataW H} {p : List MemPlace} (hv : Value.okWide Tryz.prog W .any b0 27 v) (h : DataW.Trod enc Tryz.prog W 0 (fun _ => true) true 27 v d p) :
 ∃ (x : FV) (F : Fld), v = x.val F ∧ FldAt W x F := by
 obtain ⟨v0, v1, v2, v3, y0, y1, y2, y3, n, rfl, _, _, h0, h1, h2, h3⟩ := open_agg4 Tryz.underlying27 (by kernel_rfl) (by kernel_rfl) hv h
 obtain ⟨aS, cS, sts, e0, r0, l0, k0⟩ := recs_trod (k := 2) (f := Sta.cells) (by omega) Tryz.underlying22 (by kernel_rfl) (fun n cs y hl hh => sta_trod hl hh) h0
 obtain ⟨aL, cL, lms, e1, r1, l1, k1⟩ := recs_trod (k := 1) (f := strCells) (by omega) Tryz.underlying23 (by kernel_rfl) (fun n cs y hl hh => by
  match cs, hl with
  | [u], _ =>
    obtain ⟨s, rfl, hs⟩ := str_cell hh
    exact ⟨s, rfl, hs⟩) h1
 obtain ⟨aP, cP, prs, e2, r2, l2, k2⟩ := recs_trod (k := 4) (f := Par.cells) (by omega) Tryz.underlying24 (by kernel_rfl) (fun n cs y hl hh => par_trod hl hh) h2
 obtain ⟨aV, cV, vrs, e3, r3, l3, k3⟩ := recs_trod (k := 2) (f := Vrn.cells) (by omega) Tryz.underlying25 (by kernel_rfl) (fun n cs y hl hh => vrn_trod hl hh) h3
 simp only [List.cons.injEq, and_true] at e0 e1 e2 e3
 subst e0 e1 e2 e3
 refine ⟨⟨aS, cS, aL, cL, aP, cP, aV, cV⟩, ⟨sts, lms, prs, vrs⟩, rfl, r0, r1, r2, r3, l0, l1, l2, l3, ?_, fun s hs => (k0 s hs).2, fun s hs => (k2 s hs).2, k3⟩
 intro l hl s hs
 simp only [Fld.names, List.mem_cons, List.not_mem_nil, or_false] at hl
 rcases hl with rfl | rfl | rfl
 ·obtain ⟨t, ht, rfl⟩ := List.mem_map.1 hs
  exact (k0 t ht).1
 ·exact k1 s hs
 ·obtain ⟨t, ht, rfl⟩ := List.mem_map.1 hs
  exact (k2 t ht).1
end
end Go.Proofs.YtkhemfnlflbniaaGreatDoor
