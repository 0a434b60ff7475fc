/- What the law LimitsIdle needs beyond the base: PureG, Wo, PlK, PlQ, Lm2, Lm4, Lm5, Lm6, Lm7, Lm10, PlN, Yk, E23, E41, F5, Fr, Frf. No conditions beyond those stated. -/
import Derived.Test.YtkhemfnlflbniaaGreatDoorB03
import Derived.Test.YtkhemfnlflbniaaGreatDoorB02
import Derived.Test.YtkhemfnlflbniaaGreatDoorB01
import Derived.Test.YtkhemfnlflbniaaGreatDoorProg
import Derived.WalkKit
import Derived.Handy
import Derived.RangeFuncRecord
import Derived.Shelf.Abstract
import Derived.Deep.QuietTactic
import Derived.BigQuiet
import Derived.Laws.CopyOwn
import Derived.WalkSmall
import Derived.RangeFuncNested
import Derived.RangeFuncBound
import Derived.RangeFuncCalls
import Derived.RangeFuncLeaves
import Derived.Shelf.RegionOpen
import Derived.OwnWalkIn
import Derived.TacticsInMore
import Derived.LoopNIn
import Derived.LoopIn
import Derived.Maps.AppendAt
import Derived.Deep.Onto
import Derived.OrdersHeld
import Derived.Deep.LoopGhost
import Derived.Deep.WholeRow
import Derived.Deep.OwnRows
import Derived.StillTailTactics
import Derived.Great.Walk
import Derived.Great.BuildSlice
import Derived.Test.YtkhemfnlflbniaaGreatDoorB05
import Derived.Test.YtkhemfnlflbniaaGreatDoorB07
import Derived.Test.YtkhemfnlflbniaaGreatDoorB09
import Derived.Test.YtkhemfnlflbniaaGreatDoorB08
import Derived.Test.YtkhemfnlflbniaaGreatDoorB06
import Derived.Test.YtkhemfnlflbniaaGreatDoorB04
import Derived.Shelf.Small.Bits
import Derived.Shelf.Strconv.Itoa0
import Derived.Shelf.Sort.Plain
import Derived.Shelf.Slices.Turned
import Derived.Ground.Names2Prog
import Derived.Shelf.Slices.CompactI
import Derived.Shelf.Slices.SearchI
import Derived.Shelf.Slices.Cells
import Derived.Shelf.Slices.In.SortNone
import Derived.WalkMore
import Derived.Deep.MidRow
import Derived.Deep.RegionHeld3
import Derived.Deep.DeepCutAuto
import Derived.Lib.OwnBridge
import Derived.Lib.SliceRun
import Derived.WalkSpells
import Derived.Deep.RegionWith
import Derived.Lib.AppendZerosOnto
import Derived.Deep.CutBlock
import Derived.IntWalk
import Derived.Test.YtkhemfnlflbniaaGreatDoorB10
import Derived.Test.YtkhemfnlflbniaaGreatDoorB13
import Derived.Test.YtkhemfnlflbniaaGreatDoorB12
import Derived.Test.YtkhemfnlflbniaaGreatDoorB11
import Derived.Deep.Cut
import Derived.Laws.Rows
import Derived.Laws.Tables
import Derived.Laws.StructEq
import Derived.OrdersIn
import Derived.RangeFuncBox
import Derived.Test.YtkhemfnlflbniaaGreatDoorB15
import Derived.Test.YtkhemfnlflbniaaGreatDoorB14
import Derived.Test.YtkhemfnlflbniaaGreatDoorRows
import Derived.ProofKit
import Derived.OpenShut
import Derived.Carry
import Derived.Lib.SmallJoins
import Derived.Deep.Slices
import Derived.ChangeMaps5
namespace Go.Proofs.YtkhemfnlflbniaaGreatDoor
theorem asked0 {N : Int} {bs : List Bd} (h : askedE N bs [] = 0) : ∃ (R : Nat) (t : List Int), N = R ∧ openedP N bs = some t ∧ NetOk R bs t := by
 obtain ⟨hc, hp, t, ht⟩ := askedE_zero h
 obtain ⟨n0, n1, n2, nv⟩ := checkP_zero hc
 obtain ⟨R, rfl⟩ := Int.eq_ofNat_of_zero_le (show 0 ≤ N by omega)
 exact ⟨R, t, rfl, ht, netOk_of_asked h ht⟩
def tableP (N : Nat) (t : List Int) (bs : List Bd) : List (List Int) := (List.range N).map fun (a : Nat) => distP N t bs (a : Int)
theorem tableP_get (N : Nat) (t : List Int) (bs : List Bd) {a : Nat} (h : a < N) : (tableP N t bs).getD a [] = distP N t bs a := by
 simp [tableP, List.getD_eq_getElem?_getD, h]
theorem tableP_length (N : Nat) (t : List Int) (bs : List Bd) : (tableP N t bs).length = N := by simp [tableP]
def tget (T : List (List Int)) (a b : Nat) : Int := (T.getD a []).getD b 0
end Go.Proofs.YtkhemfnlflbniaaGreatDoor
namespace Go.Proofs.YtkhemfnlflbniaaGreatDoor
open Go Go.RowKit Go.Shelf
theorem map_range_succ {α : Type} (f : Nat → α) (k : Nat) : (List.range (k + 1)).map f = (List.range k).map f ++ [f k] := by rw [List.range_succ, List.map_append]; rfl
set_option maxRecDepth 100000 in
set_option maxHeartbeats 2000000 in
theorem table_any (w : World) (bn R : Nat) (a : Option Addr) (cap : Nat) (bs : List Bd) (t : List Int) (HO : NetOk R bs t) (hB : BoundsAt w a bs) (hn : w.heap[bn]? = some (.cells (netA R (.slice a bs.length cap) t) 265 (0,0))) :
 Calls Tryz.prog 246 #[.pointer (some ⟨bn, 0, none⟩)] w fun e w' => ∃ v, e = .returned v ∧ Below w.heap.size w w' ∧ w'.ownsRow w.heap.size 189 128 v R (flatR (tableP R t bs)) := by
 have dn : ∀ q, q < R → ∀ W, Below w.heap.size w W → Calls Tryz.prog 191 #[.pointer (some ⟨bn, 0, none⟩), .int .i64 (q : Int), .func (.func 152) #[] #[]] W fun e W' => e = .returned (.agg (rowA (distP R t bs q))) ∧ Below W.heap.size W W' :=
  fun q hq W hb => dist_net W bn R a cap bs t q HO hq (hB.below hb (Nat.le_refl _)) (blk_below hb (lt_of_block hn) hn)
 have hn1 := HO.n1
 have hrl : ∀ q, q < R → (distP R t bs q).length = 128 := fun q hq => (HO.row hq).1
 have e0 : w.cell? ⟨bn, 0, none⟩ = some (.int .i64 (R : Int)) := c_e hn rfl
 have hbn := lt_of_block hn
 have DN := hidE dn
 have HRL := hidE hrl
 clear dn hrl hB hn
 go_enter Tryz.func246, Tryz.ntmps246
 go_wp2_with fail
 go_loopw [3, 10] (fun v i wr => ∃ k : Nat, k ≤ R ∧ i = .int .i64 k ∧ Hid (wr.ownsRow w.heap.size 189 128 v k (flatR ((List.range k).map fun (q : Nat) => distP R t bs q))) ∧ Below w.heap.size w wr)
  (fun _ i _ => R - (intOf i).toNat)
 case atStart => exact ⟨0, Nat.zero_le _, rfl, hidE (World.ownsRow_nil _ _ _ _), by go_grown⟩
 case round =>
  obtain ⟨k, hk, rfl, hown, hb⟩ := hrel
  by_cases hlt : k < R
  ·have hcall := DN.out k hlt wr hb
   obtain ⟨r, hr⟩ : ∃ r, distP R t bs k = r := ⟨_, rfl⟩
   have hrl := HRL.out k hlt
   rw [hr] at hcall hrl
   have hbr : Hid (Tryz.prog.builtSlice 189 1 [(0, .agg (rowA r))] = some (rowA r)) := hidE (builtRow hrl)
   have HR := hidE hr
   have HC := hidE hcall
   have HL := hidE hrl
   clear hr hcall hrl
   go_wp2_with fail
   refine HC.out.mono ?_
   rintro e w1 ⟨rfl, hb1⟩
   have hv : ∀ g, u3.ownBlock = some g → g < wr.heap.size := fun g e => by
    rcases hown.out.2 with ⟨e1, _⟩ | ⟨g1, cp', cu, e1, _, hh, _⟩
    ·rw [e1] at e; simp [Value.ownBlock] at e
    ·rw [e1] at e
     simp only [Value.ownBlock, Option.some.injEq] at e
     subst e
     exact lt_of_block hh
   have own1 : w1.ownsRow w.heap.size 189 128 u3 k (flatR ((List.range k).map fun (q : Nat) => distP R t bs q)) := ownsRow_of_block hown.out (fun g e => hb1.block g (hv g e))
   obtain ⟨i0, hi, hz0, hz1, hz2⟩ := info_parts info94
   have hsz := Nat.le_trans hb.size hb1.size
   obtain ⟨v', wa, hrun, hown', hgrow, hnil, hblk⟩ := run_append_own_at (P := Tryz.prog) (w1.alloc (Obj.cells (rowA r) 189)) w.heap.size 185 185 189 i0 _ 128 1024 Tryz.underlying185 hi hz0 hz1 hz2 rfl (by decide) u3 _ _
    (own1.alloc _) ⟨w1.heap.size, 0, none⟩ 1 1 (intsV r) (by simp [intsV, HL.out]) (by
     intro j u hj
     rw [show ((⟨w1.heap.size, 0, none⟩ : Addr).add j) = ⟨w1.heap.size, 0 + j, none⟩ from by unfold Addr.add; split <;> simp_all]
     rw [cell_of_row _ _ _ _ _ _ (heap_alloc_new w1 _), Nat.zero_add]
     simpa [rowA] using hj) (by intro u hu; simp [intsV] at hu; obtain ⟨q, _, rfl⟩ := hu; rfl) (by unfold maxLen; omega) (by omega) (by simp; omega)
   have HRUN := hidE hrun
   have HOWN := hidE hown'
   have hb2 : Below w.heap.size w wa := ((hb.trans (hb1.mono hb.size)).alloc hsz _).grown hgrow (by simp; omega) (fun q e => by
    rcases own1.2 with ⟨e1, _⟩ | ⟨g1, cp', cu, e1, hge, hh, _⟩
    ·rw [e1] at e; simp [Value.ownBlock] at e
    ·rw [e1] at e
     simp only [Value.ownBlock, Option.some.injEq] at e
     omega)
   have HB2 := hidE hb2
   clear hrun hown' hgrow hnil hblk hb2 own1 hv hb1 hown hsz
   go_wp2_with (first
    | (refine Great.wpList_buildSliceTo rfl 185 189 1 _ rfl _ rfl _ rfl Tryz.underlying185 _ (by simp [Act.eval]; exact hbr.out) ?_)
    | (at_builtin; refine wpList_op_append rfl (s := .tmp 13) (x := .tmp 17) (t := 185) rfl rfl rfl HRUN.out ?_))
   go_roundw
   case rel => exact ⟨k + 1, by omega, by go_num, hidE (by rw [map_range_succ, flatR_append, flatR_one, HR.out]; exact HOWN.out), HB2.out⟩
   case measure => simp [intOf]; omega
  ·obtain rfl : k = R := by omega
   go_wp2_with fail
   go_ret
   exact ⟨_, rfl, hb, hown.out⟩
end Go.Proofs.YtkhemfnlflbniaaGreatDoor
namespace Go.Proofs.YtkhemfnlflbniaaGreatDoor
theorem nV_near {v : Int} (h : v < farI) : nV v = v := by unfold nV; unfold farI at h; rw [if_neg (by omega)]
def extremeE (N : Int) (bs : List Bd) (d : Nat → Int) (v : List Int) : List Int × Int :=
 if askedE N bs [] = 0 then (if (List.range N.toNat).any (fun p => !nB (d p)) then ([], 5) else (v, 0)) else ([], askedE N bs [])
def greatestE (N : Int) (bs : List Bd) : List Int × Int := extremeE N bs (fun p => distN N.toNat bs 0 p) (highV N.toNat bs)
def leastE (N : Int) (bs : List Bd) : List Int × Int := extremeE N bs (fun p => distN N.toNat bs p 0) (lowV N.toNat bs)
theorem Tied.n0 {N : Nat} {bs : List Bd} (T : Tied N bs) : 1 ≤ N := by obtain ⟨t, _, H⟩ := T.net; exact H.n0
theorem without_good {F : Fld} {l : List Rcd} (h : Good F l) (id : Int) : Good F (withoutId l id) := good_sub h List.filter_sublist
theorem idle_agree {F : Fld} {l : List Rcd} (h : Good F l) (ha : agreeB F l = true) (id : Int) : agreeB F (withoutId l id) = true := agree_sub h (without_good h id) (fun _ hr => (List.mem_filter.1 hr).1) ha
theorem without_len {l : List Rcd} (h : l.Pairwise fun a b => a.id < b.id) {r : Rcd} (hr : r ∈ l) : (withoutId l r.id).length + 1 = l.length := by
 unfold withoutId
 induction l with
 | nil => cases hr
 | cons x l ih =>
   have hp := List.pairwise_cons.1 h
   rw [List.filter_cons]
   rcases List.mem_cons.1 hr with rfl | hr
   ·have : l.filter (fun s => decide (s.id ≠ r.id)) = l := List.filter_eq_self.2 fun s hs => by
     have := hp.1 s hs
     rw [decide_eq_true_eq]
     omega
    rw [if_neg (by simp), this, List.length_cons]
   ·have hx := hp.1 r hr
    have := ih hp.2 hr
    rw [if_pos (by rw [decide_eq_true_eq]; omega), List.length_cons, List.length_cons]
    omega
theorem last_eq {F : Fld} {l : List Rcd} (h : Good F l) (ha : agreeB F l = true) : greatestE (ptN F) (sysL F l) = (highV (ptN F) (sysL F l), 0) ∧ leastE (ptN F) (sysL F l) = (lowV (ptN F) (sysL F l), 0) := by
 have T := tied h ha
 have k : askedE (ptN F) (sysL F l) [] = 0 := by
  rw [asked_ok h (by simp), if_pos ha]
 have n1 : ¬ ((List.range (ptN F : Int).toNat).any fun p => !nB (distN (ptN F : Int).toNat (sysL F l) 0 p)) = true := by
  simp only [Int.toNat_natCast, List.any_eq_true, List.mem_range, not_exists, not_and]
  intro p hp
  have := T.fin 0 p T.n0 hp
  unfold farI at this
  unfold nB
  simp only [Bool.not_eq_true', decide_eq_false_iff_not]
  omega
 have n2 : ¬ ((List.range (ptN F : Int).toNat).any fun p => !nB (distN (ptN F : Int).toNat (sysL F l) p 0)) = true := by
  simp only [Int.toNat_natCast, List.any_eq_true, List.mem_range, not_exists, not_and]
  intro p hp
  have := T.fin p 0 hp T.n0
  unfold farI at this
  unfold nB
  simp only [Bool.not_eq_true', decide_eq_false_iff_not]
  omega
 unfold greatestE leastE extremeE
 constructor
 ·rw [if_pos k, if_neg n1]; rfl
 ·rw [if_pos k, if_neg n2]; rfl
theorem flag_zero {b : Bool} : flagE b = 0 ↔ b = true := by cases b <;> simp [flagE]
theorem width_of {F : Fld} {l : List Rcd} {i s j t : Int} (h : Good F l) (ha : agreeB F l = true) (hi : limB F i = true) (hs : staB F s = true) (hj : limB F j = true) (ht : staB F t = true) : widthE F l i s j t = (-distN (ptN F) (sysL F l) (ptS F j t) (ptS F i s), distN (ptN F) (sysL F l) (ptS F i s) (ptS F j t), 0) := by
 unfold widthE
 rw [if_neg]
 exact fun q => q (match_zero.2 ⟨h, flag_zero.2 (by unfold cornB; rw [hi, hs, hj, ht]; rfl), ha⟩)
theorem idle_law {F : Fld} {l : List Rcd} (h : Good F l) (ha : agreeB F l = true) {id : Int} (hi : idleB F l id = true) :
 Good F (withoutId l id) ∧ agreeB F (withoutId l id) = true ∧ lowV (ptN F) (sysL F (withoutId l id)) = lowV (ptN F) (sysL F l) ∧ highV (ptN F) (sysL F (withoutId l id)) = highV (ptN F) (sysL F l) ∧ ∀ i s j t, widthE F (withoutId l id) i s j t = widthE F l i s j t := by
 have g := without_good h id
 have a2 := idle_agree h ha id
 have d := idle_iff.1 hi
 have n0 := (pt_le h.fld).1
 refine ⟨g, a2, ?_, ?_, fun i s j t => ?_⟩
 ·unfold lowV
  exact List.map_congr_left fun p hp => by rw [d p 0 (List.mem_range.1 hp) n0]
 ·unfold highV
  exact List.map_congr_left fun p hp => by rw [d 0 p n0 (List.mem_range.1 hp)]
 ·have e : ∀ x, matchE F (withoutId l id) x = matchE F l x := fun x => by
   unfold matchE
   rw [(check_iff F l).2 h, (check_iff F _).2 g, ha, a2]
  by_cases k : matchE F l (flagE (cornB F i s && cornB F j t)) = 0
  ·have c := flag_zero.1 (match_zero.1 k).2.1
   unfold cornB at c
   rw [Bool.and_eq_true, Bool.and_eq_true, Bool.and_eq_true] at c
   have p := ptS_bd c.1.1 c.1.2
   have q := ptS_bd c.2.1 c.2.2
   rw [width_of h ha c.1.1 c.1.2 c.2.1 c.2.2, width_of g a2 c.1.1 c.1.2 c.2.1 c.2.2, d _ _ p.2.1 q.2.1, d _ _ q.2.1 p.2.1]
  ·unfold widthE
   rw [if_pos k, if_pos (by rw [e]; exact k), e]
theorem tget_dist {N : Nat} {bs : List Bd} {t : List Int} (ht : openedP N bs = some t) {a : Nat} (b : Nat) (ha : a < N) : tget (tableP N t bs) a b = distN N bs a b := by
 unfold tget distN
 rw [tableP_get N t bs ha, heightsP_of ht]
end Go.Proofs.YtkhemfnlflbniaaGreatDoor
namespace Go.Proofs.YtkhemfnlflbniaaGreatDoor
open Go Go.RowKit Go.Shelf
set_option maxRecDepth 100000 in
set_option maxHeartbeats 4000000 in
theorem extreme_high (w : World) (N : Int) (a : Option Addr) (cap : Nat) (bs : List Bd) (hN : i64ok N) (hl : bs.length ≤ 9223372036854775807) (h : BoundsAt w a bs) :
 Calls Tryz.prog 189 #[.agg #[.int .i64 N, .slice a bs.length cap], .string ⟨#[104, 105, 103, 104]⟩] w fun e w' => PathPost (greatestE N bs).1 (greatestE N bs).2 w.heap.size e w' ∧ Below w.heap.size w w' := by
 have H := hidE h
 have HN := hidE hN
 clear h hN
 have hB0 : Below w.heap.size w (w.alloc (.cells #[.int .i64 N, .slice a bs.length cap] 61)) := (Below.refl _ _).alloc (Nat.le_refl _) _
 have hx0 : (w.alloc (.cells #[.int .i64 N, .slice a bs.length cap] 61)).heap[w.heap.size]? = some (.cells #[.int .i64 N, .slice a bs.length cap] 61 (0,0)) := heap_alloc_new _ _
 have hask : Calls Tryz.prog 143 #[.agg #[.int .i64 N, .slice a bs.length cap], .slice none 0 0] (w.alloc (.cells #[.int .i64 N, .slice a bs.length cap] 61)) _ :=
  asked_any _ N a cap bs none 0 [] HN.out hl (by simp) (H.out.alloc _) (.inl rfl)
 have X0 := hidE hx0
 clear hx0
 by_cases he : askedE N bs [] = 0
 ·obtain ⟨R, t, rfl, ht, HO⟩ := asked0 he
  have hE : greatestE R bs = if (List.range R).any (fun p => !nB (distN R bs 0 p)) = true then ([], 5) else (highV R bs, 0) := by
   unfold greatestE extremeE; rw [if_pos he]; simp only [Int.toNat_natCast]
  have hn0 := HO.n0
  have hn1 := HO.n1
  have htg := fun (p q : Nat) (hp : p < R) => tget_dist ht q hp
  have htl := tableP_length R t bs
  have hbd : ∀ p q, p < R → q < R → -1000000000000000 ≤ distN R bs p q := fun p q hp hq => by
   have := HO.row_bd hp hq
   unfold distN; rw [heightsP_of ht]
   omega
  have hrl : ∀ r ∈ tableP R t bs, r.length = 128 := by
   intro r hr
   simp only [tableP, List.mem_map, List.mem_range] at hr
   obtain ⟨q, hq, rfl⟩ := hr
   exact (HO.row hq).1
  have HE := hidE hE
  have HA := hidE hask
  have HEE := hidE he
  have HT := hidE ht
  have HTG := hidE htg
  have HTL := hidE htl
  have HRL := hidE hrl
  have HBD := hidE hbd
  clear hE hask he ht htg htl hrl hbd
  go_enter Tryz.func189, Tryz.ntmps189
  go_wp2_with fail
  refine HA.out.mono ?_
  rintro e w1 ⟨hp, hb1⟩
  unfold AskedPost at hp
  rw [if_pos HEE.out] at hp
  obtain ⟨bn, t', ht', rfl, hbn, hcell⟩ := hp
  have htt : t' = t := by have := HT.out; rw [ht'] at this; exact Option.some.inj this
  subst htt
  have B1 := hB0.trans (hb1.mono hB0.size)
  have htab := table_any w1 bn R a cap bs t' HO (H.out.below B1 (Nat.le_refl _)) hcell
  have x1 := blk_below hb1 (by simp) X0.out
  have HTAB := hidE htab
  have HB1 := hidE B1
  have X1 := hidE x1
  clear htab hcell ht' hb1 B1 hbn x1
  go_wp2_with fail
  refine HTAB.out.mono ?_
  rintro e w2 ⟨v, rfl, hb2, hown⟩
  obtain ⟨R', hR'⟩ : ∃ R', R = R' + 1 := ⟨R - 1, by omega⟩
  have hown' := hown
  rw [hR'] at hown'
  obtain ⟨g, cp, rfl⟩ := ownsRow_succ hown'
  rw [← hR'] at hown
  obtain ⟨hra, hgl⟩ := rowsAt_of_owns hown HRL.out
  have x2 := blk_below hb2 (lt_of_block X1.out) X1.out
  have HRA := hidE hra
  have HB2 := hidE (HB1.out.trans (hb2.mono HB1.out.size))
  have X2 := hidE x2
  have e0 : w2.cell? ⟨w.heap.size, 0, none⟩ = some (.int .i64 (R : Int)) := c_e x2 rfl
  rw [← hR']
  clear hra hown hown' hb2 x2 hR'
  go_wp2_with fail
  clear e0
  go_loopw [9, 25] (fun v9 i wr => ∃ k : Nat, k ≤ R ∧ i = .int .i64 k ∧ Hid (∀ p, p < k → nB (distN R bs 0 p) = true) ∧ Hid (wr.ownsRow w2.heap.size 3 1 v9 ((List.range k).map (fun p : Nat => nV (distN R bs 0 p))).length (intsV ((List.range k).map (fun p : Nat => nV (distN R bs 0 p))))) ∧ Hid (Below w2.heap.size w2 wr)) (fun _ i _ => R - (intOf i).toNat)
  case atStart => exact ⟨0, by omega, rfl, hidE (fun p hp => by omega), hidE (World.ownsRow_nil _ _ _ _), hidE (Below.refl _ _)⟩
  case round =>
   obtain ⟨k, hk, rfl, hall, hown, hb⟩ := hrel
   by_cases hlt : k < R
   ·have hra2 := HRA.out.below hb.out hgl
    have c0 := hra2 0 k (by rw [HTL.out]; omega) (by omega)
    have c1 := hra2 k 0 (by rw [HTL.out]; omega) (by omega)
    have g0 := HTG.out 0 k (by omega)
    have g1 := HTG.out k 0 (by omega)
    unfold tget at g0 g1
    rw [g0, Nat.zero_mul, Nat.zero_add] at c0
    rw [g1, Nat.add_zero] at c1
    clear g0 g1
    have hb0 := HBD.out 0 k (by omega) hlt
    have hb9 := HBD.out k 0 hlt (by omega)
    obtain ⟨v1, hv1⟩ : ∃ v, distN R bs 0 k = v := ⟨_, rfl⟩
    obtain ⟨v2, hv2⟩ : ∃ v, distN R bs k 0 = v := ⟨_, rfl⟩
    rw [hv1] at c0 hb0
    rw [hv2] at c1 hb9
    have hgw : g < wr.heap.size := Nat.lt_of_lt_of_le hgl hb.out.size
    have k128 : (k : Int) < 128 := by omega
    have k128' : k < 128 := by omega
    have kR : (k : Int) < (R : Int) := by omega
    have R0 : (0 : Int) < (R : Int) := by omega
    have R0' : 0 < R := by omega
    have HV1 := hidE hv1
    have HV2 := hidE hv2
    have hsn : (List.range (k + 1)).map (fun p : Nat => nV (distN R bs 0 p)) = (List.range k).map (fun p : Nat => nV (distN R bs 0 p)) ++ [numV v1] := by
     rw [List.range_succ, List.map_append]
     simp only [List.map_cons, List.map_nil]
     rw [HV1.out]; rfl
    have HSN := hidE hsn
    obtain ⟨nb, hnb⟩ : ∃ b, numB v1 = b := ⟨_, rfl⟩
    have hnb2 : nB (distN R bs 0 k) = nb := by rw [HV1.out]; exact hnb
    have HNB := hidE hnb2
    obtain ⟨nv, hnv⟩ : ∃ v, numV v1 = v := ⟨_, rfl⟩
    rw [hnv] at HSN
    clear hv1 hv2 hsn hnb2 hra2
    obtain ⟨wq, rfl⟩ : ∃ y : World, y = wr := ⟨wr, rfl⟩
    have lh : (Instr.lookup 242 (.map (some wq.heap.size)) (.string ⟨#[104, 105, 103, 104]⟩) false).run Tryz.prog (wq.alloc endsObj).drew = .ok (.func (.func 267) #[] #[]) (wq.alloc endsObj).drew :=
     run_lookup_string (r := wq.heap.size) (i := 0) Tryz.underlying242 Tryz.underlying9 (heap_alloc_at wq endsObj _ rfl) (by rfl)
    go_wp2_with fail
    go_cut [11, 12] (fun s11 s12 wx => s11 = .int .i64 nv ∧ s12 = .bool nb ∧ Hid (Below wq.heap.size wq wx))
    case first =>
     have ba : Below wq.heap.size wq (wq.alloc endsObj).drew := ((Below.refl _ _).alloc (Nat.le_refl _) _).drew
     have d0 := (ba.cell (p := ⟨g, k, none⟩) hgw).trans c0
     have d1 := (ba.cell (p := ⟨g, k * 128, none⟩) hgw).trans c1
     go_region_held3 (fun V => V.cell? ⟨g, k, none⟩ = some (.int .i64 v1) ∧ V.cell? ⟨g, k * 128, none⟩ = some (.int .i64 v2))
      (first | (exact ⟨u0, u1⟩) | (exact ⟨d0, d1⟩) | (exact ⟨c0, c1⟩) | go_keep)
      (first
       | (go_at_call 223; refine (ends_any _).mono ?_; rintro e W2 ⟨rfl, rfl⟩)
       | (go_at_call 267; refine (high_any _ _ _).mono ?_; rintro e W3 ⟨rfl, h1⟩; (rw [hnb, hnv]); (have h2 : Below wq.heap.size wq W3 := ba.trans (h1.mono (by simp))); (have u0 := (h2.cell (p := ⟨g, k, none⟩) hgw).trans c0); (have u1 := (h2.cell (p := ⟨g, k * 128, none⟩) hgw).trans c1); (have HH := hidE h2); clear h1 h2))
     all_goals (go_wp2_with fail; go_meet)
     all_goals exact ⟨rfl, rfl, HH⟩
    case rest =>
     obtain ⟨rfl, rfl, hbx⟩ := hcut
     obtain ⟨wf, rfl⟩ : ∃ x : World, x = wc := ⟨wc, rfl⟩
     have hbf := hidE (hb.out.trans (hbx.out.mono hb.out.size))
     have hof := ownsRow_of_block hown.out (fun q hq => hbx.out.block q (owns_lt' hown.out hq))
     have HOF := hidE hof
     clear lh c0 c1 hof hnb hnv
     cases nb with
     | false =>
       go_wp2_with fail
       refine bodyPost_ret (v := .tuple #[.slice none 0 0, .int .i64 5]) (by simp [results, Tryz.results189, go_sem]) rfl ⟨?_, HB2.out.trans (hbf.out.mono HB2.out.size)⟩
       have hany : (List.range R).any (fun p => !nB (distN R bs 0 p)) = true := List.any_eq_true.2 ⟨k, List.mem_range.2 hlt, by rw [HNB.out]; rfl⟩
       rw [show greatestE R bs = ([], 5) by rw [HE.out, if_pos hany]]
       exact ⟨_, rfl, World.ownsRow_nil _ _ _ _⟩
     | true =>
       have ba : Below wf.heap.size wf (wf.alloc (.cells #[.int .i64 nv] 3)) := (Below.refl _ _).alloc (Nat.le_refl _) _
       obtain ⟨v', W', hr', ho', hb'⟩ := append_ints (wf.alloc (.cells #[.int .i64 nv] 3)) w2.heap.size u9 ((List.range k).map (fun p : Nat => nV (distN R bs 0 p))) (World.ownsRow.alloc HOF.out _) (some ⟨wf.heap.size, 0, none⟩) 1 [nv] (ints_one wf nv) (by simp; omega) (by simp) (Nat.le_trans hbf.out.size ba.size) 52
       have HR' := hidE hr'
       have HO' := hidE ho'
       have HB' := hidE (hbf.out.trans ((ba.mono hbf.out.size).trans hb'))
       clear hr' ho' hb' ba
       go_wp2_with (at_builtin; refine wpList_op_append rfl (s := .tmp 48) (x := .tmp 50) (t := 52) rfl rfl rfl HR'.out ?_)
       go_roundw
       case rel =>
        refine ⟨k + 1, by omega, by go_num, hidE (fun p hp => ?_), hidE (by rw [HSN.out]; exact HO'.out), HB'⟩
        by_cases e : p = k
        ·subst e; exact HNB.out
        ·exact hall.out p (by omega)
       case measure => simp [intOf]; omega
   ·obtain rfl : k = R := by omega
    have hmap : (List.range k).map (fun p : Nat => nV (distN k bs 0 p)) = highV k bs := by
     unfold highV
     exact List.map_congr_left fun p hp => by rw [nV_near (by have q := hall.out p (List.mem_range.1 hp); unfold nB at q; unfold farI; exact of_decide_eq_true q)]
    have hany : (List.range k).any (fun p => !nB (distN k bs 0 p)) = false := by
     rw [List.any_eq_false]
     intro p hp
     rw [hall.out p (List.mem_range.1 hp)]; simp
    rw [hmap] at hown
    have HAN := hidE hany
    have HOW := hidE (ownsRow_base hown.out HB2.out.size)
    obtain ⟨o9, c9, e9, _, _⟩ := intsAt_of_owns hown.out
    subst e9
    have HBF := hidE (HB2.out.trans (hb.out.mono HB2.out.size))
    clear hmap hany hown hall hb
    go_wp2_with fail
    refine bodyPost_ret (v := .tuple #[.slice o9 (highV k bs).length c9, .int .i64 0]) (by simp [results, Tryz.results189, go_sem]) rfl ⟨?_, HBF.out⟩
    rw [show greatestE k bs = (highV k bs, 0) by rw [HE.out, if_neg (by rw [HAN.out]; simp)]]
    exact ⟨_, rfl, HOW.out⟩
 ·have hE : greatestE N bs = ([], askedE N bs []) := by unfold greatestE extremeE; rw [if_neg he]
  obtain ⟨c, hc⟩ : ∃ c, askedE N bs [] = c := ⟨_, rfl⟩
  have hc1 : (c == 0) = false := by rw [← hc]; simpa using he
  have hc2 : (c != 0) = true := by rw [← hc]; simpa using he
  have HC := hidE hc
  have HD := hidE hE
  have HEE := hidE he
  have HA := hidE hask
  clear hE he hc hask
  go_enter Tryz.func189, Tryz.ntmps189
  go_wp2_with fail
  refine HA.out.mono ?_
  rintro e w1 ⟨hp, hb1⟩
  unfold AskedPost at hp
  rw [if_neg HEE.out, HC.out] at hp
  subst hp
  go_wp2_with fail
  refine bodyPost_ret (v := .tuple #[.slice none 0 0, .int .i64 c]) (by simp [results, Tryz.results189, go_sem]) rfl ⟨?_, hB0.trans (hb1.mono hB0.size)⟩
  rw [HD.out, HC.out]
  exact ⟨_, rfl, World.ownsRow_nil _ _ _ _⟩
set_option maxRecDepth 100000 in
set_option maxHeartbeats 4000000 in
theorem extreme_low (w : World) (N : Int) (a : Option Addr) (cap : Nat) (bs : List Bd) (hN : i64ok N) (hl : bs.length ≤ 9223372036854775807) (h : BoundsAt w a bs) :
 Calls Tryz.prog 189 #[.agg #[.int .i64 N, .slice a bs.length cap], .string ⟨#[108, 111, 119]⟩] w fun e w' => PathPost (leastE N bs).1 (leastE N bs).2 w.heap.size e w' ∧ Below w.heap.size w w' := by
 have H := hidE h
 have HN := hidE hN
 clear h hN
 have hB0 : Below w.heap.size w (w.alloc (.cells #[.int .i64 N, .slice a bs.length cap] 61)) := (Below.refl _ _).alloc (Nat.le_refl _) _
 have hx0 : (w.alloc (.cells #[.int .i64 N, .slice a bs.length cap] 61)).heap[w.heap.size]? = some (.cells #[.int .i64 N, .slice a bs.length cap] 61 (0,0)) := heap_alloc_new _ _
 have hask : Calls Tryz.prog 143 #[.agg #[.int .i64 N, .slice a bs.length cap], .slice none 0 0] (w.alloc (.cells #[.int .i64 N, .slice a bs.length cap] 61)) _ :=
  asked_any _ N a cap bs none 0 [] HN.out hl (by simp) (H.out.alloc _) (.inl rfl)
 have X0 := hidE hx0
 clear hx0
 by_cases he : askedE N bs [] = 0
 ·obtain ⟨R, t, rfl, ht, HO⟩ := asked0 he
  have hE : leastE R bs = if (List.range R).any (fun p => !nB (distN R bs p 0)) = true then ([], 5) else (lowV R bs, 0) := by
   unfold leastE extremeE; rw [if_pos he]; simp only [Int.toNat_natCast]
  have hn0 := HO.n0
  have hn1 := HO.n1
  have htg := fun (p q : Nat) (hp : p < R) => tget_dist ht q hp
  have htl := tableP_length R t bs
  have hbd : ∀ p q, p < R → q < R → -1000000000000000 ≤ distN R bs p q := fun p q hp hq => by
   have := HO.row_bd hp hq
   unfold distN; rw [heightsP_of ht]
   omega
  have hrl : ∀ r ∈ tableP R t bs, r.length = 128 := by
   intro r hr
   simp only [tableP, List.mem_map, List.mem_range] at hr
   obtain ⟨q, hq, rfl⟩ := hr
   exact (HO.row hq).1
  have HE := hidE hE
  have HA := hidE hask
  have HEE := hidE he
  have HT := hidE ht
  have HTG := hidE htg
  have HTL := hidE htl
  have HRL := hidE hrl
  have HBD := hidE hbd
  clear hE hask he ht htg htl hrl hbd
  go_enter Tryz.func189, Tryz.ntmps189
  go_wp2_with fail
  refine HA.out.mono ?_
  rintro e w1 ⟨hp, hb1⟩
  unfold AskedPost at hp
  rw [if_pos HEE.out] at hp
  obtain ⟨bn, t', ht', rfl, hbn, hcell⟩ := hp
  have htt : t' = t := by have := HT.out; rw [ht'] at this; exact Option.some.inj this
  subst htt
  have B1 := hB0.trans (hb1.mono hB0.size)
  have htab := table_any w1 bn R a cap bs t' HO (H.out.below B1 (Nat.le_refl _)) hcell
  have x1 := blk_below hb1 (by simp) X0.out
  have HTAB := hidE htab
  have HB1 := hidE B1
  have X1 := hidE x1
  clear htab hcell ht' hb1 B1 hbn x1
  go_wp2_with fail
  refine HTAB.out.mono ?_
  rintro e w2 ⟨v, rfl, hb2, hown⟩
  obtain ⟨R', hR'⟩ : ∃ R', R = R' + 1 := ⟨R - 1, by omega⟩
  have hown' := hown
  rw [hR'] at hown'
  obtain ⟨g, cp, rfl⟩ := ownsRow_succ hown'
  rw [← hR'] at hown
  obtain ⟨hra, hgl⟩ := rowsAt_of_owns hown HRL.out
  have x2 := blk_below hb2 (lt_of_block X1.out) X1.out
  have HRA := hidE hra
  have HB2 := hidE (HB1.out.trans (hb2.mono HB1.out.size))
  have X2 := hidE x2
  have e0 : w2.cell? ⟨w.heap.size, 0, none⟩ = some (.int .i64 (R : Int)) := c_e x2 rfl
  rw [← hR']
  clear hra hown hown' hb2 x2 hR'
  go_wp2_with fail
  clear e0
  go_loopw [9, 25] (fun v9 i wr => ∃ k : Nat, k ≤ R ∧ i = .int .i64 k ∧ Hid (∀ p, p < k → nB (distN R bs p 0) = true) ∧ Hid (wr.ownsRow w2.heap.size 3 1 v9 ((List.range k).map (fun p : Nat => -nV (distN R bs p 0))).length (intsV ((List.range k).map (fun p : Nat => -nV (distN R bs p 0))))) ∧ Hid (Below w2.heap.size w2 wr)) (fun _ i _ => R - (intOf i).toNat)
  case atStart => exact ⟨0, by omega, rfl, hidE (fun p hp => by omega), hidE (World.ownsRow_nil _ _ _ _), hidE (Below.refl _ _)⟩
  case round =>
   obtain ⟨k, hk, rfl, hall, hown, hb⟩ := hrel
   by_cases hlt : k < R
   ·have hra2 := HRA.out.below hb.out hgl
    have c0 := hra2 0 k (by rw [HTL.out]; omega) (by omega)
    have c1 := hra2 k 0 (by rw [HTL.out]; omega) (by omega)
    have g0 := HTG.out 0 k (by omega)
    have g1 := HTG.out k 0 (by omega)
    unfold tget at g0 g1
    rw [g0, Nat.zero_mul, Nat.zero_add] at c0
    rw [g1, Nat.add_zero] at c1
    clear g0 g1
    have hb0 := HBD.out 0 k (by omega) hlt
    have hb9 := HBD.out k 0 hlt (by omega)
    obtain ⟨v1, hv1⟩ : ∃ v, distN R bs 0 k = v := ⟨_, rfl⟩
    obtain ⟨v2, hv2⟩ : ∃ v, distN R bs k 0 = v := ⟨_, rfl⟩
    rw [hv1] at c0 hb0
    rw [hv2] at c1 hb9
    have hgw : g < wr.heap.size := Nat.lt_of_lt_of_le hgl hb.out.size
    have k128 : (k : Int) < 128 := by omega
    have k128' : k < 128 := by omega
    have kR : (k : Int) < (R : Int) := by omega
    have R0 : (0 : Int) < (R : Int) := by omega
    have R0' : 0 < R := by omega
    have HV1 := hidE hv1
    have HV2 := hidE hv2
    have hsn : (List.range (k + 1)).map (fun p : Nat => -nV (distN R bs p 0)) = (List.range k).map (fun p : Nat => -nV (distN R bs p 0)) ++ [-numV v2] := by
     rw [List.range_succ, List.map_append]
     simp only [List.map_cons, List.map_nil]
     rw [HV2.out]; rfl
    have HSN := hidE hsn
    obtain ⟨nb, hnb⟩ : ∃ b, numB v2 = b := ⟨_, rfl⟩
    have hnb2 : nB (distN R bs k 0) = nb := by rw [HV2.out]; exact hnb
    have HNB := hidE hnb2
    obtain ⟨nv, hnv⟩ : ∃ v, -numV v2 = v := ⟨_, rfl⟩
    rw [hnv] at HSN
    clear hv1 hv2 hsn hnb2 hra2
    obtain ⟨wq, rfl⟩ : ∃ y : World, y = wr := ⟨wr, rfl⟩
    have lh : (Instr.lookup 242 (.map (some wq.heap.size)) (.string ⟨#[108, 111, 119]⟩) false).run Tryz.prog (wq.alloc endsObj).drew = .ok (.func (.func 268) #[] #[]) (wq.alloc endsObj).drew :=
     run_lookup_string (r := wq.heap.size) (i := 1) Tryz.underlying242 Tryz.underlying9 (heap_alloc_at wq endsObj _ rfl) (by rfl)
    go_wp2_with fail
    go_cut [11, 12] (fun s11 s12 wx => s11 = .int .i64 nv ∧ s12 = .bool nb ∧ Hid (Below wq.heap.size wq wx))
    case first =>
     have ba : Below wq.heap.size wq (wq.alloc endsObj).drew := ((Below.refl _ _).alloc (Nat.le_refl _) _).drew
     have d0 := (ba.cell (p := ⟨g, k, none⟩) hgw).trans c0
     have d1 := (ba.cell (p := ⟨g, k * 128, none⟩) hgw).trans c1
     go_region_held3 (fun V => V.cell? ⟨g, k, none⟩ = some (.int .i64 v1) ∧ V.cell? ⟨g, k * 128, none⟩ = some (.int .i64 v2))
      (first | (exact ⟨u0, u1⟩) | (exact ⟨d0, d1⟩) | (exact ⟨c0, c1⟩) | go_keep)
      (first
       | (go_at_call 223; refine (ends_any _).mono ?_; rintro e W2 ⟨rfl, rfl⟩)
       | (go_at_call 268; refine (low_any _ _ _ (by omega)).mono ?_; rintro e W3 ⟨rfl, h1⟩; (rw [hnb, hnv]); (have h2 : Below wq.heap.size wq W3 := ba.trans (h1.mono (by simp))); (have u0 := (h2.cell (p := ⟨g, k, none⟩) hgw).trans c0); (have u1 := (h2.cell (p := ⟨g, k * 128, none⟩) hgw).trans c1); (have HH := hidE h2); clear h1 h2))
     all_goals (go_wp2_with fail; go_meet)
     all_goals exact ⟨rfl, rfl, HH⟩
    case rest =>
     obtain ⟨rfl, rfl, hbx⟩ := hcut
     obtain ⟨wf, rfl⟩ : ∃ x : World, x = wc := ⟨wc, rfl⟩
     have hbf := hidE (hb.out.trans (hbx.out.mono hb.out.size))
     have hof := ownsRow_of_block hown.out (fun q hq => hbx.out.block q (owns_lt' hown.out hq))
     have HOF := hidE hof
     clear lh c0 c1 hof hnb hnv
     cases nb with
     | false =>
       go_wp2_with fail
       refine bodyPost_ret (v := .tuple #[.slice none 0 0, .int .i64 5]) (by simp [results, Tryz.results189, go_sem]) rfl ⟨?_, HB2.out.trans (hbf.out.mono HB2.out.size)⟩
       have hany : (List.range R).any (fun p => !nB (distN R bs p 0)) = true := List.any_eq_true.2 ⟨k, List.mem_range.2 hlt, by rw [HNB.out]; rfl⟩
       rw [show leastE R bs = ([], 5) by rw [HE.out, if_pos hany]]
       exact ⟨_, rfl, World.ownsRow_nil _ _ _ _⟩
     | true =>
       have ba : Below wf.heap.size wf (wf.alloc (.cells #[.int .i64 nv] 3)) := (Below.refl _ _).alloc (Nat.le_refl _) _
       obtain ⟨v', W', hr', ho', hb'⟩ := append_ints (wf.alloc (.cells #[.int .i64 nv] 3)) w2.heap.size u9 ((List.range k).map (fun p : Nat => -nV (distN R bs p 0))) (World.ownsRow.alloc HOF.out _) (some ⟨wf.heap.size, 0, none⟩) 1 [nv] (ints_one wf nv) (by simp; omega) (by simp) (Nat.le_trans hbf.out.size ba.size) 52
       have HR' := hidE hr'
       have HO' := hidE ho'
       have HB' := hidE (hbf.out.trans ((ba.mono hbf.out.size).trans hb'))
       clear hr' ho' hb' ba
       go_wp2_with (at_builtin; refine wpList_op_append rfl (s := .tmp 48) (x := .tmp 50) (t := 52) rfl rfl rfl HR'.out ?_)
       go_roundw
       case rel =>
        refine ⟨k + 1, by omega, by go_num, hidE (fun p hp => ?_), hidE (by rw [HSN.out]; exact HO'.out), HB'⟩
        by_cases e : p = k
        ·subst e; exact HNB.out
        ·exact hall.out p (by omega)
       case measure => simp [intOf]; omega
   ·obtain rfl : k = R := by omega
    have hmap : (List.range k).map (fun p : Nat => -nV (distN k bs p 0)) = lowV k bs := by
     unfold lowV
     exact List.map_congr_left fun p hp => by rw [nV_near (by have q := hall.out p (List.mem_range.1 hp); unfold nB at q; unfold farI; exact of_decide_eq_true q)]
    have hany : (List.range k).any (fun p => !nB (distN k bs p 0)) = false := by
     rw [List.any_eq_false]
     intro p hp
     rw [hall.out p (List.mem_range.1 hp)]; simp
    rw [hmap] at hown
    have HAN := hidE hany
    have HOW := hidE (ownsRow_base hown.out HB2.out.size)
    obtain ⟨o9, c9, e9, _, _⟩ := intsAt_of_owns hown.out
    subst e9
    have HBF := hidE (HB2.out.trans (hb.out.mono HB2.out.size))
    clear hmap hany hown hall hb
    go_wp2_with fail
    refine bodyPost_ret (v := .tuple #[.slice o9 (lowV k bs).length c9, .int .i64 0]) (by simp [results, Tryz.results189, go_sem]) rfl ⟨?_, HBF.out⟩
    rw [show leastE k bs = (lowV k bs, 0) by rw [HE.out, if_neg (by rw [HAN.out]; simp)]]
    exact ⟨_, rfl, HOW.out⟩
 ·have hE : leastE N bs = ([], askedE N bs []) := by unfold leastE extremeE; rw [if_neg he]
  obtain ⟨c, hc⟩ : ∃ c, askedE N bs [] = c := ⟨_, rfl⟩
  have hc1 : (c == 0) = false := by rw [← hc]; simpa using he
  have hc2 : (c != 0) = true := by rw [← hc]; simpa using he
  have HC := hidE hc
  have HD := hidE hE
  have HEE := hidE he
  have HA := hidE hask
  clear hE he hc hask
  go_enter Tryz.func189, Tryz.ntmps189
  go_wp2_with fail
  refine HA.out.mono ?_
  rintro e w1 ⟨hp, hb1⟩
  unfold AskedPost at hp
  rw [if_neg HEE.out, HC.out] at hp
  subst hp
  go_wp2_with fail
  refine bodyPost_ret (v := .tuple #[.slice none 0 0, .int .i64 c]) (by simp [results, Tryz.results189, go_sem]) rfl ⟨?_, hB0.trans (hb1.mono hB0.size)⟩
  rw [HD.out, HC.out]
  exact ⟨_, rfl, World.ownsRow_nil _ _ _ _⟩
set_option maxRecDepth 100000 in
theorem greatest_any (w : World) (N : Int) (a : Option Addr) (cap : Nat) (bs : List Bd) (hN : i64ok N) (hl : bs.length ≤ 9223372036854775807) (h : BoundsAt w a bs) :
 Calls Tryz.prog 117 #[.agg #[.int .i64 N, .slice a bs.length cap]] w fun e w' => PathPost (greatestE N bs).1 (greatestE N bs).2 w.heap.size e w' ∧ Below w.heap.size w w' := by
 have b0 : Below w.heap.size w (w.alloc (.cells #[.int .i64 N, .slice a bs.length cap] 61)) := (Below.refl _ _).alloc (Nat.le_refl _) _
 have hex := extreme_high (w.alloc (.cells #[.int .i64 N, .slice a bs.length cap] 61)) N a cap bs hN hl (h.alloc _)
 obtain ⟨⟨L, c⟩, hLc⟩ : ∃ t, greatestE N bs = t := ⟨_, rfl⟩
 rw [hLc] at hex ⊢
 have HEX := hidE hex
 have B0 := hidE b0
 clear hex b0 hLc
 go_enter Tryz.func117, Tryz.ntmps117
 go_wp2_with fail
 refine HEX.out.mono ?_
 rintro e w1 ⟨⟨v, rfl, ho⟩, hb1⟩
 have HO := hidE ho
 have HB := hidE hb1
 clear ho hb1
 go_wp2_with fail
 refine bodyPost_ret (v := .tuple #[v, .int .i64 c]) (by simp [results, Tryz.results117, go_sem]) rfl ⟨⟨v, rfl, ownsRow_base HO.out B0.out.size⟩, B0.out.trans (HB.out.mono B0.out.size)⟩
set_option maxRecDepth 100000 in
theorem least_any (w : World) (N : Int) (a : Option Addr) (cap : Nat) (bs : List Bd) (hN : i64ok N) (hl : bs.length ≤ 9223372036854775807) (h : BoundsAt w a bs) :
 Calls Tryz.prog 112 #[.agg #[.int .i64 N, .slice a bs.length cap]] w fun e w' => PathPost (leastE N bs).1 (leastE N bs).2 w.heap.size e w' ∧ Below w.heap.size w w' := by
 have b0 : Below w.heap.size w (w.alloc (.cells #[.int .i64 N, .slice a bs.length cap] 61)) := (Below.refl _ _).alloc (Nat.le_refl _) _
 have hex := extreme_low (w.alloc (.cells #[.int .i64 N, .slice a bs.length cap] 61)) N a cap bs hN hl (h.alloc _)
 obtain ⟨⟨L, c⟩, hLc⟩ : ∃ t, leastE N bs = t := ⟨_, rfl⟩
 rw [hLc] at hex ⊢
 have HEX := hidE hex
 have B0 := hidE b0
 clear hex b0 hLc
 go_enter Tryz.func112, Tryz.ntmps112
 go_wp2_with fail
 refine HEX.out.mono ?_
 rintro e w1 ⟨⟨v, rfl, ho⟩, hb1⟩
 have HO := hidE ho
 have HB := hidE hb1
 clear ho hb1
 go_wp2_with fail
 refine bodyPost_ret (v := .tuple #[v, .int .i64 c]) (by simp [results, Tryz.results112, go_sem]) rfl ⟨⟨v, rfl, ownsRow_base HO.out B0.out.size⟩, B0.out.trans (HB.out.mono B0.out.size)⟩
def firstE (F : Fld) (l : List Rcd) : List Int × Int := if matchE F l 0 ≠ 0 then ([], matchE F l 0) else (lowV (ptN F) (sysL F l), 0)
def lastE (F : Fld) (l : List Rcd) : List Int × Int := if matchE F l 0 ≠ 0 then ([], matchE F l 0) else (highV (ptN F) (sysL F l), 0)
set_option maxRecDepth 10000 in
set_option maxHeartbeats 2000000 in
theorem firstL_any (w : World) (x : FV) (F : Fld) (ar : Option Addr) (cr : Nat) (l : List Rcd) (h : FldAt w x F) (hr : RcdsAt w ar l) (hn : l.length ≤ 100000) (hk : ∀ r ∈ l, (0 ≤ r.call.kind ∧ r.call.kind ≤ 255) ∧ r.deed.size ≤ 9223372036854775807) :
 Calls Tryz.prog 45 #[x.val F, .slice ar l.length cr] w fun e w' => PathPost (firstE F l).1 (firstE F l).2 w.heap.size e w' ∧ Below w.heap.size w w' := by
 obtain ⟨w0, hw0⟩ : ∃ W, W = w.alloc (.cells (x.arr F) 27) := ⟨_, rfl⟩
 have B0 := hidE (show Below w.heap.size w w0 by rw [hw0]; exact (Below.refl _ _).alloc (Nat.le_refl _) _)
 have X0 := hidE (show w0.heap[w.heap.size]? = some (.cells (x.arr F) 27 (0,0)) by rw [hw0]; exact heap_alloc_new _ _)
 have HA := hidE (agreed_any w0 x F ar cr l (h.below B0.out) (hr.below B0.out (Nat.le_refl _)) hn hk 95 #[] true (enters_of Tryz.func95 (by kernel_rfl) rfl) (fun hg W b o c hw hb => anything_any W _))
 rw [show flagE true = 0 from rfl] at HA
 obtain ⟨⟨R1, R2⟩, hR⟩ : ∃ R, firstE F l = R := ⟨_, rfl⟩
 rw [hR]
 unfold firstE at hR
 have HMZ := hidE (fun (q : matchE F l 0 = 0) => match_zero.1 q)
 obtain ⟨M, hM⟩ : ∃ M, matchE F l 0 = M := ⟨_, rfl⟩
 rw [hM] at HA hR HMZ
 have HR := hidE hR
 have kk := rowc X0.out
 clear hM h hr hn hk hR
 unfold FV.val FV.arr at *
 go_enter Tryz.func45, Tryz.ntmps45
 go_upto_region 1 with fail
 rw [← hw0]
 clear hw0
 go_wp2_with fail
 refine HA.out.mono ?_
 rintro e w1 ⟨hp, hb1⟩
 have B1 := hidE (B0.out.trans (hb1.mono B0.out.size))
 clear hb1 HA kk X0
 unfold AgreedPost at hp
 by_cases h0 : M = 0
 rotate_left
 ·have hzb : (M != 0) = true := by simpa using h0
  rw [if_neg h0] at hp
  have hq := HR.out
  rw [if_pos h0] at hq
  obtain ⟨v, rfl⟩ := hp
  cases hq
  clear h0 HR HMZ
  go_wp2_with fail
  refine bodyPost_ret (v := .tuple #[.slice none 0 0, .int .i64 R2]) (by simp [results, Tryz.results45, go_sem]) rfl ⟨⟨_, rfl, World.ownsRow_nil _ _ _ _⟩, B1.out⟩
 subst h0
 rw [if_pos rfl] at hp
 have hq := HR.out
 rw [if_neg (by simp)] at hq
 obtain ⟨b, o, c, rfl, hw, hbl⟩ := hp
 obtain ⟨q1, q2, q3⟩ := HMZ.out rfl
 have hL := least_any w1 (ptN F) o c (sysL F l) (ptN_ok q1.fld) (Nat.le_trans hw.cap.1 hw.cap.2) hw.bnd
 rw [(last_eq q1 q3).2, hq] at hL
 have HX := hidE hw.box
 have kx := rowc HX.out
 unfold WV.arr at kx
 have HL := hidE hL
 obtain ⟨P, hP⟩ : ∃ P : Int, ((ptN F : Nat) : Int) = P := ⟨_, rfl⟩
 rw [hP] at kx HL
 obtain ⟨LN, hLN⟩ : ∃ n, (sysL F l).length = n := ⟨_, rfl⟩
 rw [hLN] at kx HL
 clear hP hLN hq hL q1 q2 q3 hw hbl HR HMZ HX
 go_wp2_with fail
 refine HL.out.mono ?_
 rintro e w2 ⟨⟨v, rfl, ho⟩, hb2⟩
 have B2 := hidE (B1.out.trans (hb2.mono B1.out.size))
 have HO := hidE (ownsRow_base ho B1.out.size)
 clear hb2 ho kx HL
 go_wp2_with fail
 refine bodyPost_ret (v := .tuple #[v, .int .i64 R2]) (by simp [results, Tryz.results45, go_sem]) rfl ⟨⟨_, rfl, HO.out⟩, B2.out⟩
set_option maxRecDepth 10000 in
set_option maxHeartbeats 2000000 in
theorem lastL_any (w : World) (x : FV) (F : Fld) (ar : Option Addr) (cr : Nat) (l : List Rcd) (h : FldAt w x F) (hr : RcdsAt w ar l) (hn : l.length ≤ 100000) (hk : ∀ r ∈ l, (0 ≤ r.call.kind ∧ r.call.kind ≤ 255) ∧ r.deed.size ≤ 9223372036854775807) :
 Calls Tryz.prog 49 #[x.val F, .slice ar l.length cr] w fun e w' => PathPost (lastE F l).1 (lastE F l).2 w.heap.size e w' ∧ Below w.heap.size w w' := by
 obtain ⟨w0, hw0⟩ : ∃ W, W = w.alloc (.cells (x.arr F) 27) := ⟨_, rfl⟩
 have B0 := hidE (show Below w.heap.size w w0 by rw [hw0]; exact (Below.refl _ _).alloc (Nat.le_refl _) _)
 have X0 := hidE (show w0.heap[w.heap.size]? = some (.cells (x.arr F) 27 (0,0)) by rw [hw0]; exact heap_alloc_new _ _)
 have HA := hidE (agreed_any w0 x F ar cr l (h.below B0.out) (hr.below B0.out (Nat.le_refl _)) hn hk 95 #[] true (enters_of Tryz.func95 (by kernel_rfl) rfl) (fun hg W b o c hw hb => anything_any W _))
 rw [show flagE true = 0 from rfl] at HA
 obtain ⟨⟨R1, R2⟩, hR⟩ : ∃ R, lastE F l = R := ⟨_, rfl⟩
 rw [hR]
 unfold lastE at hR
 have HMZ := hidE (fun (q : matchE F l 0 = 0) => match_zero.1 q)
 obtain ⟨M, hM⟩ : ∃ M, matchE F l 0 = M := ⟨_, rfl⟩
 rw [hM] at HA hR HMZ
 have HR := hidE hR
 have kk := rowc X0.out
 clear hM h hr hn hk hR
 unfold FV.val FV.arr at *
 go_enter Tryz.func49, Tryz.ntmps49
 go_upto_region 1 with fail
 rw [← hw0]
 clear hw0
 go_wp2_with fail
 refine HA.out.mono ?_
 rintro e w1 ⟨hp, hb1⟩
 have B1 := hidE (B0.out.trans (hb1.mono B0.out.size))
 clear hb1 HA kk X0
 unfold AgreedPost at hp
 by_cases h0 : M = 0
 rotate_left
 ·have hzb : (M != 0) = true := by simpa using h0
  rw [if_neg h0] at hp
  have hq := HR.out
  rw [if_pos h0] at hq
  obtain ⟨v, rfl⟩ := hp
  cases hq
  clear h0 HR HMZ
  go_wp2_with fail
  refine bodyPost_ret (v := .tuple #[.slice none 0 0, .int .i64 R2]) (by simp [results, Tryz.results49, go_sem]) rfl ⟨⟨_, rfl, World.ownsRow_nil _ _ _ _⟩, B1.out⟩
 subst h0
 rw [if_pos rfl] at hp
 have hq := HR.out
 rw [if_neg (by simp)] at hq
 obtain ⟨b, o, c, rfl, hw, hbl⟩ := hp
 obtain ⟨q1, q2, q3⟩ := HMZ.out rfl
 have hL := greatest_any w1 (ptN F) o c (sysL F l) (ptN_ok q1.fld) (Nat.le_trans hw.cap.1 hw.cap.2) hw.bnd
 rw [(last_eq q1 q3).1, hq] at hL
 have HX := hidE hw.box
 have kx := rowc HX.out
 unfold WV.arr at kx
 have HL := hidE hL
 obtain ⟨P, hP⟩ : ∃ P : Int, ((ptN F : Nat) : Int) = P := ⟨_, rfl⟩
 rw [hP] at kx HL
 obtain ⟨LN, hLN⟩ : ∃ n, (sysL F l).length = n := ⟨_, rfl⟩
 rw [hLN] at kx HL
 clear hP hLN hq hL q1 q2 q3 hw hbl HR HMZ HX
 go_wp2_with fail
 refine HL.out.mono ?_
 rintro e w2 ⟨⟨v, rfl, ho⟩, hb2⟩
 have B2 := hidE (B1.out.trans (hb2.mono B1.out.size))
 have HO := hidE (ownsRow_base ho B1.out.size)
 clear hb2 ho kx HL
 go_wp2_with fail
 refine bodyPost_ret (v := .tuple #[v, .int .i64 R2]) (by simp [results, Tryz.results49, go_sem]) rfl ⟨⟨_, rfl, HO.out⟩, B2.out⟩
theorem built_rcd (r : Rcd) : Tryz.prog.builtSlice 50 1 [(0, .agg r.vals)] = some r.vals := by kernel_rfl
def restL (l : List Rcd) (id : Int) (n : Nat) : List Rcd := (l.take n).filter fun r => decide (r.id ≠ id)
theorem restL_all (l : List Rcd) (id : Int) : restL l id l.length = withoutId l id := by unfold restL withoutId; rw [List.take_length]
theorem restL_succ (l : List Rcd) (id : Int) {n : Nat} (hn : n < l.length) : restL l id (n + 1) = restL l id n ++ (if l[n].id ≠ id then [l[n]] else []) := by
 unfold restL
 rw [List.take_succ_eq_append_getElem hn, List.filter_append]
 congr 1
 by_cases h : l[n].id = id <;> simp [h]
theorem restL_len (l : List Rcd) (id : Int) (n : Nat) : (restL l id n).length ≤ l.length := Nat.le_trans (List.length_filter_le _ _) (List.length_take_le' ..)
theorem idle_spec {F : Fld} {l : List Rcd} (h : (idleE F l).2 = 0) : ∃ L H, firstE F l = (L, 0) ∧ lastE F l = (H, 0) ∧ L.length ≤ 128 ∧ H.length ≤ 128 ∧
 ∀ id ∈ (idleE F l).1, firstE F (withoutId l id) = (L, 0) ∧ lastE F (withoutId l id) = (H, 0) ∧ (withoutId l id).length + 1 = l.length ∧ ∀ i s j t, widthE F (withoutId l id) i s j t = widthE F l i s j t := by
 have hm : matchE F l 0 = 0 := by
  unfold idleE at h
  by_cases q : matchE F l 0 ≠ 0
  ·rw [if_pos q] at h; exact absurd h q
  ·exact Classical.not_not.1 q
 obtain ⟨g, -, ha⟩ := match_zero.1 hm
 have pl := pt_le g.fld
 refine ⟨lowV (ptN F) (sysL F l), highV (ptN F) (sysL F l), by unfold firstE; rw [if_neg (by rw [hm]; simp)], by unfold lastE; rw [if_neg (by rw [hm]; simp)], by simp [lowV]; omega, by simp [highV]; omega, fun id hid => ?_⟩
 unfold idleE at hid
 rw [if_neg (by rw [hm]; simp)] at hid
 obtain ⟨r, hr, rfl⟩ := List.mem_map.1 hid
 obtain ⟨hr1, hr2⟩ := List.mem_filter.1 hr
 obtain ⟨g2, a2, e1, e2, e3⟩ := idle_law g ha hr2
 have hm2 : matchE F (withoutId l r.id) 0 = 0 := match_zero.2 ⟨g2, rfl, a2⟩
 refine ⟨?_, ?_, without_len g.asc hr1, e3⟩
 ·unfold firstE; rw [if_neg (by rw [hm2]; simp), e1]
 ·unfold lastE; rw [if_neg (by rw [hm2]; simp), e2]
theorem idle_none0 {F : Fld} {l : List Rcd} (h : (idleE F l).2 ≠ 0) : (idleE F l).1 = [] := by
 unfold idleE at h ⊢
 by_cases q : matchE F l 0 ≠ 0
 ·rw [if_pos q]
 ·rw [if_neg q] at h; exact absurd rfl h
theorem RecsAt.at_cells {W : World} {rb ro : Nat} {l : List Rcd} (h : RcdsAt W (some ⟨rb, ro, none⟩) l) {n : Nat} (hn : n < l.length) {r : Rcd} (hr : l[n] = r) : ∀ j, j < 18 → W.cell? ⟨rb, ro + n * 18 + j, none⟩ = r.cells[j]? := by
 obtain ⟨b', o', e, _, hc⟩ := RecsAt.at h hn
 cases e
 rw [hr] at hc
 exact hc
theorem idle_few (F : Fld) (l : List Rcd) : (idleE F l).1.length ≤ l.length := by
 unfold idleE
 split
 ·simp
 ·rw [List.length_map]; exact List.length_filter_le _ _
set_option maxRecDepth 10000 in
set_option maxHeartbeats 8000000 in
theorem limitsIdle_any (w : World) (x : FV) (F : Fld) (ar : Option Addr) (cr : Nat) (l : List Rcd) (i s : Int) (j t : Int) (h : FldAt w x F) (hr : RcdsAt w ar l) (hn : l.length ≤ 9223372036854775807) (hd : ∀ r ∈ l, r.deed.size ≤ 9223372036854775807) (hk : ∀ r ∈ l, 0 ≤ r.call.kind ∧ r.call.kind ≤ 255) :
 Calls Tryz.prog 11 #[x.val F, .slice ar l.length cr, .agg #[.int .i64 i, .int .i64 s], .agg #[.int .i64 j, .int .i64 t]] w fun e w' => e = .returned (.bool true) ∧ Below w.heap.size w w' := by
 obtain ⟨w0, hw0⟩ : ∃ W, W = ((w.alloc (.cells (x.arr F) 27)).alloc (.cells #[.int .i64 i, .int .i64 s] 30)).alloc (.cells #[.int .i64 j, .int .i64 t] 30) := ⟨_, rfl⟩
 have B0 := hidE (show Below w.heap.size w w0 by rw [hw0]; exact (((Below.refl _ _).alloc (Nat.le_refl _) _).alloc (by simp) _).alloc (by simp; omega) _)
 have X0 := hidE (show Kb [(w.heap.size + 1 + 1, .cells #[.int .i64 j, .int .i64 t] 30), (w.heap.size + 1, .cells #[.int .i64 i, .int .i64 s] 30), (w.heap.size, .cells (x.arr F) 27)] w0 by
  rw [hw0]
  have := Kb.alloc (o := .cells #[.int .i64 j, .int .i64 t] 30) (Kb.alloc (o := .cells #[.int .i64 i, .int .i64 s] 30) (Kb.alloc (W := w) (o := .cells (x.arr F) 27) (L := []) trivial))
  simpa using this)
 have HF := hidE (fun W (hb : Below w0.heap.size w0 W) => (h.below B0.out).below hb)
 have HRR := hidE (fun W (hb : Below w0.heap.size w0 W) => (hr.below B0.out (Nat.le_refl _)).below hb (Nat.le_refl _))
 have HSM := hidE (smallL_any w0 x F ar cr l (h.below B0.out) (hr.below B0.out (Nat.le_refl _)) hn hd)
 have HSV := hidE (fun W => surveyed_any W)
 have HRC := hidE (fun (q : smallB F l = true) => And.intro (small_facts q) (small_recs q hk))
 obtain ⟨sm, hsm⟩ : ∃ b, smallB F l = b := ⟨_, rfl⟩
 rw [hsm] at HSM HRC
 have k0 := rowc X0.out.2.2.1
 have k1 := rowc X0.out.2.1
 have k2 := rowc X0.out.1
 unfold FV.arr at k0
 unfold FV.val FV.arr at HSM
 clear h hr hn hd hk hsm
 go_enter Tryz.func11, Tryz.ntmps11
 go_upto_region 1 with fail
 try unfold FV.val FV.arr
 rw [show ((w.alloc (.cells #[.slice x.aS F.sts.length x.cS, .slice x.aL F.lms.length x.cL, .slice x.aP F.prs.length x.cP, .slice x.aV F.vrs.length x.cV] 27)).alloc (.cells #[.int .i64 i, .int .i64 s] 30)).alloc (.cells #[.int .i64 j, .int .i64 t] 30) = w0 from hw0.symm]
 clear hw0
 go_wp2_with fail
 refine HSM.out.mono ?_
 rintro e w1 ⟨rfl, hb1⟩
 have BB1 := hidE hb1
 have X1 := hidE (X0.out.next hb1)
 clear hb1 k0 k1 k2 HSM X0
 cases sm
 ·go_wp2_with fail
  refine (HSV.out _).mono ?_
  rintro e wz ⟨rfl, hbz⟩
  have BZ := hidE (B0.out.trans ((BB1.out.trans (hbz.mono BB1.out.size)).mono B0.out.size))
  clear hbz
  go_wp2_with fail
  go_ret
  exact ⟨rfl, BZ.out⟩
 obtain ⟨⟨⟨f1, f2, f3⟩, f4, f5⟩, hn5, hk5⟩ := HRC.out (by trivial)
 have HID := hidE (fun W (hb : Below w0.heap.size w0 W) => idleL_any W x F ar cr l (HF.out W hb) (HRR.out W hb) hn5 hk5)
 have HFI := hidE (fun W (hb : Below w0.heap.size w0 W) a9 c9 (m : List Rcd) (hm : m.length ≤ 100000) (hk : ∀ r ∈ m, r ∈ l) (hr : RcdsAt W a9 m) => firstL_any W x F a9 c9 m (HF.out W hb) hr hm (fun r q => hk5 r (hk r q)))
 have HLA := hidE (fun W (hb : Below w0.heap.size w0 W) a9 c9 (m : List Rcd) (hm : m.length ≤ 100000) (hk : ∀ r ∈ m, r ∈ l) (hr : RcdsAt W a9 m) => lastL_any W x F a9 c9 m (HF.out W hb) hr hm (fun r q => hk5 r (hk r q)))
 have HWI := hidE (fun W (hb : Below w0.heap.size w0 W) a9 c9 (m : List Rcd) (hm : m.length ≤ 100000) (hk : ∀ r ∈ m, r ∈ l) (hr : RcdsAt W a9 m) => widthL_any W x F a9 c9 m i s j t (HF.out W hb) hr hm (fun r q => hk5 r (hk r q)))
 have HSP := hidE (fun (q : (idleE F l).2 = 0) => idle_spec q)
 have HNO := hidE (fun (q : (idleE F l).2 ≠ 0) => idle_none0 q)
 have HFW := hidE (show (idleE F l).1.length ≤ 14 by have := idle_few F l; omega)
 have HL14 := hidE f4
 have HN5 := hidE hn5
 obtain ⟨⟨IL, er⟩, hp⟩ : ∃ p, idleE F l = p := ⟨_, rfl⟩
 rw [hp] at HID HSP HNO HFW
 clear hp f1 f2 f3 f4 f5 hn5 hk5 HRC
 have k0 := rowc X1.out.2.2.1
 have k1 := rowc X1.out.2.1
 have k2 := rowc X1.out.1
 unfold FV.arr at k0
 have HC := hidE (HID.out w1 BB1.out)
 try unfold FV.val FV.arr at HC
 go_wp2_with fail
 refine HC.out.mono ?_
 rintro e w2 ⟨⟨v1, rfl, o1⟩, hb⟩
 have BB2 := hidE (BB1.out.trans (hb.mono BB1.out.size))
 have X2 := hidE (X1.out.next hb)
 obtain ⟨a3, c3, rfl, hi1⟩ := owns_intsAt o1
 have LI2 := hidE hi1
 clear hb k0 k1 k2 HC BB1 X1 HID o1 hi1
 by_cases h0 : er = 0
 rotate_left
 ·have z1 : IL = [] := HNO.out h0
  subst z1
  have hzb : (er != 0) = true := by simpa using h0
  clear h0 HSP HFI HLA HWI HNO
  go_wp2_with fail
  refine (HSV.out _).mono ?_
  rintro e wz ⟨rfl, hbz⟩
  have BZ := hidE (B0.out.trans ((BB2.out.trans (hbz.mono BB2.out.size)).mono B0.out.size))
  clear hbz
  go_wp2_with fail
  go_ret
  exact ⟨rfl, BZ.out⟩
 subst h0
 obtain ⟨T1, T2, e1, e2, l1, l2, e3⟩ := HSP.out (by trivial)
 have HSP2 := hidE e3
 obtain ⟨⟨u1, u2, u3⟩, hu⟩ : ∃ u, widthE F l i s j t = u := ⟨_, rfl⟩
 have HUU := hidE hu
 have HF1 := hidE (fun W hb => (by have := HFI.out W hb ar cr l HN5.out (fun r q => q) (HRR.out W hb); rw [e1] at this; exact this))
 have HL1 := hidE (fun W hb => (by have := HLA.out W hb ar cr l HN5.out (fun r q => q) (HRR.out W hb); rw [e2] at this; exact this))
 have HW1 := hidE (fun W hb => (by have := HWI.out W hb ar cr l HN5.out (fun r q => q) (HRR.out W hb); rw [hu] at this; exact this))
 obtain ⟨n1, hn1⟩ : ∃ n, T1.length = n := ⟨_, rfl⟩
 obtain ⟨n2, hn2⟩ : ∃ n, T2.length = n := ⟨_, rfl⟩
 have HN1 := hidE hn1
 have HN2 := hidE hn2
 have HNN := hidE (And.intro l1 l2)
 clear e1 e2 e3 l1 l2 HSP HNO hu hn1 hn2
 have k0 := rowc X2.out.2.2.1
 have k1 := rowc X2.out.2.1
 have k2 := rowc X2.out.1
 unfold FV.arr at k0
 have HC := hidE (HF1.out w2 BB2.out)
 try unfold FV.val FV.arr at HC
 go_wp2_with fail
 refine HC.out.mono ?_
 rintro e w3 ⟨⟨v1, rfl, o1⟩, hb⟩
 have BB3 := hidE (BB2.out.trans (hb.mono BB2.out.size))
 have X3 := hidE (X2.out.next hb)
 have LI3 := hidE (LI2.out.below hb (Nat.le_refl _))
 obtain ⟨a4, c4, rfl, hi1⟩ := owns_intsAt o1
 have LA3 := hidE hi1
 simp only [HN1.out]
 clear hb k0 k1 k2 HC BB2 X2 LI2 HF1 o1 hi1
 have k0 := rowc X3.out.2.2.1
 have k1 := rowc X3.out.2.1
 have k2 := rowc X3.out.1
 unfold FV.arr at k0
 have HC := hidE (HL1.out w3 BB3.out)
 try unfold FV.val FV.arr at HC
 go_wp2_with fail
 refine HC.out.mono ?_
 rintro e w4 ⟨⟨v1, rfl, o1⟩, hb⟩
 have BB4 := hidE (BB3.out.trans (hb.mono BB3.out.size))
 have X4 := hidE (X3.out.next hb)
 have LI4 := hidE (LI3.out.below hb (Nat.le_refl _))
 have LA4 := hidE (LA3.out.below hb (Nat.le_refl _))
 obtain ⟨a5, c5, rfl, hi1⟩ := owns_intsAt o1
 have LB4 := hidE hi1
 simp only [HN2.out]
 clear hb k0 k1 k2 HC BB3 X3 LI3 LA3 HL1 o1 hi1
 have k0 := rowc X4.out.2.2.1
 have k1 := rowc X4.out.2.1
 have k2 := rowc X4.out.1
 unfold FV.arr at k0
 have HC := hidE (HW1.out w4 BB4.out)
 try unfold FV.val FV.arr at HC
 go_wp2_with fail
 refine HC.out.mono ?_
 rintro e w5 ⟨rfl, hb⟩
 have BB5 := hidE (BB4.out.trans (hb.mono BB4.out.size))
 have X5 := hidE (X4.out.next hb)
 have LI5 := hidE (LI4.out.below hb (Nat.le_refl _))
 have LA5 := hidE (LA4.out.below hb (Nat.le_refl _))
 have LB5 := hidE (LB4.out.below hb (Nat.le_refl _))
 clear hb k0 k1 k2 HC BB4 X4 LI4 LA4 LB4 HW1
 have HFW2 := HFW.out
 go_wp2_with fail
 go_loopw [18] (fun p wr => ∃ (k : Nat), k ≤ IL.length ∧ p = .int .i64 (k : Int) ∧ Hid (Below w5.heap.size w5 wr)) (fun p _ => IL.length - (intOf p).toNat)
 case atStart => exact ⟨0, Nat.zero_le _, rfl, hidE (Below.refl _ _)⟩
 case round =>
  obtain ⟨k, hk, rfl, HB⟩ := hrel
  obtain ⟨w6, rfl⟩ : ∃ z : World, z = wr := ⟨wr, rfl⟩
  have BB6 := hidE (BB5.out.trans (HB.out.mono BB5.out.size))
  have X6 := hidE (X5.out.next HB.out)
  have LI6 := hidE (LI5.out.below HB.out (Nat.le_refl _))
  have LA6 := hidE (LA5.out.below HB.out (Nat.le_refl _))
  have LB6 := hidE (LB5.out.below HB.out (Nat.le_refl _))
  by_cases hlt : k < IL.length
  rotate_left
  ·go_wp2_with fail
   refine (HSV.out _).mono ?_
   rintro e wz ⟨rfl, hbz⟩
   have BZ := hidE (B0.out.trans ((BB6.out.trans (hbz.mono BB6.out.size)).mono B0.out.size))
   clear hbz
   go_wp2_with fail
   go_ret
   exact ⟨rfl, BZ.out⟩
  obtain ⟨id, hid⟩ : ∃ v, IL[k] = v := ⟨_, rfl⟩
  obtain ⟨s1, s2, s3, s4⟩ := HSP2.out id (by rw [← hid]; exact List.getElem_mem hlt)
  obtain ⟨ib, io, rfl, ilt, hci⟩ := IntsAt.at LI6.out hlt
  rw [hid] at hci
  have HCI := hidE (fun V (hV : Below w6.heap.size w6 V) => (hV.cell (by exact ilt)).trans hci)
  have HRA := hidE (show restL l id l.length = withoutId l id from restL_all l id)
  have HRS := hidE (fun n (hn : n < l.length) => restL_succ l id hn)
  have HRL := hidE (fun n => restL_len l id n)
  have HMR := hidE (show ∀ r ∈ withoutId l id, r ∈ l from fun r hr => (List.mem_filter.1 hr).1)
  have HS3 := hidE s3
  have HF2 := hidE (fun W hb a9 c9 hr => (by have := HFI.out W hb a9 c9 (withoutId l id) (by have := HN5.out; omega) HMR.out hr; rw [s1] at this; exact this))
  have HL2 := hidE (fun W hb a9 c9 hr => (by have := HLA.out W hb a9 c9 (withoutId l id) (by have := HN5.out; omega) HMR.out hr; rw [s2] at this; exact this))
  have HW2 := hidE (fun W hb a9 c9 hr => (by have := HWI.out W hb a9 c9 (withoutId l id) (by have := HN5.out; omega) HMR.out hr; rw [s4, HUU.out] at this; exact this))
  have HB6 := hidE HB.out
  have HRR6 := hidE (HRR.out w6 BB6.out)
  clear hid s1 s2 s3 s4 hci ilt HB
  go_upto_region 13 with fail
  have HL14' := HL14.out
  go_wp2_with fail
  go_loopw [19, 20] (fun v p wr => ∃ (n : Nat), n ≤ l.length ∧ p = .int .i64 (n : Int) ∧ Hid (wr.ownsRow w6.heap.size 50 18 v (restL l id n).length ((restL l id n).flatMap Rcd.cells)) ∧ Hid (Below w6.heap.size w6 wr)) (fun _ p _ => l.length - (intOf p).toNat)
  case atStart => exact ⟨0, Nat.zero_le _, rfl, hidE (World.ownsRow_nil _ _ _ _), hidE (Below.refl _ _)⟩
  case round =>
   obtain ⟨n, hn, rfl, HO, HB⟩ := hrel
   have hl14 := HL14.out
   by_cases hltn : n < l.length
   ·obtain ⟨rb, ro, e1, hbl, hcc⟩ := RecsAt.at (HRR6.out.below HB.out (Nat.le_refl _)) hltn
    have HCC := hidE (range_of_recs hcc)
    have HSC := hidE (HRS.out n hltn)
    have HLN := hidE (HRL.out n)
    obtain ⟨r, hr⟩ : ∃ r, l[n] = r := ⟨_, rfl⟩
    rw [hr] at HSC HCC hcc
    have HRE := hidE hr
    subst e1
    have hz1 : wr.cell? ⟨rb, ro + n * 18, none⟩ = some (.int .i64 r.id) := (hcc 0 (by decide)).trans rfl
    have hz2 := HCI.out wr HB.out
    have n0 : (0 : Int) ≤ (n : Int) := by omega
    have n1' : (n : Int) < (l.length : Int) := by omega
    have k0' : (0 : Int) ≤ (k : Int) := by omega
    have k1' : (k : Int) < (IL.length : Int) := by omega
    clear hr hcc hbl
    by_cases hne : r.id = id
    ·have hd : (r.id != id) = false := by simpa using hne
     have hsc := HSC.out
     rw [if_neg (by simpa using hne), List.append_nil] at hsc
     clear hne
     go_wp2_with fail
     go_quiet (fail)
     go_wp2_with fail
     go_roundw
     case rel => exact ⟨n + 1, by omega, by go_num, hidE (by rw [hsc]; exact ownsRow_kept0 HO.out (below_drewN' _ _)), hidE (HB.out.trans ((below_drewN' _ _).mono HB.out.size))⟩
     case measure => simp [intOf]; omega
    ·have hd : (r.id != id) = true := by simpa using hne
     have hsc := HSC.out
     rw [if_pos hne] at hsc
     clear hne
     go_wp2_with fail
     go_quiet (fail)
     obtain ⟨Y, hY⟩ : ∃ Y, Y = wr.drewN nq := ⟨_, rfl⟩
     rw [← hY]
     have hyb : Below wr.heap.size wr Y := by rw [hY]; exact below_drewN' _ _
     have HBY := hidE (HB.out.trans (hyb.mono HB.out.size))
     have HRG := hidE (range_of_recs (RecsAt.at_cells (HRR6.out.below HBY.out (Nat.le_refl _)) hltn HRE.out))
     obtain ⟨v', W5, hrun, ho5, hb5, -⟩ := append_rcd (ownsRow_kept0 HO.out hyb) r (by have := HLN.out; omega) HBY.out.size 28
     rw [← hsc] at ho5
     have HRUN := hidE hrun
     have HO5 := hidE ho5
     have HB5 := hidE (HBY.out.trans hb5)
     clear hY hyb hrun ho5 hb5 hsc HO HB hz1 hz2
     go_wp2_with (first | (at_builtin; refine wpList_op_append rfl (s := .tmp 90) (x := .tmp 95) (t := 28) rfl rfl rfl HRUN.out ?_) | (refine wpList_load_mid rfl 50 _ rfl rb (ro + n * 18) rfl _ _ HRG.out Tryz.underlying50 rfl (by kernel_rfl) ?_) | (refine Great.wpList_buildSliceTo rfl 28 50 1 _ rfl _ rfl _ rfl Tryz.underlying28 r.vals (by simp [Act.eval]; exact built_rcd r) ?_))
     go_roundw
     case rel => exact ⟨n + 1, by omega, by go_num, HO5, HB5⟩
     case measure => simp [intOf]; omega
   ·obtain rfl : n = l.length := by omega
    obtain ⟨a6, c6, hv6, hr6⟩ := rcds_owned HO.out
    rw [HRA.out] at hv6 hr6
    obtain ⟨w7, rfl⟩ : ∃ z : World, z = wr := ⟨wr, rfl⟩
    subst hv6
    have BB7 := hidE (BB6.out.trans (HB.out.mono BB6.out.size))
    have X7 := hidE (X6.out.next HB.out)
    have LA7 := hidE (LA6.out.below HB.out (Nat.le_refl _))
    have LB7 := hidE (LB6.out.below HB.out (Nat.le_refl _))
    have LR7 := hidE hr6
    have HC7 := hidE (HB6.out.trans (HB.out.mono HB6.out.size))
    obtain ⟨rn, hrn⟩ : ∃ m, (withoutId l id).length = m := ⟨_, rfl⟩
    rw [hrn] at HF2 HL2 HW2 HS3
    rw [hrn]
    clear hr6 hrn hltn hn HO HB BB6 X6 LA6 LB6 HRR6 HCI HRA HRS HRL HMR
    have k0 := rowc X7.out.2.2.1
    have k1 := rowc X7.out.2.1
    have k2 := rowc X7.out.1
    unfold FV.arr at k0
    have HC := hidE (HF2.out w7 BB7.out a6 c6 LR7.out)
    try unfold FV.val FV.arr at HC
    go_wp2_with fail
    refine HC.out.mono ?_
    rintro e w8 ⟨⟨v1, rfl, o1⟩, hb⟩
    have BB8 := hidE (BB7.out.trans (hb.mono BB7.out.size))
    have X8 := hidE (X7.out.next hb)
    have LA8 := hidE (LA7.out.below hb (Nat.le_refl _))
    have LB8 := hidE (LB7.out.below hb (Nat.le_refl _))
    have LR8 := hidE (LR7.out.below hb (Nat.le_refl _))
    have HC8 := hidE (HC7.out.trans (hb.mono HC7.out.size))
    obtain ⟨a7, c7, rfl, hi1⟩ := owns_intsAt o1
    have LC8 := hidE hi1
    simp only [HN1.out]
    clear hb k0 k1 k2 HC BB7 X7 LA7 LB7 LR7 HF2 o1 hi1
    have k0 := rowc X8.out.2.2.1
    have k1 := rowc X8.out.2.1
    have k2 := rowc X8.out.1
    unfold FV.arr at k0
    have HC := hidE (HL2.out w8 BB8.out a6 c6 LR8.out)
    try unfold FV.val FV.arr at HC
    go_wp2_with fail
    refine HC.out.mono ?_
    rintro e w9 ⟨⟨v1, rfl, o1⟩, hb⟩
    have BB9 := hidE (BB8.out.trans (hb.mono BB8.out.size))
    have X9 := hidE (X8.out.next hb)
    have LA9 := hidE (LA8.out.below hb (Nat.le_refl _))
    have LB9 := hidE (LB8.out.below hb (Nat.le_refl _))
    have LR9 := hidE (LR8.out.below hb (Nat.le_refl _))
    have LC9 := hidE (LC8.out.below hb (Nat.le_refl _))
    have HC9 := hidE (HC8.out.trans (hb.mono HC8.out.size))
    obtain ⟨a8, c8, rfl, hi1⟩ := owns_intsAt o1
    have LD9 := hidE hi1
    simp only [HN2.out]
    clear hb k0 k1 k2 HC BB8 X8 LA8 LB8 LR8 LC8 HL2 o1 hi1
    have k0 := rowc X9.out.2.2.1
    have k1 := rowc X9.out.2.1
    have k2 := rowc X9.out.1
    unfold FV.arr at k0
    have HC := hidE (HW2.out w9 BB9.out a6 c6 LR9.out)
    try unfold FV.val FV.arr at HC
    go_wp2_with fail
    refine HC.out.mono ?_
    rintro e w10 ⟨rfl, hb⟩
    have BB10 := hidE (BB9.out.trans (hb.mono BB9.out.size))
    have X10 := hidE (X9.out.next hb)
    have LA10 := hidE (LA9.out.below hb (Nat.le_refl _))
    have LB10 := hidE (LB9.out.below hb (Nat.le_refl _))
    have LR10 := hidE (LR9.out.below hb (Nat.le_refl _))
    have LC10 := hidE (LC9.out.below hb (Nat.le_refl _))
    have LD10 := hidE (LD9.out.below hb (Nat.le_refl _))
    have HC10 := hidE (HC9.out.trans (hb.mono HC9.out.size))
    clear hb k0 k1 k2 HC BB9 X9 LA9 LB9 LR9 LC9 LD9 HW2
    have hs3 := HS3.out
    have hl14 := HL14.out
    have wl : IntKind.i64.wrap ((l.length : Int) - 1) = (rn : Int) := (IntWalk.i64_in _ (by omega)).trans (by omega)
    have HE1 := hidE (same4_any w10 a7 c7 T1 a4 c4 T1 LC10.out LA10.out (by have := HNN.out; omega) (by have := HNN.out; omega))
    have HE2 := hidE (fun W (hb : Below w10.heap.size w10 W) => same4_any W a8 c8 T2 a5 c5 T2 (LD10.out.below hb (Nat.le_refl _)) (LB10.out.below hb (Nat.le_refl _)) (by have := HNN.out; omega) (by have := HNN.out; omega))
    rw [decide_eq_true (rfl : T1 = T1), HN1.out] at HE1
    rw [decide_eq_true (rfl : T2 = T2), HN2.out] at HE2
    clear hs3
    go_wp2_with fail
    refine HE1.out.mono ?_
    rintro e w11 ⟨rfl, hb11⟩
    have HE3 := hidE (HE2.out w11 hb11)
    have HC11 := hidE (HC10.out.trans (hb11.mono HC10.out.size))
    clear hb11 HE1 HE2
    go_wp2_with fail
    refine HE3.out.mono ?_
    rintro e w12 ⟨rfl, hb12⟩
    have HC12 := hidE (HC11.out.trans (hb12.mono HC11.out.size))
    clear hb12 HE3
    have HFW3 := HFW.out
    go_wp2_with fail
    go_roundw
    case rel => exact ⟨k + 1, by omega, by go_num, HC12⟩
    case measure => simp [intOf]; omega
end Go.Proofs.YtkhemfnlflbniaaGreatDoor
namespace Go.Proofs.YtkhemfnlflbniaaGreatDoor
open Go Go.ChangeShapes Go.WideShapes Go.ChangeAt Go.RowKit Go.Joins Go.Deep
theorem and2 {a b : Bool} (ha : a = true) (hb : b = true) : (a && b) = true := by rw [ha, hb]; rfl
section
variable {H : Type} {enc : TypeId × Value → H}
theorem trodAll_below {W W' : World} (hb : Below W.heap.size W W') : ∀ (ts : List TypeId) (vs : List Value) (ds : List (DataW H)) (ps : List MemPlace), (∀ t ∈ ts, ArgOk t) → DataW.TrodAll enc Tryz.prog W 0 (fun _ => true) true ts vs ds ps →
 (∀ x ∈ ps, x.block < W.heap.size) → DataW.TrodAll enc Tryz.prog W' 0 (fun b => decide (b < W.heap.size)) true ts vs ds ps
 | [], vs, ds, ps, _, h, _ => by
   obtain ⟨rfl, rfl, rfl⟩ := trodAll_nil h
   exact trodAll_mk0
 | t :: ts, vs, ds, ps, hT, h, hs => by
   obtain ⟨v, vs', d, ds', p, q, rfl, rfl, rfl, h1, h2⟩ := trodAll_cons h
   have ht := hT t (List.mem_cons_self ..)
   exact trodAll_cons_mk (Below.trod Tryz.laidOut ht.1 ht.2 h1 hb (fun x hx => hs x (List.mem_append_left _ hx))) (trodAll_below hb ts vs' ds' q (fun x hx => hT x (List.mem_cons_of_mem _ hx)) h2 (fun x hx => hs x (List.mem_append_right _ hx)))
theorem law_post {f : Func} {s : ChangeSpec} {W W' : World} {args : Array Value} {ds gs : List (DataW H)} {before : List MemPlace}
 (hW : DataW.Whole enc Tryz.prog f.params.toList s.vars false W args.toList ds gs before) (hb : Below W.heap.size W W') (hrt : f.resultTypes = #[4])
 (hts : ∀ t ∈ f.params.toList, ArgOk t) (hsv : s.vars = []) (hfn : s.fn H (ds ++ []) = { results := [.lit (.bool true)], args := ds }) :
 s.post enc Tryz.prog f false true false false W args (.bool true) W' := by
 have hW' := hW
 obtain ⟨p, q, hA, hV, rfl, hfz, hnd⟩ := hW
 have hV' := hV
 rw [hsv] at hV'
 obtain ⟨rfl, rfl⟩ := trodVars_none hV'
 have hlt : ∀ x ∈ p, x.block < W.heap.size := fun x hx => by
  have := hW'.lt x
  exact this (List.mem_append_left _ hx)
 refine ⟨ds, [], p ++ [], [], p, [], hW', ?_, ?_, ?_, hb.frame _, fun h => by cases h⟩
 ·rw [hfn, hrt]
  exact trodAll_cons_mk (shut_bool Tryz.underlying4 _) trodAll_mk0
 ·rw [hfn]
  exact trodAll_below hb _ _ _ _ hts hA hlt
 ·rw [hfn, hsv]
  rfl
end
theorem argOk46 : ArgOk 27 := ⟨by kernel_rfl, of_decide_eq_true (by kernel_rfl)⟩
section
variable {H : Type} {enc : TypeId × Value → H}
theorem sta_trod {W : World} {n : Nat} {cs : List Value} {y : DataW H × List MemPlace} (hl : cs.length = 2) (h : DataW.trod enc Tryz.prog W 0 (fun _ => true) true n 131 cs = some y) : ∃ s : Sta, cs = s.cells ∧ s.name.size ≤ 9223372036854775807 ∧ i64ok s.x := by
 have c9 : Tryz.prog.cellsOf 9 = 1 := by kernel_rfl
 have c3 : Tryz.prog.cellsOf 3 = 1 := by kernel_rfl
 match cs, hl with
 | [u0, u1], _ =>
   obtain ⟨ys, n2, _, _, _, hyl, hf⟩ := DataW.trod_struct Tryz.underlying131 h
   match ys, hyl with
   | [y0, y1], _ =>
     have f0 : DataW.trod enc Tryz.prog W 0 (fun _ => true) true n2 9 (([u0, u1].drop 0).take (Tryz.prog.cellsOf 9)) = some y0 := hf 0 _ rfl
     have f1 : DataW.trod enc Tryz.prog W 0 (fun _ => true) true n2 3 (([u0, u1].drop 1).take (Tryz.prog.cellsOf 3)) = some y1 := hf 1 _ rfl
     rw [c9] at f0
     rw [c3] at f1
     obtain ⟨k0, rfl, o0⟩ := str_cell (v := u0) (y := y0) f0
     obtain ⟨k1, rfl, o1⟩ := int_cell (v := u1) (y := y1) f1
     exact ⟨⟨k0, k1⟩, rfl, o0, o1⟩
theorem par_trod {W : World} {n : Nat} {cs : List Value} {y : DataW H × List MemPlace} (hl : cs.length = 4) (h : DataW.trod enc Tryz.prog W 0 (fun _ => true) true n 133 cs = some y) : ∃ s : Par, cs = s.cells ∧ s.name.size ≤ 9223372036854775807 ∧ i64ok s.south ∧ i64ok s.wst ∧ i64ok s.est := by
 have c9 : Tryz.prog.cellsOf 9 = 1 := by kernel_rfl
 have c3 : Tryz.prog.cellsOf 3 = 1 := by kernel_rfl
 match cs, hl with
 | [u0, u1, u2, u3], _ =>
   obtain ⟨ys, n2, _, _, _, hyl, hf⟩ := DataW.trod_struct Tryz.underlying133 h
   match ys, hyl with
   | [y0, y1, y2, y3], _ =>
     have f0 : DataW.trod enc Tryz.prog W 0 (fun _ => true) true n2 9 (([u0, u1, u2, u3].drop 0).take (Tryz.prog.cellsOf 9)) = some y0 := hf 0 _ rfl
     have f1 : DataW.trod enc Tryz.prog W 0 (fun _ => true) true n2 3 (([u0, u1, u2, u3].drop 1).take (Tryz.prog.cellsOf 3)) = some y1 := hf 1 _ rfl
     have f2 : DataW.trod enc Tryz.prog W 0 (fun _ => true) true n2 3 (([u0, u1, u2, u3].drop 2).take (Tryz.prog.cellsOf 3)) = some y2 := hf 2 _ rfl
     have f3 : DataW.trod enc Tryz.prog W 0 (fun _ => true) true n2 3 (([u0, u1, u2, u3].drop 3).take (Tryz.prog.cellsOf 3)) = some y3 := hf 3 _ rfl
     rw [c9] at f0
     rw [c3] at f1 f2 f3
     obtain ⟨k0, rfl, o0⟩ := str_cell (v := u0) (y := y0) f0
     obtain ⟨k1, rfl, o1⟩ := int_cell (v := u1) (y := y1) f1
     obtain ⟨k2, rfl, o2⟩ := int_cell (v := u2) (y := y2) f2
     obtain ⟨k3, rfl, o3⟩ := int_cell (v := u3) (y := y3) f3
     exact ⟨⟨k0, k1, k2, k3⟩, rfl, o0, o1, o2, o3⟩
theorem vrn_trod {W : World} {n : Nat} {cs : List Value} {y : DataW H × List MemPlace} (hl : cs.length = 2) (h : DataW.trod enc Tryz.prog W 0 (fun _ => true) true n 253 cs = some y) : ∃ s : Vrn, cs = s.cells ∧ i64ok s.year ∧ i64ok s.east := by
 have c3 : Tryz.prog.cellsOf 3 = 1 := by kernel_rfl
 match cs, hl with
 | [u0, u1], _ =>
   obtain ⟨ys, n2, _, _, _, hyl, hf⟩ := DataW.trod_struct Tryz.underlying253 h
   match ys, hyl with
   | [y0, y1], _ =>
     have f0 : DataW.trod enc Tryz.prog W 0 (fun _ => true) true n2 3 (([u0, u1].drop 0).take (Tryz.prog.cellsOf 3)) = some y0 := hf 0 _ rfl
     have f1 : DataW.trod enc Tryz.prog W 0 (fun _ => true) true n2 3 (([u0, u1].drop 1).take (Tryz.prog.cellsOf 3)) = some y1 := hf 1 _ rfl
     rw [c3] at f0 f1
     obtain ⟨k0, rfl, o0⟩ := int_cell (v := u0) (y := y0) f0
     obtain ⟨k1, rfl, o1⟩ := int_cell (v := u1) (y := y1) f1
     exact ⟨⟨k0, k1⟩, rfl, o0, o1⟩
set_option maxRecDepth 100000 in
theorem open_fld {b0 : Nat} {W : World} {v : Value} {d : DataW H} {p : List MemPlace} (hv : Value.okWide Tryz.prog W .any b0 27 v) (h : DataW.Trod enc Tryz.prog W 0 (fun _ => true) true 27 v d p) :
 ∃ (x : FV) (F : Fld), v = x.val F ∧ FldAt W x F := by
 obtain ⟨v0, v1, v2, v3, y0, y1, y2, y3, n, rfl, _, _, h0, h1, h2, h3⟩ := open_agg4 Tryz.underlying27 (by kernel_rfl) (by kernel_rfl) hv h
 obtain ⟨aS, cS, sts, e0, r0, l0, k0⟩ := recs_trod (k := 2) (f := Sta.cells) (by omega) Tryz.underlying22 (by kernel_rfl) (fun n cs y hl hh => sta_trod hl hh) h0
 obtain ⟨aL, cL, lms, e1, r1, l1, k1⟩ := recs_trod (k := 1) (f := strCells) (by omega) Tryz.underlying23 (by kernel_rfl) (fun n cs y hl hh => by
  match cs, hl with
  | [u], _ =>
    obtain ⟨s, rfl, hs⟩ := str_cell hh
    exact ⟨s, rfl, hs⟩) h1
 obtain ⟨aP, cP, prs, e2, r2, l2, k2⟩ := recs_trod (k := 4) (f := Par.cells) (by omega) Tryz.underlying24 (by kernel_rfl) (fun n cs y hl hh => par_trod hl hh) h2
 obtain ⟨aV, cV, vrs, e3, r3, l3, k3⟩ := recs_trod (k := 2) (f := Vrn.cells) (by omega) Tryz.underlying25 (by kernel_rfl) (fun n cs y hl hh => vrn_trod hl hh) h3
 simp only [List.cons.injEq, and_true] at e0 e1 e2 e3
 subst e0 e1 e2 e3
 refine ⟨⟨aS, cS, aL, cL, aP, cP, aV, cV⟩, ⟨sts, lms, prs, vrs⟩, rfl, r0, r1, r2, r3, l0, l1, l2, l3, ?_, fun s hs => (k0 s hs).2, fun s hs => (k2 s hs).2, k3⟩
 intro l hl s hs
 simp only [Fld.names, List.mem_cons, List.not_mem_nil, or_false] at hl
 rcases hl with rfl | rfl | rfl
 ·obtain ⟨t, ht, rfl⟩ := List.mem_map.1 hs
  exact (k0 t ht).1
 ·exact k1 s hs
 ·obtain ⟨t, ht, rfl⟩ := List.mem_map.1 hs
  exact (k2 t ht).1
end
end Go.Proofs.YtkhemfnlflbniaaGreatDoor
