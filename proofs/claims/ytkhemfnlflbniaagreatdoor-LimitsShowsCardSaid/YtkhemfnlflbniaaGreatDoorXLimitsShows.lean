/- What the law LimitsShows needs beyond the base: PlA, PureG, Wo, Wp, Wp2, Wx, Wy, Wz, PlK, PlL, PlQ, Y2, Lm2, Lm6, Lm10, PlU, E25, E35, E36, F2, Fr, Frf. No conditions beyond those stated. -/
import Derived.Test.YtkhemfnlflbniaaGreatDoorB02
import Derived.Test.YtkhemfnlflbniaaGreatDoorB01
import Derived.Test.YtkhemfnlflbniaaGreatDoorB03
import Derived.Test.YtkhemfnlflbniaaGreatDoorProg
import Derived.WalkKit
import Derived.Handy
import Derived.RangeFuncRecord
import Derived.Shelf.Abstract
import Derived.Deep.QuietTactic
import Derived.BigQuiet
import Derived.Laws.CopyOwn
import Derived.WalkSmall
import Derived.RangeFuncNested
import Derived.RangeFuncBound
import Derived.RangeFuncCalls
import Derived.RangeFuncLeaves
import Derived.Shelf.RegionOpen
import Derived.OwnWalkIn
import Derived.TacticsInMore
import Derived.LoopNIn
import Derived.LoopIn
import Derived.Maps.AppendAt
import Derived.Deep.Onto
import Derived.OrdersHeld
import Derived.Deep.LoopGhost
import Derived.Deep.WholeRow
import Derived.Deep.OwnRows
import Derived.StillTailTactics
import Derived.Great.Walk
import Derived.Great.BuildSlice
import Derived.Test.YtkhemfnlflbniaaGreatDoorB04
import Derived.WalkMore
import Derived.Deep.MidRow
import Derived.Deep.RegionHeld3
import Derived.Deep.DeepCutAuto
import Derived.Test.YtkhemfnlflbniaaGreatDoorB05
import Derived.Shelf.Small.Bits
import Derived.Shelf.Strconv.Itoa0
import Derived.Shelf.Sort.Plain
import Derived.Shelf.Slices.Turned
import Derived.Ground.Names2Prog
import Derived.Shelf.Slices.CompactI
import Derived.Shelf.Slices.SearchI
import Derived.Shelf.Slices.Cells
import Derived.Shelf.Slices.In.SortNone
import Derived.Lib.OwnBridge
import Derived.Lib.SliceRun
import Derived.WalkSpells
import Derived.Deep.RegionWith
import Derived.Lib.AppendZerosOnto
import Derived.Test.YtkhemfnlflbniaaGreatDoorB07
import Derived.Test.YtkhemfnlflbniaaGreatDoorB06
import Derived.Deep.CutBlock
import Derived.Test.YtkhemfnlflbniaaGreatDoorB09
import Derived.Test.YtkhemfnlflbniaaGreatDoorB08
import Derived.IntWalk
import Derived.Test.YtkhemfnlflbniaaGreatDoorB10
import Derived.Test.YtkhemfnlflbniaaGreatDoorB13
import Derived.Test.YtkhemfnlflbniaaGreatDoorB12
import Derived.Test.YtkhemfnlflbniaaGreatDoorB11
import Derived.Deep.Cut
import Derived.Laws.Rows
import Derived.Laws.Tables
import Derived.Laws.StructEq
import Derived.OrdersIn
import Derived.RangeFuncBox
import Derived.Test.YtkhemfnlflbniaaGreatDoorB14
import Derived.Test.YtkhemfnlflbniaaGreatDoorB15
import Derived.Test.YtkhemfnlflbniaaGreatDoorRows
import Derived.ProofKit
import Derived.OpenShut
import Derived.Carry
import Derived.Lib.SmallJoins
import Derived.Deep.Slices
import Derived.ChangeMaps5
namespace Go.Proofs.YtkhemfnlflbniaaGreatDoor
theorem Over.mono {bs cs l : List Bd} (h : Over bs l) (hs : ∀ x ∈ bs, x ∈ cs) : Over cs l := fun x hx => hs x (h x hx)
def tableP (N : Nat) (t : List Int) (bs : List Bd) : List (List Int) := (List.range N).map fun (a : Nat) => distP N t bs (a : Int)
theorem tableP_get (N : Nat) (t : List Int) (bs : List Bd) {a : Nat} (h : a < N) : (tableP N t bs).getD a [] = distP N t bs a := by
 simp [tableP, List.getD_eq_getElem?_getD, h]
theorem tableP_length (N : Nat) (t : List Int) (bs : List Bd) : (tableP N t bs).length = N := by simp [tableP]
def tget (T : List (List Int)) (a b : Nat) : Int := (T.getD a []).getD b 0
def someIn (T : List (List Int)) (out : List Int) (given : List Bool) (p : Nat) (s : Int × Int) (q : Nat) : Int × Int :=
 if given.getD q false = true then
  (if tget T p q < farI then max s.1 (out.getD q 0 - tget T p q) else s.1, if tget T q p < farI then min s.2 (out.getD q 0 + tget T q p) else s.2)
 else s
def someAt (N : Nat) (T : List (List Int)) (st : List Int × List Bool) (p : Nat) : List Int × List Bool :=
 if st.2.getD p false = true then st
 else (st.1.set p (min ((List.range N).foldl (someIn T st.1 st.2 p) (0, farI)).1 ((List.range N).foldl (someIn T st.1 st.2 p) (0, farI)).2), st.2.set p true)
def someStart (N : Nat) (T : List (List Int)) : List Int × List Bool := ((List.range N).map fun p => nV (tget T 0 p), (List.range N).map fun p => nB (tget T 0 p))
def someP (N : Nat) (T : List (List Int)) : List Int := ((List.range N).foldl (someAt N T) (someStart N T)).1
def Within (c : Int) (l : List Int) : Prop := ∀ i : Nat, -c ≤ l.getD i 0 ∧ l.getD i 0 ≤ c
def TabBd (N : Nat) (T : List (List Int)) : Prop := ∀ a b : Nat, a < N → b < N → -128000000 ≤ tget T a b ∧ tget T a b ≤ 1125899906842624 ∧ (tget T a b < 1125899906842624 → tget T a b ≤ 128000000)
theorem tabBd_of {N : Nat} {bs : List Bd} {h : List Int} (H : NetOk N bs h) : TabBd N (tableP N h bs) := by
 intro a b ha hb
 have e : tget (tableP N h bs) a b = (distP N h bs a).getD b 0 := by unfold tget; rw [tableP_get N h bs ha]
 rw [e]
 have h1 := H.row_bd ha hb
 refine ⟨h1.1, h1.2, fun h2 => ?_⟩
 have hn := H.n1
 rcases (H.row ha).2 b hb with ⟨_, q⟩ | ⟨q, _⟩
 ·have := isDist_bd H.valid H.noNeg (by omega) (by omega) q
  omega
 ·rw [q] at h2; unfold farI at h2; omega
theorem someIn_bd {N : Nat} {T : List (List Int)} {out : List Int} {given : List Bool} {c : Int} (hc : 0 ≤ c) (hT : TabBd N T) (ho : Within c out) {p : Nat} (hp : p < N) : ∀ k, k ≤ N →
 (0 ≤ ((List.range k).foldl (someIn T out given p) (0, farI)).1 ∧ ((List.range k).foldl (someIn T out given p) (0, farI)).1 ≤ c + 128000000) ∧
 (-(c + 128000000) ≤ ((List.range k).foldl (someIn T out given p) (0, farI)).2 ∧ ((List.range k).foldl (someIn T out given p) (0, farI)).2 ≤ 1125899906842624)
 | 0, _ => by simp [farI]; omega
 | k + 1, hk => by
   have ih := someIn_bd hc hT ho hp (given := given) k (by omega)
   rw [List.range_succ, List.foldl_append]
   simp only [List.foldl_cons, List.foldl_nil]
   obtain ⟨s, hs⟩ : ∃ s, (List.range k).foldl (someIn T out given p) (0, farI) = s := ⟨_, rfl⟩
   rw [hs] at ih ⊢
   have h1 := hT p k hp (by omega)
   have h2 := hT k p (by omega) hp
   have h3 := ho k
   unfold someIn farI
   split
   ·refine ⟨?_, ?_⟩
    ·dsimp only
     split
     ·have := h1.2.2 (by assumption); omega
     ·omega
    ·dsimp only
     split
     ·have := h2.2.2 (by assumption); omega
     ·omega
   ·exact ih
theorem within_set {c d : Int} {l : List Int} (h : Within c l) (hcd : c ≤ d) {v : Int} (h1 : -d ≤ v) (h2 : v ≤ d) (p : Nat) : Within d (l.set p v) := by
 intro i
 rw [getD_set]
 split
 ·exact ⟨h1, h2⟩
 ·have := h i; omega
theorem someAt_bd {N : Nat} {T : List (List Int)} {st : List Int × List Bool} {c : Int} (hc : 0 ≤ c) (hT : TabBd N T) (ho : Within c st.1) {p : Nat} (hp : p < N) : Within (c + 128000000) (someAt N T st p).1 := by
 unfold someAt
 split
 ·intro i; have := ho i; omega
 ·have := someIn_bd (given := st.2) hc hT ho hp N (Nat.le_refl _)
  refine within_set ho (by omega) ?_ ?_ p <;> omega
theorem someStart_bd {N : Nat} {T : List (List Int)} (hT : TabBd N T) (h0 : 0 < N) : Within 128000000 (someStart N T).1 := by
 intro i
 by_cases hi : i < N
 ·have e : (someStart N T).1.getD i 0 = nV (tget T 0 i) := by simp [someStart, List.getD_eq_getElem?_getD, hi]
  rw [e]
  have h := hT 0 i h0 hi
  unfold nV
  split <;> omega
 ·have e : (someStart N T).1.getD i 0 = 0 := by
   rw [List.getD_eq_getElem?_getD, List.getElem?_eq_none (by simp [someStart]; omega)]; rfl
  rw [e]; omega
theorem someFold_bd {N : Nat} {T : List (List Int)} (hT : TabBd N T) (h0 : 0 < N) : ∀ k, k ≤ N → Within (128000000 * (k + 1)) ((List.range k).foldl (someAt N T) (someStart N T)).1
 | 0, _ => by simpa using someStart_bd hT h0
 | k + 1, hk => by
   rw [List.range_succ, List.foldl_append]
   have := someAt_bd (p := k) (by omega) hT (someFold_bd hT h0 k (by omega)) (by omega)
   intro i
   have := this i
   simp only [List.foldl_cons, List.foldl_nil]
   omega
theorem someAt_len (N : Nat) (T : List (List Int)) (st : List Int × List Bool) (p : Nat) : (someAt N T st p).1.length = st.1.length ∧ (someAt N T st p).2.length = st.2.length := by
 unfold someAt; split <;> simp
theorem someFold_len (N : Nat) (T : List (List Int)) : ∀ k, ((List.range k).foldl (someAt N T) (someStart N T)).1.length = N ∧ ((List.range k).foldl (someAt N T) (someStart N T)).2.length = N
 | 0 => by simp [someStart]
 | k + 1 => by
   rw [List.range_succ, List.foldl_append]
   simp only [List.foldl_cons, List.foldl_nil]
   have h1 := someAt_len N T ((List.range k).foldl (someAt N T) (someStart N T)) k
   have h2 := someFold_len N T k
   omega
end Go.Proofs.YtkhemfnlflbniaaGreatDoor
namespace Go.Proofs.YtkhemfnlflbniaaGreatDoor
open Go Go.RowKit Go.Shelf
theorem map_range_succ {α : Type} (f : Nat → α) (k : Nat) : (List.range (k + 1)).map f = (List.range k).map f ++ [f k] := by rw [List.range_succ, List.map_append]; rfl
set_option maxRecDepth 100000 in
set_option maxHeartbeats 2000000 in
theorem table_any (w : World) (bn R : Nat) (a : Option Addr) (cap : Nat) (bs : List Bd) (t : List Int) (HO : NetOk R bs t) (hB : BoundsAt w a bs) (hn : w.heap[bn]? = some (.cells (netA R (.slice a bs.length cap) t) 265 (0,0))) :
 Calls Tryz.prog 246 #[.pointer (some ⟨bn, 0, none⟩)] w fun e w' => ∃ v, e = .returned v ∧ Below w.heap.size w w' ∧ w'.ownsRow w.heap.size 189 128 v R (flatR (tableP R t bs)) := by
 have dn : ∀ q, q < R → ∀ W, Below w.heap.size w W → Calls Tryz.prog 191 #[.pointer (some ⟨bn, 0, none⟩), .int .i64 (q : Int), .func (.func 152) #[] #[]] W fun e W' => e = .returned (.agg (rowA (distP R t bs q))) ∧ Below W.heap.size W W' :=
  fun q hq W hb => dist_net W bn R a cap bs t q HO hq (hB.below hb (Nat.le_refl _)) (blk_below hb (lt_of_block hn) hn)
 have hn1 := HO.n1
 have hrl : ∀ q, q < R → (distP R t bs q).length = 128 := fun q hq => (HO.row hq).1
 have e0 : w.cell? ⟨bn, 0, none⟩ = some (.int .i64 (R : Int)) := c_e hn rfl
 have hbn := lt_of_block hn
 have DN := hidE dn
 have HRL := hidE hrl
 clear dn hrl hB hn
 go_enter Tryz.func246, Tryz.ntmps246
 go_wp2_with fail
 go_loopw [3, 10] (fun v i wr => ∃ k : Nat, k ≤ R ∧ i = .int .i64 k ∧ Hid (wr.ownsRow w.heap.size 189 128 v k (flatR ((List.range k).map fun (q : Nat) => distP R t bs q))) ∧ Below w.heap.size w wr)
  (fun _ i _ => R - (intOf i).toNat)
 case atStart => exact ⟨0, Nat.zero_le _, rfl, hidE (World.ownsRow_nil _ _ _ _), by go_grown⟩
 case round =>
  obtain ⟨k, hk, rfl, hown, hb⟩ := hrel
  by_cases hlt : k < R
  ·have hcall := DN.out k hlt wr hb
   obtain ⟨r, hr⟩ : ∃ r, distP R t bs k = r := ⟨_, rfl⟩
   have hrl := HRL.out k hlt
   rw [hr] at hcall hrl
   have hbr : Hid (Tryz.prog.builtSlice 189 1 [(0, .agg (rowA r))] = some (rowA r)) := hidE (builtRow hrl)
   have HR := hidE hr
   have HC := hidE hcall
   have HL := hidE hrl
   clear hr hcall hrl
   go_wp2_with fail
   refine HC.out.mono ?_
   rintro e w1 ⟨rfl, hb1⟩
   have hv : ∀ g, u3.ownBlock = some g → g < wr.heap.size := fun g e => by
    rcases hown.out.2 with ⟨e1, _⟩ | ⟨g1, cp', cu, e1, _, hh, _⟩
    ·rw [e1] at e; simp [Value.ownBlock] at e
    ·rw [e1] at e
     simp only [Value.ownBlock, Option.some.injEq] at e
     subst e
     exact lt_of_block hh
   have own1 : w1.ownsRow w.heap.size 189 128 u3 k (flatR ((List.range k).map fun (q : Nat) => distP R t bs q)) := ownsRow_of_block hown.out (fun g e => hb1.block g (hv g e))
   obtain ⟨i0, hi, hz0, hz1, hz2⟩ := info_parts info94
   have hsz := Nat.le_trans hb.size hb1.size
   obtain ⟨v', wa, hrun, hown', hgrow, hnil, hblk⟩ := run_append_own_at (P := Tryz.prog) (w1.alloc (Obj.cells (rowA r) 189)) w.heap.size 185 185 189 i0 _ 128 1024 Tryz.underlying185 hi hz0 hz1 hz2 rfl (by decide) u3 _ _
    (own1.alloc _) ⟨w1.heap.size, 0, none⟩ 1 1 (intsV r) (by simp [intsV, HL.out]) (by
     intro j u hj
     rw [show ((⟨w1.heap.size, 0, none⟩ : Addr).add j) = ⟨w1.heap.size, 0 + j, none⟩ from by unfold Addr.add; split <;> simp_all]
     rw [cell_of_row _ _ _ _ _ _ (heap_alloc_new w1 _), Nat.zero_add]
     simpa [rowA] using hj) (by intro u hu; simp [intsV] at hu; obtain ⟨q, _, rfl⟩ := hu; rfl) (by unfold maxLen; omega) (by omega) (by simp; omega)
   have HRUN := hidE hrun
   have HOWN := hidE hown'
   have hb2 : Below w.heap.size w wa := ((hb.trans (hb1.mono hb.size)).alloc hsz _).grown hgrow (by simp; omega) (fun q e => by
    rcases own1.2 with ⟨e1, _⟩ | ⟨g1, cp', cu, e1, hge, hh, _⟩
    ·rw [e1] at e; simp [Value.ownBlock] at e
    ·rw [e1] at e
     simp only [Value.ownBlock, Option.some.injEq] at e
     omega)
   have HB2 := hidE hb2
   clear hrun hown' hgrow hnil hblk hb2 own1 hv hb1 hown hsz
   go_wp2_with (first
    | (refine Great.wpList_buildSliceTo rfl 185 189 1 _ rfl _ rfl _ rfl Tryz.underlying185 _ (by simp [Act.eval]; exact hbr.out) ?_)
    | (at_builtin; refine wpList_op_append rfl (s := .tmp 13) (x := .tmp 17) (t := 185) rfl rfl rfl HRUN.out ?_))
   go_roundw
   case rel => exact ⟨k + 1, by omega, by go_num, hidE (by rw [map_range_succ, flatR_append, flatR_one, HR.out]; exact HOWN.out), HB2.out⟩
   case measure => simp [intOf]; omega
  ·obtain rfl : k = R := by omega
   go_wp2_with fail
   go_ret
   exact ⟨_, rfl, hb, hown.out⟩
def IntsOut (l : List Int) (base : Nat) (e : Ending) (w' : World) : Prop := ∃ v, e = .returned v ∧ w'.ownsRow base 3 1 v l.length (intsV l)
theorem owns_of_block {w : World} {base b : Nat} {l : List Int} (hb : base ≤ b) (h : w.heap[b]? = some (.cells (rowA l) 3 (0,0))) (hl : l.length ≤ 100000) : w.ownsRow base 3 1 (.slice (some ⟨b, 0, none⟩) l.length l.length) l.length (intsV l) :=
 ⟨by simp [intsV], .inr ⟨b, l.length, rowA l, rfl, hb, h, Nat.le_refl _, by unfold maxLen; omega, by simp [rowA, intsV], by simp only [rowA, List.toList_toArray]; rw [Nat.mul_one, List.take_of_length_le (by simp [intsV])]⟩⟩
set_option maxRecDepth 100000 in
set_option maxHeartbeats 4000000 in
theorem some_any (w : World) (bn R : Nat) (a : Option Addr) (cap : Nat) (bs : List Bd) (t : List Int) (HO : NetOk R bs t) (hB : BoundsAt w a bs) (hn : w.heap[bn]? = some (.cells (netA R (.slice a bs.length cap) t) 265 (0,0))) :
 Calls Tryz.prog 251 #[.pointer (some ⟨bn, 0, none⟩)] w fun e w' => IntsOut (someP R (tableP R t bs)) w.heap.size e w' ∧ Below w.heap.size w w' := by
 have htab := table_any w bn R a cap bs t HO hB hn
 have hrl : ∀ r ∈ tableP R t bs, r.length = 128 := by
  intro r hr
  simp only [tableP, List.mem_map, List.mem_range] at hr
  obtain ⟨q, hq, rfl⟩ := hr
  exact (HO.row hq).1
 have htl := tableP_length R t bs
 have hbd := tabBd_of HO
 have hn0 := HO.n0
 have hn1 := HO.n1
 obtain ⟨T, hT⟩ : ∃ T, tableP R t bs = T := ⟨_, rfl⟩
 rw [hT] at htab hrl htl hbd ⊢
 have hbn := lt_of_block hn
 have HTAB := hidE htab
 have HRL := hidE hrl
 have HTL := hidE htl
 have HBD := hidE hbd
 have HN := hidE hn
 clear htab hrl htl hbd hn hT HO hB
 have hmk3 := fun W => run_make_row' (P := Tryz.prog) 52 3 (.int .i64 0) 8 Tryz.underlying52 Tryz.info3' rfl .i64 .i64 R (by omega) (by omega) W
 have hmk4 := fun W => run_make_row' (P := Tryz.prog) 184 4 (.bool false) 1 Tryz.underlying184 Tryz.info4' rfl .i64 .i64 R (by omega) (by omega) W
 go_enter Tryz.func251, Tryz.ntmps251
 go_wp2_with fail
 refine HTAB.out.mono ?_
 rintro e w1 ⟨v, rfl, hb1, hown⟩
 obtain ⟨R', rfl⟩ : ∃ R', R = R' + 1 := ⟨R - 1, by omega⟩
 obtain ⟨g, cp, rfl⟩ := ownsRow_succ hown
 obtain ⟨hra, hgl⟩ := rowsAt_of_owns hown HRL.out
 have hN1 := blk_below hb1 hbn HN.out
 have HRA := hidE hra
 have HB1 := hidE hb1
 have HN1 := hidE hN1
 have e0 : w1.cell? ⟨bn, 0, none⟩ = some (.int .i64 ((R' + 1 : Nat) : Int)) := c_e hN1 rfl
 have l1 := lt_of_block hN1
 clear hra hN1 hown
 obtain ⟨R, hR⟩ : ∃ R, R' + 1 = R := ⟨_, rfl⟩
 rw [hR] at e0 hmk3 hmk4 hn1 hn0 ⊢
 go_wp2_with fail
 go_cut [4, 5] (fun s4 s5 wx => ∃ bo bg : Nat, s4 = .slice (some ⟨bo, 0, none⟩) R R ∧ s5 = .slice (some ⟨bg, 0, none⟩) R R ∧ bo ≠ bg ∧ w1.heap.size ≤ bo ∧ w1.heap.size ≤ bg ∧ Hid (wx.heap[bo]? = some (.cells (rowA (List.replicate R 0)) 3 (0,0))) ∧ Hid (wx.heap[bg]? = some (.cells (boolA (List.replicate R false)) 4 (0,0))) ∧ Hid (Below w1.heap.size w1 wx))
 case first =>
  go_region_held3 (fun w' => w'.cell? ⟨bn, 0, none⟩ = some (.int .i64 (R : Int))) (go_keep) (fail)
  all_goals (go_wp2_with fail; go_meet)
  all_goals first
   | exact ⟨w1.heap.size, w1.heap.size + 1, rfl, rfl, by omega, by omega, by omega, hidE (by rw [← madeInts]; exact (Below.heap_alloc _ _ _ (by simp)).trans (heap_alloc_new _ _)), hidE (by rw [← madeBools]; exact heap_alloc_at _ _ _ (by simp)), hidE (((Below.refl _ _).alloc (Nat.le_refl _) _).alloc (by simp) _).drew⟩
   | exact ⟨w1.heap.size + 1, w1.heap.size, rfl, rfl, by omega, by omega, by omega, hidE (by rw [← madeInts]; exact heap_alloc_at _ _ _ (by simp)), hidE (by rw [← madeBools]; exact (Below.heap_alloc _ _ _ (by simp)).trans (heap_alloc_new _ _)), hidE (((Below.refl _ _).alloc (Nat.le_refl _) _).alloc (by simp) _).drew⟩
 case rest =>
  obtain ⟨bo, bg, rfl, rfl, hne, hbo, hbg, ho, hg, hbl⟩ := hcut
  obtain ⟨w2, rfl⟩ : ∃ x : World, x = wc := ⟨wc, rfl⟩
  have e2 : w2.cell? ⟨bn, 0, none⟩ = some (.int .i64 (R : Int)) := (hbl.out.cell (by exact l1)).trans e0
  have hra2 := hidE (HRA.out.below hbl.out hgl)
  have hb2 := hidE (HB1.out.trans (hbl.out.mono HB1.out.size))
  have htl : T.length = R := by have := HTL.out; omega
  have HTL2 := hidE htl
  have lo := lt_of_block ho.out
  have lg := lt_of_block hg.out
  clear htl hmk3 hmk4
  go_wp2_with fail
  go_loopw [34] (fun i wr => ∃ k : Nat, k ≤ R ∧ i = .int .i64 k ∧ Hid (wr.heap[bo]? = some (.cells (rowA ((List.range k).map (fun p => nV (tget T 0 p)) ++ List.replicate (R - k) 0)) 3 (0,0))) ∧ Hid (wr.heap[bg]? = some (.cells (boolA ((List.range k).map (fun p => nB (tget T 0 p)) ++ List.replicate (R - k) false)) 4 (0,0))) ∧ Hid (∀ b, b ≠ bo → b ≠ bg → b < w2.heap.size → wr.heap[b]? = w2.heap[b]?) ∧ Hid (Below w.heap.size w wr))
   (fun i _ => R - (intOf i).toNat)
  case atStart => exact ⟨0, Nat.zero_le _, rfl, by simpa using ho, by simpa using hg, hidE (fun _ _ _ _ => rfl), hb2⟩
  case round =>
   obtain ⟨k, hk, rfl, h1, h2, h3, h4⟩ := hrel
   by_cases hlt : k < R
   ·have cT : wr.cell? ⟨g, 0 * 128 + k, none⟩ = some (.int .i64 (tget T 0 k)) := (World.cell?_of_block (w := w2) (h3.out g (by omega) (by omega) (by have := hbl.out.size; omega))).trans (hra2.out 0 k (by have := HTL2.out; omega) (by omega))
    rw [Nat.zero_mul, Nat.zero_add] at cT
    obtain ⟨xo, hxo⟩ : ∃ xo, ((List.range k).map (fun p => nV (tget T 0 p)) ++ List.replicate (R - k) 0).getD k 0 = xo := ⟨_, rfl⟩
    obtain ⟨xg, hxg⟩ : ∃ xg, ((List.range k).map (fun p => nB (tget T 0 p)) ++ List.replicate (R - k) false).getD k false = xg := ⟨_, rfl⟩
    have co : wr.cell? ⟨bo, k, none⟩ = some (.int .i64 xo) := by rw [cell_of_row _ _ _ _ _ _ h1.out, rowA_get (by simp; omega), hxo]
    have fo : wr.frozen? ⟨bo, k, none⟩ = false := frozen_of_row _ _ _ _ _ h1.out
    have cg : wr.cell? ⟨bg, k, none⟩ = some (.bool xg) := by rw [cell_of_row _ _ _ _ _ _ h2.out, boolA_get (by simp; omega), hxg]
    have fg : wr.frozen? ⟨bg, k, none⟩ = false := frozen_of_row _ _ _ _ _ h2.out
    have hne' : ¬ bg = bo := fun e => hne e.symm
    obtain ⟨vT, hvT⟩ : ∃ vT, tget T 0 k = vT := ⟨_, rfl⟩
    rw [hvT] at cT
    have HVT := hidE hvT
    clear hvT hxo hxg
    go_wp2_with (go_at_call 190; refine (number_num _ _).mono ?_; rintro e w' ⟨rfl, rfl⟩)
    go_roundw
    case rel =>
     refine ⟨k + 1, by omega, by go_num, hidE ?_, hidE ?_, hidE ?_, hidE ((h4.out.setCell (by have := HB1.out.size; simp; omega) _).setCell (by have := HB1.out.size; simp; omega) _)⟩
     ·refine (heap_setCell_other _ _ _ _ hne).trans ((heap_setCell_same _ _ _ _ _ _ h1.out).trans ?_)
      rw [show numV vT = (fun p => nV (tget T 0 p)) k from by show numV vT = nV (tget T 0 k); rw [HVT.out]; rfl, rowA_set, fill_map _ _ hlt]
     ·refine (heap_setCell_same _ _ _ _ _ _ ((heap_setCell_other _ _ _ _ hne').trans h2.out)).trans ?_
      rw [show numB vT = (fun p => nB (tget T 0 p)) k from by show numB vT = nB (tget T 0 k); rw [HVT.out]; rfl, boolA_set, fill_map _ _ hlt]
     ·intro b b1 b2 b3
      exact (heap_setCell_other _ _ _ _ b2).trans ((heap_setCell_other _ _ _ _ b1).trans (h3.out b b1 b2 b3))
    case measure => simp [intOf]; omega
   ·obtain rfl : k = R := by omega
    obtain ⟨w3, rfl⟩ : ∃ x : World, x = wr := ⟨wr, rfl⟩
    have g1 : Hid (w3.heap[bo]? = some (.cells (rowA (((List.range 0).foldl (someAt k T) (someStart k T)).1)) 3 (0,0))) := by simpa [someStart] using h1
    have g2 : Hid (w3.heap[bg]? = some (.cells (boolA (((List.range 0).foldl (someAt k T) (someStart k T)).2)) 4 (0,0))) := by simpa [someStart] using h2
    have hbnne : bn ≠ bo ∧ bn ≠ bg := ⟨by omega, by omega⟩
    have e3 : w3.cell? ⟨bn, 0, none⟩ = some (.int .i64 (k : Int)) := (World.cell?_of_block (w := w2) (h3.out bn hbnne.1 hbnne.2 (by have := hbl.out.size; omega))).trans e2
    have HBD' : TabBd k T := by have := HBD.out; rwa [hR] at this
    clear h1 h2 e2
    go_wp2_with fail
    go_loopw [58] (fun i wr => ∃ p : Nat, p ≤ k ∧ i = .int .i64 p ∧ Hid (wr.heap[bo]? = some (.cells (rowA (((List.range p).foldl (someAt k T) (someStart k T)).1)) 3 (0,0))) ∧ Hid (wr.heap[bg]? = some (.cells (boolA (((List.range p).foldl (someAt k T) (someStart k T)).2)) 4 (0,0))) ∧ Hid (∀ b, b ≠ bo → b ≠ bg → b < w2.heap.size → wr.heap[b]? = w2.heap[b]?) ∧ Hid (Below w.heap.size w wr))
     (fun i _ => k - (intOf i).toNat)
    case atStart => exact ⟨0, Nat.zero_le _, rfl, g1, g2, h3, h4⟩
    case round =>
     obtain ⟨p, hp, rfl, q1, q2, q3, q4⟩ := hrel
     by_cases hlt : p < k
     ·obtain ⟨st, hst⟩ : ∃ st, (List.range p).foldl (someAt k T) (someStart k T) = st := ⟨_, rfl⟩
      have hlen := someFold_len k T p
      have hwi := someFold_bd HBD' (by omega) p hp
      rw [hst] at q1 q2 hlen hwi
      have hnext : (List.range (p + 1)).foldl (someAt k T) (someStart k T) = someAt k T st p := by rw [List.range_succ, List.foldl_append, hst]; rfl
      obtain ⟨out, given⟩ := st
      simp only at q1 q2 hlen hwi
      have co : ∀ q, q < k → wr.cell? ⟨bo, q, none⟩ = some (.int .i64 (out.getD q 0)) := fun q hq => by rw [cell_of_row _ _ _ _ _ _ q1.out, rowA_get (by omega)]
      have cg : ∀ q, q < k → wr.cell? ⟨bg, q, none⟩ = some (.bool (given.getD q false)) := fun q hq => by rw [cell_of_row _ _ _ _ _ _ q2.out, boolA_get (by omega)]
      have ct : ∀ a b, a < k → b < k → wr.cell? ⟨g, a * 128 + b, none⟩ = some (.int .i64 (tget T a b)) := fun a b ha hb => (World.cell?_of_block (w := w2) (q3.out g (by omega) (by omega) (by have := hbl.out.size; omega))).trans (hra2.out a b (by have := HTL2.out; omega) (by omega))
      have eb : wr.cell? ⟨bn, 0, none⟩ = some (.int .i64 (k : Int)) := (World.cell?_of_block (w := w2) (q3.out bn hbnne.1 hbnne.2 (by have := hbl.out.size; omega))).trans ((World.cell?_of_block (w := w2) (h3.out bn hbnne.1 hbnne.2 (by have := hbl.out.size; omega))).symm.trans e3)
      have CO := hidE co
      have CG := hidE cg
      have CT := hidE ct
      have HST := hidE hst
      have HNX := hidE hnext
      have HWI := hidE hwi
      have HLEN := hidE hlen
      have cgp := cg p hlt
      clear co cg ct hst hnext hwi hlen
      cases hgp : given.getD p false with
      | true =>
        rw [hgp] at cgp
        have hsame : someAt k T (out, given) p = (out, given) := by unfold someAt; rw [if_pos hgp]
        have HS := hidE hsame
        clear hgp hsame
        go_wp2_with fail
        go_roundw
        case rel => exact ⟨p + 1, by omega, by go_num, by rw [HNX.out, HS.out]; exact q1, by rw [HNX.out, HS.out]; exact q2, q3, q4⟩
        case measure => simp [intOf]; omega
      | false =>
        rw [hgp] at cgp
        have hsame : someAt k T (out, given) p = (out.set p (min ((List.range k).foldl (someIn T out given p) (0, farI)).1 ((List.range k).foldl (someIn T out given p) (0, farI)).2), given.set p true) := by unfold someAt; rw [if_neg (by rw [hgp]; simp)]
        have HS := hidE hsame
        clear hgp hsame
        go_wp2_with fail
        go_loop [8, 9, 70] (fun lo hi i => ∃ q : Nat, q ≤ k ∧ i = .int .i64 q ∧ lo = .int .i64 ((List.range q).foldl (someIn T out given p) (0, farI)).1 ∧ hi = .int .i64 ((List.range q).foldl (someIn T out given p) (0, farI)).2) (fun _ _ i => k - (intOf i).toNat)
        case atStart => exact ⟨0, Nat.zero_le _, rfl, rfl, rfl⟩
        case round =>
         obtain ⟨q, hq, rfl, rfl, rfl⟩ := hrel
         by_cases hql : q < k
         ·have hbd := someIn_bd (given := given) (by omega) HBD' HWI.out hlt q hq
          have hnx2 : (List.range (q + 1)).foldl (someIn T out given p) (0, farI) = someIn T out given p ((List.range q).foldl (someIn T out given p) (0, farI)) q := by rw [List.range_succ, List.foldl_append]; rfl
          obtain ⟨s, hs⟩ : ∃ s, (List.range q).foldl (someIn T out given p) (0, farI) = s := ⟨_, rfl⟩
          rw [hs] at hbd hnx2 ⊢
          obtain ⟨lo, hi⟩ := s
          simp only at hbd ⊢
          have HNX2 := hidE hnx2
          have cq := CG.out q hql
          clear hs hnx2
          cases hgq : given.getD q false with
          | false =>
            rw [hgq] at cq
            have hres : someIn T out given p (lo, hi) q = (lo, hi) := by unfold someIn; rw [if_neg (by rw [hgq]; simp)]
            have HRES := hidE hres
            clear hgq hres
            go_wp2_with fail
            go_round
            case rel => exact ⟨q + 1, by omega, by go_num, by rw [HNX2.out, HRES.out], by rw [HNX2.out, HRES.out]⟩
            case measure => simp [intOf]; omega
          | true =>
            rw [hgq] at cq
            have HGQ := hidE hgq
            have c1 := CT.out q p hql hlt
            have c2 := CT.out p q hlt hql
            have cx := CO.out q hql
            have b1 := HBD' q p hql hlt
            have b2 := HBD' p q hlt hql
            have bx := HWI.out q
            obtain ⟨v1, hv1⟩ : ∃ v, tget T q p = v := ⟨_, rfl⟩
            obtain ⟨v2, hv2⟩ : ∃ v, tget T p q = v := ⟨_, rfl⟩
            obtain ⟨x, hx⟩ : ∃ v, out.getD q 0 = v := ⟨_, rfl⟩
            rw [hv1] at c1 b1
            rw [hv2] at c2 b2
            rw [hx] at cx bx
            have HV1 := hidE hv1
            have HV2 := hidE hv2
            have HX := hidE hx
            obtain ⟨⟨d1, d2⟩, d3, d4⟩ := hbd
            obtain ⟨x1, x2⟩ := bx
            obtain ⟨y1, y2, y3⟩ := b1
            obtain ⟨z1, z2, z3⟩ := b2
            have k0 : (0 : Int) ≤ (p : Int) := by omega
            have k1 : (p : Int) ≤ 128 := by omega
            have xx1 : -20000000000 ≤ x := by omega
            have xx2 : x ≤ 20000000000 := by omega
            have dd2 : lo ≤ 20000000000 := by omega
            have dd3 : -20000000000 ≤ hi := by omega
            clear hgq hv1 hv2 hx x1 x2 d2 d3
            have F1 : (v1 < 1125899906842624 ∧ v1 ≤ 128000000) ∨ ¬ v1 < 1125899906842624 := by omega
            have F2 : (v2 < 1125899906842624 ∧ v2 ≤ 128000000) ∨ ¬ v2 < 1125899906842624 := by omega
            clear y3 z3
            rcases F1 with ⟨f1, f1'⟩ | f1 <;> rcases F2 with ⟨f2, f2'⟩ | f2
            ·have hb1 : numB v1 = true := by unfold numB; simp; omega
             have hb2 : numB v2 = true := by unfold numB; simp; omega
             have N1 := fun W => number_num v1 W
             have N2 := fun W => number_num v2 W
             simp only [hb1] at N1
             simp only [hb2] at N2
             have hv1 : numV v1 = v1 := by unfold numV; rw [if_neg (by omega)]
             simp only [hv1] at N1
             have hv2 : numV v2 = v2 := by unfold numV; rw [if_neg (by omega)]
             simp only [hv2] at N2
             have hres : someIn T out given p (lo, hi) q = (max lo (x - v2), min hi (x + v1)) := by
              unfold someIn
              rw [if_pos HGQ.out, HV1.out, HV2.out, if_pos (by unfold farI; omega), if_pos (by unfold farI; omega)]; (try rw [HX.out])
             have HRES := hidE hres
             have M1 := hidE N1
             have M2 := hidE N2
             clear hb1 hb2 hres N1 N2
             go_wp2_with (first
              | (go_at_call 190; (with_reducible refine (M1.out _).mono ?_); rintro e w' ⟨rfl, rfl⟩)
              | (go_at_call 190; (with_reducible refine (M2.out _).mono ?_); rintro e w' ⟨rfl, rfl⟩))
             go_round
             case rel => exact ⟨q + 1, by omega, by go_num, by (rw [HNX2.out, HRES.out]; try (refine congrArg (Value.int .i64) ?_; first | omega | (split <;> omega) | (simp only [*]; done))), by (rw [HNX2.out, HRES.out]; try (refine congrArg (Value.int .i64) ?_; first | omega | (split <;> omega) | (simp only [*]; done)))⟩
             case measure => simp [intOf]; omega
            ·have hb1 : numB v1 = true := by unfold numB; simp; omega
             have hb2 : numB v2 = false := by unfold numB; simp; omega
             have N1 := fun W => number_num v1 W
             have N2 := fun W => number_num v2 W
             simp only [hb1] at N1
             simp only [hb2] at N2
             have hv1 : numV v1 = v1 := by unfold numV; rw [if_neg (by omega)]
             simp only [hv1] at N1
             have hres : someIn T out given p (lo, hi) q = (lo, min hi (x + v1)) := by
              unfold someIn
              rw [if_pos HGQ.out, HV1.out, HV2.out, if_neg (by unfold farI; omega), if_pos (by unfold farI; omega)]; (try rw [HX.out])
             have HRES := hidE hres
             have M1 := hidE N1
             have M2 := hidE N2
             clear hb1 hb2 hres N1 N2
             go_wp2_with (first
              | (go_at_call 190; (with_reducible refine (M1.out _).mono ?_); rintro e w' ⟨rfl, rfl⟩)
              | (go_at_call 190; (with_reducible refine (M2.out _).mono ?_); rintro e w' ⟨rfl, rfl⟩))
             go_round
             case rel => exact ⟨q + 1, by omega, by go_num, by (rw [HNX2.out, HRES.out]; try (refine congrArg (Value.int .i64) ?_; first | omega | (split <;> omega) | (simp only [*]; done))), by (rw [HNX2.out, HRES.out]; try (refine congrArg (Value.int .i64) ?_; first | omega | (split <;> omega) | (simp only [*]; done)))⟩
             case measure => simp [intOf]; omega
            ·have hb1 : numB v1 = false := by unfold numB; simp; omega
             have hb2 : numB v2 = true := by unfold numB; simp; omega
             have N1 := fun W => number_num v1 W
             have N2 := fun W => number_num v2 W
             simp only [hb1] at N1
             simp only [hb2] at N2
             have hv2 : numV v2 = v2 := by unfold numV; rw [if_neg (by omega)]
             simp only [hv2] at N2
             have hres : someIn T out given p (lo, hi) q = (max lo (x - v2), hi) := by
              unfold someIn
              rw [if_pos HGQ.out, HV1.out, HV2.out, if_pos (by unfold farI; omega), if_neg (by unfold farI; omega)]; (try rw [HX.out])
             have HRES := hidE hres
             have M1 := hidE N1
             have M2 := hidE N2
             clear hb1 hb2 hres N1 N2
             go_wp2_with (first
              | (go_at_call 190; (with_reducible refine (M1.out _).mono ?_); rintro e w' ⟨rfl, rfl⟩)
              | (go_at_call 190; (with_reducible refine (M2.out _).mono ?_); rintro e w' ⟨rfl, rfl⟩))
             go_round
             case rel => exact ⟨q + 1, by omega, by go_num, by (rw [HNX2.out, HRES.out]; try (refine congrArg (Value.int .i64) ?_; first | omega | (split <;> omega) | (simp only [*]; done))), by (rw [HNX2.out, HRES.out]; try (refine congrArg (Value.int .i64) ?_; first | omega | (split <;> omega) | (simp only [*]; done)))⟩
             case measure => simp [intOf]; omega
            ·have hb1 : numB v1 = false := by unfold numB; simp; omega
             have hb2 : numB v2 = false := by unfold numB; simp; omega
             have N1 := fun W => number_num v1 W
             have N2 := fun W => number_num v2 W
             simp only [hb1] at N1
             simp only [hb2] at N2
             skip
             have hres : someIn T out given p (lo, hi) q = (lo, hi) := by
              unfold someIn
              rw [if_pos HGQ.out, HV1.out, HV2.out, if_neg (by unfold farI; omega), if_neg (by unfold farI; omega)]; (try rw [HX.out])
             have HRES := hidE hres
             have M1 := hidE N1
             have M2 := hidE N2
             clear hb1 hb2 hres N1 N2
             go_wp2_with (first
              | (go_at_call 190; (with_reducible refine (M1.out _).mono ?_); rintro e w' ⟨rfl, rfl⟩)
              | (go_at_call 190; (with_reducible refine (M2.out _).mono ?_); rintro e w' ⟨rfl, rfl⟩))
             go_round
             case rel => exact ⟨q + 1, by omega, by go_num, by (rw [HNX2.out, HRES.out]; try (refine congrArg (Value.int .i64) ?_; first | omega | (split <;> omega) | (simp only [*]; done))), by (rw [HNX2.out, HRES.out]; try (refine congrArg (Value.int .i64) ?_; first | omega | (split <;> omega) | (simp only [*]; done)))⟩
             case measure => simp [intOf]; omega
         ·obtain rfl : q = k := by omega
          have hbd := someIn_bd (given := given) (by omega) HBD' HWI.out hlt q hq
          obtain ⟨s, hs⟩ : ∃ s, (List.range q).foldl (someIn T out given p) (0, farI) = s := ⟨_, rfl⟩
          have hsame := HS.out
          rw [hs] at hbd hsame ⊢
          obtain ⟨lo, hi⟩ := s
          simp only at hbd hsame ⊢
          have HS2 := hidE hsame
          have co2 := CO.out p hlt
          have fo2 : wr.frozen? ⟨bo, p, none⟩ = false := frozen_of_row _ _ _ _ _ q1.out
          have fg2 : wr.frozen? ⟨bg, p, none⟩ = false := frozen_of_row _ _ _ _ _ q2.out
          have hne' : ¬ bg = bo := fun e => hne e.symm
          obtain ⟨vo, hvo⟩ : ∃ v, out.getD p 0 = v := ⟨_, rfl⟩
          rw [hvo] at co2
          have hmin : (if hi < lo then hi else lo) = min lo hi := by split <;> omega
          have HMIN := hidE hmin
          clear hs hsame HS hvo hmin
          go_wp2_with fail
          go_roundw
          case rel =>
           refine ⟨p + 1, by omega, by go_num, hidE ?_, hidE ?_, hidE ?_, hidE ((q4.out.setCell (by have := HB1.out.size; simp; omega) _).setCell (by have := HB1.out.size; simp; omega) _)⟩
           ·rw [HNX.out, HS2.out]
            refine (heap_setCell_other _ _ _ _ hne).trans ((heap_setCell_same _ _ _ _ _ _ q1.out).trans ?_)
            rw [rowA_set]
           ·rw [HNX.out, HS2.out]
            refine (heap_setCell_same _ _ _ _ _ _ ((heap_setCell_other _ _ _ _ hne').trans q2.out)).trans ?_
            rw [boolA_set]
           ·intro b b1 b2 b3
            exact (heap_setCell_other _ _ _ _ b2).trans ((heap_setCell_other _ _ _ _ b1).trans (q3.out b b1 b2 b3))
          case measure => simp [intOf]; omega
     ·obtain rfl : p = k := by omega
      go_wp2_with fail
      go_ret
      have hlen := (someFold_len p T p).1
      refine ⟨⟨_, rfl, ?_⟩, q4.out⟩
      have := owns_of_block (base := w.heap.size) (l := someP p T) (by have := HB1.out.size; omega) q1.out (by show (someP p T).length ≤ _; unfold someP; omega)
      rw [show (someP p T).length = p from hlen] at this
      rw [hR, show (someP p T).length = p from hlen]
      exact this
def valuesP (N : Nat) (bs : List Bd) : List Int := someP N (tableP N (heightsP N bs) bs)
set_option maxRecDepth 100000 in
set_option maxHeartbeats 400000 in
theorem grow_bounds (w : World) (n : Nat) (hn : n ≤ 200000) : Calls Tryz.prog 283 #[.slice none 0 0, .int .i64 (n : Int)] w fun e w' => ∃ v, e = .returned v ∧ w'.ownsRow w.heap.size 65 4 v 0 [] ∧ Below w.heap.size w w' := by
 by_cases h0 : n = 0
 ·subst h0
  have h1 : ¬ (((0 : Nat) : Int) < 0) := by omega
  go_enter Tryz.func283, Tryz.ntmps283
  go_wp2_with fail
  go_ret
  exact ⟨_, rfl, World.ownsRow_nil _ _ _ _, Below.refl _ _⟩
 ·obtain ⟨i0, hi, hz0, hz1, hz2⟩ := info_parts Tryz.info65
  have hrz : ∀ ty, ∃ G C, (Builtin.append_ #[59, 3] ty #[.slice none 0 0, .int .i64 (n : Int)]).run Tryz.prog w = .ok (.slice (some ⟨w.heap.size, 0, none⟩) n G) (w.drew.alloc (.cells C 65)) ∧ n ≤ G ∧ G ≤ maxLen ∧ C.size = G * 4 := by
   intro ty
   have h := Lib.run_append_grow_zeros w 59 3 ty 65 i0 _ .i64 .i64 Tryz.underlying59 Tryz.underlying3 hi hz0 none 0 0 [] (run_firstCells_none w.drew i0.size 0 0 0) n (by omega) (by omega) (by omega) (by omega) (by rw [hz2]; omega)
    (by rw [Nat.zero_add]; exact growslice_fits (by omega) (by rw [hz2]; omega))
   rw [Nat.zero_add] at h
   exact ⟨_, _, h, grownCap_ge _ _ _ _, grownCap_le_maxLen _ _ _ _ (by unfold maxLen; omega), by
    have := grownCap_ge w n 0 65
    simp only [Array.size_append, size_zeroCells, Value.cells]
    simp
    omega⟩
  obtain ⟨G, C, hrun, hG1, hG2, hCs⟩ := hrz 59
  have n0 : ¬ ((n : Int) < 0) := by omega
  have n1 : ((n : Int) > 0) := by omega
  have HRUN := hidE hrun
  have g63 : G ≤ 9223372036854775807 := by unfold maxLen at hG2; omega
  clear hrun hrz
  go_enter Tryz.func283, Tryz.ntmps283
  go_wp2_with (at_builtin; refine wpList_op_grow rfl (s := .tmp 20) (x := .tmp 21) (t := 59) (u := 3) rfl rfl rfl HRUN.out ?_)
  go_ret
  refine ⟨_, rfl, ⟨rfl, .inr ⟨w.heap.size, G, C, rfl, Nat.le_refl _, heap_alloc_new w.drew _, Nat.zero_le _, hG2, hCs, by simp⟩⟩, (Below.refl _ _).drew.alloc (Nat.le_refl _) _⟩
set_option maxRecDepth 100000 in
set_option maxHeartbeats 2000000 in
theorem concat_bounds (w : World) (b cb : Nat) (a0 : Option Addr) (c0 : Nat) (l0 : List Bd) (a1 : Option Addr) (c1 : Nat) (l1 : List Bd) (h0 : BoundsAt w a0 l0) (h1 : BoundsAt w a1 l1) (hl0 : l0.length ≤ 50000) (hl1 : l1.length ≤ 50000)
 (hc : w.heap[b]? = some (.cells #[.slice a0 l0.length c0, .slice a1 l1.length c1] 59 (0,0))) :
 Calls Tryz.prog 250 #[.slice (some ⟨b, 0, none⟩) 2 cb] w fun e w' => ∃ v, e = .returned v ∧ w'.ownsRow w.heap.size 65 4 v (l0 ++ l1).length (flat (l0 ++ l1)) ∧ Below w.heap.size w w' := by
 have d0 : w.cell? ⟨b, 0, none⟩ = some (.slice a0 l0.length c0) := c_e hc rfl
 have d1 : w.cell? ⟨b, 1, none⟩ = some (.slice a1 l1.length c1) := c_e hc rfl
 have hb := lt_of_block hc
 have H0 := hidE h0
 have H1 := hidE h1
 have HC := hidE hc
 clear h0 h1 hc
 go_enter Tryz.func250, Tryz.ntmps250
 go_wp2_with fail
 go_loop [3, 11] (fun n i => ∃ k : Nat, k ≤ 2 ∧ i = .int .i64 k ∧ n = .int .i64 ((if k = 0 then 0 else if k = 1 then l0.length else l0.length + l1.length : Nat) : Int)) (fun _ i => 2 - (intOf i).toNat)
 case atStart => exact ⟨0, by omega, rfl, rfl⟩
 case round =>
  obtain ⟨k, hk, rfl, rfl⟩ := hrel
  have hk3 : k = 0 ∨ k = 1 ∨ k = 2 := by omega
  rcases hk3 with rfl | rfl | rfl
  ·have n0 : ¬ ((0 : Int) + (l0.length : Int) < 0) := by omega
   have n0' : ¬ ((l0.length : Int) < 0) := by omega
   go_wp2_with fail
   go_round
   case rel => exact ⟨1, by omega, rfl, by simp⟩
   case measure => simp [intOf]
  ·have n0 : ¬ ((l0.length : Int) + (l1.length : Int) < 0) := by omega
   go_wp2_with fail
   go_round
   case rel => exact ⟨2, by omega, rfl, by simp⟩
   case measure => simp [intOf]
  ·have hg := grow_bounds w (l0.length + l1.length) (by omega)
   have HG := hidE hg
   clear hg
   go_wp2_with fail
   refine HG.out.mono ?_
   rintro e w1 ⟨v1, rfl, ho, hb1⟩
   have HO := hidE ho
   have HB := hidE hb1
   clear ho hb1
   go_wp2_with fail
   go_loopw [6, 27] (fun v i wr => ∃ k : Nat, k ≤ 2 ∧ i = .int .i64 k ∧ Hid (wr.ownsRow w.heap.size 65 4 v (if k = 0 then [] else if k = 1 then l0 else l0 ++ l1).length (flat (if k = 0 then [] else if k = 1 then l0 else l0 ++ l1))) ∧ Below w.heap.size w wr) (fun _ i _ => 2 - (intOf i).toNat)
   case atStart => exact ⟨0, by omega, rfl, HO, HB.out⟩
   case round =>
    obtain ⟨k, hk, rfl, hown, hbl⟩ := hrel
    have hk3 : k = 0 ∨ k = 1 ∨ k = 2 := by omega
    rcases hk3 with rfl | rfl | rfl
    ·have g0 : wr.cell? ⟨b, 0, none⟩ = some (.slice a0 l0.length c0) := (hbl.cell (by exact hb)).trans d0
     obtain ⟨v', wa, hrun, ho', hb'⟩ := append_bounds wr w.heap.size u6 [] (by simpa using hown.out) a0 c0 l0 (H0.out.below hbl (Nat.le_refl _)) (by simp) (by omega) hbl.size 59
     have HR := hidE hrun
     have HO' := hidE ho'
     have HB' := hidE (hbl.trans hb')
     clear hrun ho' hb'
     go_wp2_with (at_builtin; refine wpList_op_append rfl (s := .tmp 31) (x := .tmp 32) (t := 59) rfl rfl rfl HR.out ?_)
     go_roundw
     case rel => exact ⟨1, by omega, rfl, hidE (by simpa using HO'.out), HB'.out⟩
     case measure => simp [intOf]
    ·have g0 : wr.cell? ⟨b, 1, none⟩ = some (.slice a1 l1.length c1) := (hbl.cell (by exact hb)).trans d1
     obtain ⟨v', wa, hrun, ho', hb'⟩ := append_bounds wr w.heap.size u6 l0 (by simpa using hown.out) a1 c1 l1 (H1.out.below hbl (Nat.le_refl _)) (by omega) (by omega) hbl.size 59
     have HR := hidE hrun
     have HO' := hidE ho'
     have HB' := hidE (hbl.trans hb')
     clear hrun ho' hb'
     go_wp2_with (at_builtin; refine wpList_op_append rfl (s := .tmp 31) (x := .tmp 32) (t := 59) rfl rfl rfl HR.out ?_)
     go_roundw
     case rel => exact ⟨2, by omega, rfl, hidE (by simpa using HO'.out), HB'.out⟩
     case measure => simp [intOf]
    ·go_wp2_with fail
     go_ret
     exact ⟨_, rfl, by simpa using hown.out, hbl⟩
def throughX (bs : List Bd) (p v : Int) : List Bd := if p = 0 then bs else bs ++ [⟨0, p, v, 0⟩, ⟨p, 0, -v, 0⟩]
def throughE (N : Int) (bs : List Bd) (p v : Int) : List Int × Bool × Int :=
 if checkP N bs ≠ 0 then ([], false, checkP N bs) else if pointP N [p] ≠ 0 then ([], false, pointP N [p]) else if inR v (-1000000) 1000000 = false then ([], false, 1)
 else if p = 0 ∧ v ≠ 0 then ([], false, 0) else if (openedP N (throughX bs p v)).isSome = true then (valuesP N.toNat (throughX bs p v), true, 0) else ([], false, 0)
theorem through_net (W : World) (N : Int) (R : Nat) (o : Option Addr) (cap : Nat) (xs : List Bd) (hN : N = R) (n0 : 1 ≤ R) (n1 : R ≤ 128) (hl : xs.length ≤ 2002) (hv : AllValid R xs) (h : BoundsAt W o xs) :
 Calls Tryz.prog 222 #[.agg #[.int .i64 N, .slice o xs.length cap]] W fun e w' => Below W.heap.size W w' ∧
  match openedP N xs with
  | none => e = .returned (.tuple #[.pointer none, .bool false])
  | some _ => ∃ b, e = .returned (.tuple #[.pointer (some ⟨b, 0, none⟩), .bool true]) ∧ Calls Tryz.prog 251 #[.pointer (some ⟨b, 0, none⟩)] w' fun e w'' => IntsOut (valuesP R xs) w'.heap.size e w'' ∧ Below w'.heap.size w' w'' := by
 subst hN
 refine (opened_any W R o cap xs (by omega) (by omega) (by omega) h hv).mono fun e w' ⟨hp, hb⟩ => ⟨hb, ?_⟩
 cases ho : openedP R xs with
 | none => rw [ho] at hp; exact hp
 | some t =>
   rw [ho] at hp
   obtain ⟨b, he, hbb, hcell⟩ := hp
   have HO := netOk_of_opened n0 n1 hl hv ho
   have hs := some_any w' b R o cap xs t HO (h.below hb (Nat.le_refl _)) hcell
   refine ⟨b, he, ?_⟩
   have e1 : valuesP R xs = someP R (tableP R t xs) := by unfold valuesP; rw [heightsP_of ho]
   rw [e1]; exact hs
theorem throughX_valid {R : Nat} {bs : List Bd} {p v : Int} (h0 : 1 ≤ R) (hv : AllValid R bs) (p0 : 0 ≤ p) (p1 : p < R) (v0 : -1000000 ≤ v) (v1 : v ≤ 1000000) : AllValid R (throughX bs p v) := by
 unfold throughX
 split
 ·exact hv
 ·intro b hb
  rcases List.mem_append.1 hb with hb | hb
  ·exact hv b hb
  ·simp only [List.mem_cons, List.not_mem_nil, or_false] at hb
   rcases hb with rfl | rfl
   ·exact ⟨by show (0 : Int) ≤ 0; omega, by show (0 : Int) < R; omega, p0, p1, v0, v1⟩
   ·exact ⟨p0, p1, by show (0 : Int) ≤ 0; omega, by show (0 : Int) < R; omega, by show -1000000 ≤ -v; omega, by show -v ≤ 1000000; omega⟩
set_option maxRecDepth 100000 in
set_option maxHeartbeats 4000000 in
theorem through_any (w : World) (N : Int) (a : Option Addr) (cap : Nat) (bs : List Bd) (p v : Int) (hN : i64ok N) (hl : bs.length ≤ 9223372036854775807) (h : BoundsAt w a bs) :
 Calls Tryz.prog 202 #[.agg #[.int .i64 N, .slice a bs.length cap], .int .i64 p, .int .i64 v] w fun e w' => ThroughPost (throughE N bs p v).1 (throughE N bs p v).2.1 (throughE N bs p v).2.2 w.heap.size e w' ∧ Below w.heap.size w w' := by
 have H := hidE h
 have hB0 : Below w.heap.size w (w.alloc (.cells #[.int .i64 N, .slice a bs.length cap] 61)) := (Below.refl _ _).alloc (Nat.le_refl _) _
 have hck := check_any (w.alloc (.cells #[.int .i64 N, .slice a bs.length cap] 61)) N a cap bs hN hl (h.alloc _)
 clear h
 by_cases hc : checkP N bs = 0
 ·obtain ⟨n0, n1, n2, nv⟩ := checkP_zero hc
  rw [hc] at hck
  have HCK := hidE hck
  have NV := hidE nv
  have HC0 := hidE hc
  clear hck nv hc hN
  by_cases hp : pointP N [p] = 0
  ·have hpr := pointP_zero hp p (by simp)
   have HP := hidE hp
   clear hp
   by_cases hr : inR v (-1000000) 1000000 = true
   ·have hvr := inR_true.1 hr
    have HR := hidE hr
    clear hr
    by_cases hz : p = 0 ∧ v ≠ 0
    ·have hd : throughE N bs p v = ([], false, 0) := by unfold throughE; rw [if_neg (by rw [HC0.out]; simp), if_neg (by rw [HP.out]; simp), if_neg (by rw [HR.out]; simp), if_pos hz]
     have HD := hidE hd
     obtain ⟨rfl, hz2⟩ := hz
     have hz3 : (v != 0) = true := by simpa using hz2
     clear hd hz2
     go_enter Tryz.func202, Tryz.ntmps202
     go_wp2_with fail
     refine HCK.out.mono ?_
     rintro e w1 ⟨rfl, hb1⟩
     have hbx := blk_below hb1 (by simp) (heap_alloc_new w (.cells #[.int .i64 N, .slice a bs.length cap] 61))
     have c0 : w1.cell? ⟨w.heap.size, 0, none⟩ = some (.int .i64 N) := c_e hbx rfl
     have c1 : w1.cell? ⟨w.heap.size, 1, none⟩ = some (.slice a bs.length cap) := c_e hbx rfl
     have l1 := lt_of_block hbx
     have HB1 := hidE (hB0.trans (hb1.mono hB0.size))
     have HBX := hidE hbx
     clear hbx hb1
     go_wp2_with fail
     have hpt : Calls Tryz.prog 221 #[.agg #[.int .i64 N, .slice a bs.length cap], .slice (some ⟨w1.heap.size, 0, none⟩) 1 1] (w1.alloc (.cells #[.int .i64 0] 3)) _ := point_any _ N (.slice a bs.length cap) (some ⟨w1.heap.size, 0, none⟩) 1 [0] n0 n1 (by simp) (ints_one w1 0)
     rw [HP.out] at hpt
     refine hpt.mono ?_
     rintro e w2 ⟨rfl, hb2⟩
     have hbx2 := blk_below hb2 (by simp; omega) ((Below.heap_alloc w1 (.cells #[.int .i64 0] 3) _ l1).trans HBX.out)
     have e0 : w2.cell? ⟨w.heap.size, 0, none⟩ = some (.int .i64 N) := c_e hbx2 rfl
     have e1 : w2.cell? ⟨w.heap.size, 1, none⟩ = some (.slice a bs.length cap) := c_e hbx2 rfl
     have l2 := lt_of_block hbx2
     have HB2 := hidE ((HB1.out.alloc HB1.out.size (.cells #[.int .i64 0] 3)).trans (hb2.mono (by have := HB1.out.size; simp; omega)))
     have HBX2 := hidE hbx2
     clear hbx2 hb2 c0 c1 hpt
     go_wp2_with (go_at_call 232; refine (within_any _ _ _ _).mono ?_; rw [HR.out]; rintro e w' ⟨rfl, rfl⟩)
     go_ret3
     refine ⟨?_, HB2.out.alloc HB2.out.size _⟩
     rw [HD.out]
     exact ⟨_, rfl, World.ownsRow_nil _ _ _ _⟩
    ·by_cases hp0 : p = 0
     ·subst hp0
      have hv0 : v = 0 := by omega
      subst hv0
      obtain ⟨R, rfl⟩ := Int.eq_ofNat_of_zero_le (show 0 ≤ N by omega)
      have hx : throughX bs 0 0 = bs := by unfold throughX; rw [if_pos rfl]
      obtain ⟨q, hq⟩ : ∃ q, openedP R bs = q := ⟨_, rfl⟩
      have hd : throughE R bs 0 0 = if q.isSome = true then (valuesP R bs, true, 0) else ([], false, 0) := by unfold throughE; rw [if_neg (by rw [HC0.out]; simp), if_neg (by rw [HP.out]; simp), if_neg (by rw [HR.out]; simp), if_neg (by simp), hx, hq]; simp
      have HD := hidE hd
      have HQ := hidE hq
      have z1 : ((0 : Int) != 0) = false := by decide
      have z2 : ((0 : Int) == 0) = true := by decide
      clear hd hz hx hq
      go_enter Tryz.func202, Tryz.ntmps202
      go_wp2_with fail
      refine HCK.out.mono ?_
      rintro e w1 ⟨rfl, hb1⟩
      have hbx := blk_below hb1 (by simp) (heap_alloc_new w (.cells #[.int .i64 (R : Int), .slice a bs.length cap] 61))
      have c0 : w1.cell? ⟨w.heap.size, 0, none⟩ = some (.int .i64 (R : Int)) := c_e hbx rfl
      have c1 : w1.cell? ⟨w.heap.size, 1, none⟩ = some (.slice a bs.length cap) := c_e hbx rfl
      have l1 := lt_of_block hbx
      have HB1 := hidE (hB0.trans (hb1.mono hB0.size))
      have HBX := hidE hbx
      clear hbx hb1
      go_wp2_with fail
      have hpt : Calls Tryz.prog 221 #[.agg #[.int .i64 (R : Int), .slice a bs.length cap], .slice (some ⟨w1.heap.size, 0, none⟩) 1 1] (w1.alloc (.cells #[.int .i64 0] 3)) _ := point_any _ (R : Int) (.slice a bs.length cap) (some ⟨w1.heap.size, 0, none⟩) 1 [0] n0 n1 (by simp) (ints_one w1 0)
      rw [HP.out] at hpt
      refine hpt.mono ?_
      rintro e w2 ⟨rfl, hb2⟩
      have hbx2 := blk_below hb2 (by simp; omega) ((Below.heap_alloc w1 (.cells #[.int .i64 0] 3) _ l1).trans HBX.out)
      have e0 : w2.cell? ⟨w.heap.size, 0, none⟩ = some (.int .i64 (R : Int)) := c_e hbx2 rfl
      have e1 : w2.cell? ⟨w.heap.size, 1, none⟩ = some (.slice a bs.length cap) := c_e hbx2 rfl
      have l2 := lt_of_block hbx2
      have HB2 := hidE ((HB1.out.alloc HB1.out.size (.cells #[.int .i64 0] 3)).trans (hb2.mono (by have := HB1.out.size; simp; omega)))
      have HBX2 := hidE hbx2
      clear hbx2 hb2 c0 c1 hpt
      go_wp2_with (go_at_call 232; refine (within_any _ _ _ _).mono ?_; rw [HR.out]; rintro e w' ⟨rfl, rfl⟩)
      have B3 : Below w.heap.size w (w2.alloc (.cells #[.int .i64 (R : Int), .slice a bs.length cap] 61)) := HB2.out.alloc HB2.out.size _
      have htn := through_net (w2.alloc (.cells #[.int .i64 (R : Int), .slice a bs.length cap] 61)) R R a cap bs rfl (by omega) (by omega) (by omega) (fun b hb => (NV.out b hb).1) (H.out.below B3 (Nat.le_refl _))
      rw [HQ.out] at htn
      refine htn.mono ?_
      rintro e w3 ⟨hb3, hpost⟩
      have B4 := hidE (B3.trans (hb3.mono B3.size))
      clear htn B3 hb3
      cases q with
      | none =>
        simp only at hpost
        subst hpost
        go_wp2_with fail
        go_ret3
        refine ⟨?_, B4.out⟩
        rw [HD.out]
        exact ⟨_, rfl, World.ownsRow_nil _ _ _ _⟩
      | some t =>
        obtain ⟨b, rfl, hcall⟩ := hpost
        have HCL := hidE hcall
        clear hcall
        go_wp2_with fail
        refine HCL.out.mono ?_
        rintro e w4 ⟨⟨vv, rfl, ho⟩, hb4⟩
        have HO := hidE ho
        have HB5 := hidE hb4
        clear ho hb4
        go_wp2_with fail
        go_ret3
        refine ⟨?_, B4.out.trans (HB5.out.mono B4.out.size)⟩
        rw [HD.out]
        exact ⟨_, rfl, ownsRow_base HO.out B4.out.size⟩
     ·obtain ⟨R, rfl⟩ := Int.eq_ofNat_of_zero_le (show 0 ≤ N by omega)
      have hx : throughX bs p v = bs ++ [⟨0, p, v, 0⟩, ⟨p, 0, -v, 0⟩] := by unfold throughX; rw [if_neg hp0]
      have hxl : (bs ++ [(⟨0, p, v, 0⟩ : Bd), ⟨p, 0, -v, 0⟩]).length ≤ 2002 := by simp; omega
      have hxv := throughX_valid (R := R) (bs := bs) (by omega) (fun b hb => (NV.out b hb).1) hpr.1 hpr.2 hvr.1 hvr.2
      rw [hx] at hxv
      obtain ⟨xs, hxs⟩ : ∃ xs, bs ++ [(⟨0, p, v, 0⟩ : Bd), ⟨p, 0, -v, 0⟩] = xs := ⟨_, rfl⟩
      rw [hxs] at hx hxl hxv
      obtain ⟨q, hq⟩ : ∃ q, openedP R xs = q := ⟨_, rfl⟩
      have hd : throughE R bs p v = if q.isSome = true then (valuesP R xs, true, 0) else ([], false, 0) := by unfold throughE; rw [if_neg (by rw [HC0.out]; simp), if_neg (by rw [HP.out]; simp), if_neg (by rw [HR.out]; simp), if_neg hz, hx, hq]; simp
      have HD := hidE hd
      have HQ := hidE hq
      have HXV := hidE hxv
      have HXS := hidE hxs
      have z1 : (p == 0) = false := by simpa using hp0
      have z2 : (p != 0) = true := by simpa using hp0
      have v0 := hvr.1
      have v1 := hvr.2
      clear hd hz hx hq hxs hxv hp0
      go_enter Tryz.func202, Tryz.ntmps202
      go_wp2_with fail
      refine HCK.out.mono ?_
      rintro e w1 ⟨rfl, hb1⟩
      have hbx := blk_below hb1 (by simp) (heap_alloc_new w (.cells #[.int .i64 (R : Int), .slice a bs.length cap] 61))
      have c0 : w1.cell? ⟨w.heap.size, 0, none⟩ = some (.int .i64 (R : Int)) := c_e hbx rfl
      have c1 : w1.cell? ⟨w.heap.size, 1, none⟩ = some (.slice a bs.length cap) := c_e hbx rfl
      have l1 := lt_of_block hbx
      have HB1 := hidE (hB0.trans (hb1.mono hB0.size))
      have HBX := hidE hbx
      clear hbx hb1
      go_wp2_with fail
      have hpt : Calls Tryz.prog 221 #[.agg #[.int .i64 (R : Int), .slice a bs.length cap], .slice (some ⟨w1.heap.size, 0, none⟩) 1 1] (w1.alloc (.cells #[.int .i64 p] 3)) _ := point_any _ (R : Int) (.slice a bs.length cap) (some ⟨w1.heap.size, 0, none⟩) 1 [p] n0 n1 (by simp) (ints_one w1 p)
      rw [HP.out] at hpt
      refine hpt.mono ?_
      rintro e w2 ⟨rfl, hb2⟩
      have hbx2 := blk_below hb2 (by simp; omega) ((Below.heap_alloc w1 (.cells #[.int .i64 p] 3) _ l1).trans HBX.out)
      have e0 : w2.cell? ⟨w.heap.size, 0, none⟩ = some (.int .i64 (R : Int)) := c_e hbx2 rfl
      have e1 : w2.cell? ⟨w.heap.size, 1, none⟩ = some (.slice a bs.length cap) := c_e hbx2 rfl
      have l2 := lt_of_block hbx2
      have HB2 := hidE ((HB1.out.alloc HB1.out.size (.cells #[.int .i64 p] 3)).trans (hb2.mono (by have := HB1.out.size; simp; omega)))
      have HBX2 := hidE hbx2
      clear hbx2 hb2 c0 c1 hpt
      go_wp2_with (go_at_call 232; refine (within_any _ _ _ _).mono ?_; rw [HR.out]; rintro e w' ⟨rfl, rfl⟩)
      obtain ⟨W3, hW3⟩ : ∃ W3, ((w2.alloc (.cells #[.int .i64 (R : Int), .slice a bs.length cap] 61)).alloc (.cells #[.int .i64 0, .int .i64 p, .int .i64 v, .int .i64 0, .int .i64 p, .int .i64 0, .int .i64 (-v), .int .i64 0] 65)).alloc (.cells #[.slice a bs.length cap, .slice (some ⟨w2.heap.size + 1, 0, none⟩) 2 2] 59) = W3 := ⟨_, rfl⟩
      rw [hW3]
      have y0 : W3.heap[w2.heap.size]? = some (.cells #[.int .i64 (R : Int), .slice a bs.length cap] 61 (0,0)) := by rw [← hW3, Below.heap_alloc _ _ _ (by simp; omega), Below.heap_alloc _ _ _ (by simp), heap_alloc_new]
      have y1 : W3.heap[w2.heap.size + 1]? = some (.cells #[.int .i64 0, .int .i64 p, .int .i64 v, .int .i64 0, .int .i64 p, .int .i64 0, .int .i64 (-v), .int .i64 0] 65 (0,0)) := by rw [← hW3, Below.heap_alloc _ _ _ (by simp), heap_alloc_at _ _ _ (by simp)]
      have y2 : W3.heap[w2.heap.size + 1 + 1]? = some (.cells #[.slice a bs.length cap, .slice (some ⟨w2.heap.size + 1, 0, none⟩) 2 2] 59 (0,0)) := by rw [← hW3, heap_alloc_at _ _ _ (by simp)]
      have b3 : Below w.heap.size w W3 := by rw [← hW3]; exact ((HB2.out.alloc HB2.out.size _).alloc (by have := HB2.out.size; simp; omega) _).alloc (by have := HB2.out.size; simp; omega) _
      have z3 : W3.heap.size = w2.heap.size + 3 := by rw [← hW3]; simp
      have hb2x : BoundsAt W3 (some ⟨w2.heap.size + 1, 0, none⟩) [⟨0, p, v, 0⟩, ⟨p, 0, -v, 0⟩] := .inr ⟨_, _, rfl, by omega, fun i hi => by
       match i, hi with
       | 0, _ => exact ⟨by rw [cell_of_row _ _ _ _ _ _ y1]; rfl, by rw [cell_of_row _ _ _ _ _ _ y1]; rfl, by rw [cell_of_row _ _ _ _ _ _ y1]; rfl, by rw [cell_of_row _ _ _ _ _ _ y1]; rfl⟩
       | 1, _ => exact ⟨by rw [cell_of_row _ _ _ _ _ _ y1]; rfl, by rw [cell_of_row _ _ _ _ _ _ y1]; rfl, by rw [cell_of_row _ _ _ _ _ _ y1]; rfl, by rw [cell_of_row _ _ _ _ _ _ y1]; rfl⟩⟩
      have hcc := concat_bounds W3 (w2.heap.size + 1 + 1) 2 a cap bs (some ⟨w2.heap.size + 1, 0, none⟩) 2 [⟨0, p, v, 0⟩, ⟨p, 0, -v, 0⟩] (H.out.below b3 (Nat.le_refl _)) hb2x (by omega) (by simp) y2
      rw [HXS.out] at hcc
      refine hcc.mono ?_
      rintro e w4 ⟨v4, rfl, ho, hb4⟩
      have q0 := (hb4.block w2.heap.size (by omega)).trans y0
      have ho2 : BoundsOut xs W3.heap.size v4 (w4.setCell ⟨w2.heap.size, 1, none⟩ v4) := ownsRow_setCell_below ho (by show w2.heap.size < _; omega) v4
      obtain ⟨o, cp, rfl, hba, _⟩ := boundsAt_of_out ho2
      have p0 : w4.cell? ⟨w2.heap.size, 0, none⟩ = some (.int .i64 (R : Int)) := c_e q0 rfl
      have p1 : w4.cell? ⟨w2.heap.size, 1, none⟩ = some (.slice a bs.length cap) := c_e q0 rfl
      have p2 : w4.frozen? ⟨w2.heap.size, 1, none⟩ = false := frozen_of_row _ _ _ _ _ q0
      have B3 : Below w.heap.size w (w4.setCell ⟨w2.heap.size, 1, none⟩ (.slice o xs.length cp)) := (b3.trans (hb4.mono b3.size)).setCell (by exact HB2.out.size) _
      have htn := through_net (w4.setCell ⟨w2.heap.size, 1, none⟩ (.slice o xs.length cp)) R R o cp xs rfl (by omega) (by omega) hxl HXV.out hba
      rw [HQ.out] at htn
      have HTN := hidE htn
      have HB3 := hidE B3
      clear hcc hW3 y0 y1 y2 b3 z3 hb2x ho hb4 q0 ho2 hba B3 htn e0 e1
      go_wp2_with fail
      refine HTN.out.mono ?_
      rintro e w5 ⟨hb5, hpost⟩
      have B4 := hidE (HB3.out.trans (hb5.mono HB3.out.size))
      clear hb5
      cases q with
      | none =>
        simp only at hpost
        subst hpost
        go_wp2_with fail
        go_ret3
        refine ⟨?_, B4.out⟩
        rw [HD.out]
        exact ⟨_, rfl, World.ownsRow_nil _ _ _ _⟩
      | some t =>
        obtain ⟨b, rfl, hcall⟩ := hpost
        have HCL := hidE hcall
        clear hcall
        go_wp2_with fail
        refine HCL.out.mono ?_
        rintro e w6 ⟨⟨vv, rfl, ho⟩, hb6⟩
        have HO := hidE ho
        have HB5 := hidE hb6
        clear ho hb6
        go_wp2_with fail
        go_ret3
        refine ⟨?_, B4.out.trans (HB5.out.mono B4.out.size)⟩
        rw [HD.out]
        exact ⟨_, rfl, ownsRow_base HO.out B4.out.size⟩
   ·have hr' : inR v (-1000000) 1000000 = false := by simpa using hr
    have hd : throughE N bs p v = ([], false, 1) := by unfold throughE; rw [if_neg (by rw [HC0.out]; simp), if_neg (by rw [HP.out]; simp), if_pos hr']
    have HR := hidE hr'
    have HD := hidE hd
    clear hd hr' hr
    go_enter Tryz.func202, Tryz.ntmps202
    go_wp2_with fail
    refine HCK.out.mono ?_
    rintro e w1 ⟨rfl, hb1⟩
    have hbx := blk_below hb1 (by simp) (heap_alloc_new w (.cells #[.int .i64 N, .slice a bs.length cap] 61))
    have c0 : w1.cell? ⟨w.heap.size, 0, none⟩ = some (.int .i64 N) := c_e hbx rfl
    have c1 : w1.cell? ⟨w.heap.size, 1, none⟩ = some (.slice a bs.length cap) := c_e hbx rfl
    have l1 := lt_of_block hbx
    have HB1 := hidE (hB0.trans (hb1.mono hB0.size))
    have HBX := hidE hbx
    clear hbx hb1
    go_wp2_with fail
    have hpt : Calls Tryz.prog 221 #[.agg #[.int .i64 N, .slice a bs.length cap], .slice (some ⟨w1.heap.size, 0, none⟩) 1 1] (w1.alloc (.cells #[.int .i64 p] 3)) _ := point_any _ N (.slice a bs.length cap) (some ⟨w1.heap.size, 0, none⟩) 1 [p] n0 n1 (by simp) (ints_one w1 p)
    rw [HP.out] at hpt
    refine hpt.mono ?_
    rintro e w2 ⟨rfl, hb2⟩
    have hbx2 := blk_below hb2 (by simp; omega) ((Below.heap_alloc w1 (.cells #[.int .i64 p] 3) _ l1).trans HBX.out)
    have e0 : w2.cell? ⟨w.heap.size, 0, none⟩ = some (.int .i64 N) := c_e hbx2 rfl
    have e1 : w2.cell? ⟨w.heap.size, 1, none⟩ = some (.slice a bs.length cap) := c_e hbx2 rfl
    have l2 := lt_of_block hbx2
    have HB2 := hidE ((HB1.out.alloc HB1.out.size (.cells #[.int .i64 p] 3)).trans (hb2.mono (by have := HB1.out.size; simp; omega)))
    have HBX2 := hidE hbx2
    clear hbx2 hb2 c0 c1 hpt
    go_wp2_with (go_at_call 232; refine (within_any _ _ _ _).mono ?_; rw [HR.out]; rintro e w' ⟨rfl, rfl⟩)
    go_ret3
    refine ⟨?_, HB2.out⟩
    rw [HD.out]
    exact ⟨_, rfl, World.ownsRow_nil _ _ _ _⟩
  ·have hp1 : pointP N [p] = 1 := (pointP_bd N [p]).resolve_left hp
   have hd : throughE N bs p v = ([], false, 1) := by unfold throughE; rw [if_neg (by rw [HC0.out]; simp), if_pos hp, hp1]
   have HP := hidE hp1
   have HD := hidE hd
   clear hd hp1 hp
   go_enter Tryz.func202, Tryz.ntmps202
   go_wp2_with fail
   refine HCK.out.mono ?_
   rintro e w1 ⟨rfl, hb1⟩
   have hbx := blk_below hb1 (by simp) (heap_alloc_new w (.cells #[.int .i64 N, .slice a bs.length cap] 61))
   have c0 : w1.cell? ⟨w.heap.size, 0, none⟩ = some (.int .i64 N) := c_e hbx rfl
   have c1 : w1.cell? ⟨w.heap.size, 1, none⟩ = some (.slice a bs.length cap) := c_e hbx rfl
   have l1 := lt_of_block hbx
   have HB1 := hidE (hB0.trans (hb1.mono hB0.size))
   have HBX := hidE hbx
   clear hbx hb1
   go_wp2_with fail
   have hpt : Calls Tryz.prog 221 #[.agg #[.int .i64 N, .slice a bs.length cap], .slice (some ⟨w1.heap.size, 0, none⟩) 1 1] (w1.alloc (.cells #[.int .i64 p] 3)) _ := point_any _ N (.slice a bs.length cap) (some ⟨w1.heap.size, 0, none⟩) 1 [p] n0 n1 (by simp) (ints_one w1 p)
   rw [HP.out] at hpt
   refine hpt.mono ?_
   rintro e w2 ⟨rfl, hb2⟩
   have hbx2 := blk_below hb2 (by simp; omega) ((Below.heap_alloc w1 (.cells #[.int .i64 p] 3) _ l1).trans HBX.out)
   have e0 : w2.cell? ⟨w.heap.size, 0, none⟩ = some (.int .i64 N) := c_e hbx2 rfl
   have e1 : w2.cell? ⟨w.heap.size, 1, none⟩ = some (.slice a bs.length cap) := c_e hbx2 rfl
   have l2 := lt_of_block hbx2
   have HB2 := hidE ((HB1.out.alloc HB1.out.size (.cells #[.int .i64 p] 3)).trans (hb2.mono (by have := HB1.out.size; simp; omega)))
   have HBX2 := hidE hbx2
   clear hbx2 hb2 c0 c1 hpt
   go_wp2_with fail
   go_ret3
   refine ⟨?_, HB2.out⟩
   rw [HD.out]
   exact ⟨_, rfl, World.ownsRow_nil _ _ _ _⟩
 ·have hd : throughE N bs p v = ([], false, checkP N bs) := by unfold throughE; rw [if_pos hc]
  obtain ⟨c, hcc⟩ : ∃ c, checkP N bs = c := ⟨_, rfl⟩
  rw [hcc] at hd hc hck
  have hc1 : (c == 0) = false := by simpa using hc
  have hc2 : (c != 0) = true := by simpa using hc
  have HCK := hidE hck
  have HD := hidE hd
  clear hd hc hck hcc hN
  go_enter Tryz.func202, Tryz.ntmps202
  go_wp2_with fail
  refine HCK.out.mono ?_
  rintro e w1 ⟨rfl, hb1⟩
  go_wp2_with fail
  go_ret3
  refine ⟨?_, hB0.trans (hb1.mono hB0.size)⟩
  rw [HD.out]
  exact ⟨_, rfl, World.ownsRow_nil _ _ _ _⟩
end Go.Proofs.YtkhemfnlflbniaaGreatDoor
namespace Go.Proofs.YtkhemfnlflbniaaGreatDoor
def valuesL (N : Nat) (bs : List Bd) : List Int := someP N (tableP N (heightsP N bs) bs)
structure TabOk (N : Nat) (D : Int) (T : List (List Int)) : Prop where
 d0 : 0 ≤ D
 d1 : D ≤ 1000000000
 bd : ∀ p q, p < N → q < N → tget T p q < farI → -D ≤ tget T p q ∧ tget T p q ≤ D
 tri : ∀ p r q, p < N → r < N → q < N → tget T p r < farI → tget T r q < farI → tget T p q < farI ∧ tget T p q ≤ tget T p r + tget T r q
 le : ∀ p q, p < N → q < N → tget T p q ≤ farI
structure SInv (N : Nat) (T : List (List Int)) (c : Int) (st : List Int × List Bool) : Prop where
 l1 : st.1.length = N
 l2 : st.2.length = N
 tri : ∀ p q, p < N → q < N → st.2.getD p false = true → st.2.getD q false = true → tget T p q < farI → st.1.getD q 0 ≤ st.1.getD p 0 + tget T p q
 bd : ∀ i, i < N → -c ≤ st.1.getD i 0 ∧ st.1.getD i 0 ≤ c
theorem someIn_fold {N : Nat} {T : List (List Int)} {out : List Int} {given : List Bool} {p : Nat} : ∀ k, k ≤ N →
 let r := (List.range k).foldl (someIn T out given p) (0, farI)
 0 ≤ r.1 ∧ r.2 ≤ farI ∧ (∀ q, q < k → given.getD q false = true → tget T p q < farI → out.getD q 0 - tget T p q ≤ r.1) ∧ (∀ q, q < k → given.getD q false = true → tget T q p < farI → r.2 ≤ out.getD q 0 + tget T q p) ∧
 (r.1 = 0 ∨ ∃ q, q < k ∧ given.getD q false = true ∧ tget T p q < farI ∧ r.1 = out.getD q 0 - tget T p q) ∧ (r.2 = farI ∨ ∃ q, q < k ∧ given.getD q false = true ∧ tget T q p < farI ∧ r.2 = out.getD q 0 + tget T q p)
 | 0, _ => by
   simp only [List.range_zero, List.foldl_nil]
   exact ⟨by omega, by omega, fun q h => by omega, fun q h => by omega, .inl (by simp), .inl (by simp)⟩
 | k + 1, hk => by
   have ih := someIn_fold (N := N) (T := T) (out := out) (given := given) (p := p) k (by omega)
   simp only [List.range_succ, List.foldl_append, List.foldl_cons, List.foldl_nil] at ih ⊢
   obtain ⟨r, hr⟩ : ∃ r, (List.range k).foldl (someIn T out given p) (0, farI) = r := ⟨_, rfl⟩
   rw [hr] at ih ⊢
   obtain ⟨h1, h2, h3, h4, h5, h6⟩ := ih
   unfold someIn
   by_cases hg : given.getD k false = true
   ·rw [if_pos hg]
    simp only
    refine ⟨?_, ?_, fun q hq gq tq => ?_, fun q hq gq tq => ?_, ?_, ?_⟩
    ·split <;> omega
    ·split <;> omega
    ·by_cases e : q = k
     ·subst e; rw [if_pos tq]; omega
     ·have := h3 q (by omega) gq tq
      split <;> omega
    ·by_cases e : q = k
     ·subst e; rw [if_pos tq]; omega
     ·have := h4 q (by omega) gq tq
      split <;> omega
    ·split
     ·rename_i ht
      by_cases hm : r.1 ≤ out.getD k 0 - tget T p k
      ·exact .inr ⟨k, by omega, hg, ht, by omega⟩
      ·rcases h5 with e | ⟨q, q1, q2, q3, q4⟩
       ·left; omega
       ·exact .inr ⟨q, by omega, q2, q3, by omega⟩
     ·rcases h5 with e | ⟨q, q1, q2, q3, q4⟩
      ·exact .inl e
      ·exact .inr ⟨q, by omega, q2, q3, q4⟩
    ·split
     ·rename_i ht
      by_cases hm : out.getD k 0 + tget T k p ≤ r.2
      ·exact .inr ⟨k, by omega, hg, ht, by omega⟩
      ·rcases h6 with e | ⟨q, q1, q2, q3, q4⟩
       ·left; omega
       ·exact .inr ⟨q, by omega, q2, q3, by omega⟩
     ·rcases h6 with e | ⟨q, q1, q2, q3, q4⟩
      ·exact .inl e
      ·exact .inr ⟨q, by omega, q2, q3, q4⟩
   ·rw [if_neg hg]
    refine ⟨h1, h2, fun q hq gq tq => ?_, fun q hq gq tq => ?_, ?_, ?_⟩
    ·by_cases e : q = k
     ·subst e; exact absurd gq hg
     ·exact h3 q (by omega) gq tq
    ·by_cases e : q = k
     ·subst e; exact absurd gq hg
     ·exact h4 q (by omega) gq tq
    ·rcases h5 with e | ⟨q, q1, q2, q3, q4⟩
     ·exact .inl e
     ·exact .inr ⟨q, by omega, q2, q3, q4⟩
    ·rcases h6 with e | ⟨q, q1, q2, q3, q4⟩
     ·exact .inl e
     ·exact .inr ⟨q, by omega, q2, q3, q4⟩
theorem getB_set (l : List Bool) (p i : Nat) (b : Bool) : (l.set p b).getD i false = if i = p ∧ p < l.length then b else l.getD i false := getDB_set l p i b
theorem someAt_inv {N : Nat} {D c : Int} {T : List (List Int)} (H : TabOk N D T) {st : List Int × List Bool} (hc0 : 0 ≤ c) (hc : c ≤ 1000000000000) (I : SInv N T c st) {p : Nat} (hp : p < N) :
 SInv N T (c + D) (someAt N T st p) ∧ (someAt N T st p).2.getD p false = true ∧ ∀ i, i < N → st.2.getD i false = true → (someAt N T st p).2.getD i false = true ∧ (someAt N T st p).1.getD i 0 = st.1.getD i 0 := by
 have hd0 := H.d0
 have hd1 := H.d1
 unfold someAt
 by_cases hg : st.2.getD p false = true
 ·rw [if_pos hg]
  exact ⟨⟨I.l1, I.l2, I.tri, fun i hi => by have := I.bd i hi; omega⟩, hg, fun i _ h => ⟨h, rfl⟩⟩
 ·rw [if_neg hg]
  have F := someIn_fold (N := N) (T := T) (out := st.1) (given := st.2) (p := p) N (Nat.le_refl _)
  obtain ⟨r, hr⟩ : ∃ r, (List.range N).foldl (someIn T st.1 st.2 p) (0, farI) = r := ⟨_, rfl⟩
  simp only at F
  rw [hr] at F ⊢
  obtain ⟨h1, h2, h3, h4, h5, h6⟩ := F
  obtain ⟨v, hv⟩ : ∃ v, min r.1 r.2 = v := ⟨_, rfl⟩
  rw [hv]
  have vb : -(c + D) ≤ v ∧ v ≤ c + D := by
   have b1 : r.1 ≤ c + D ∧ 0 ≤ r.1 := by
    refine ⟨?_, h1⟩
    rcases h5 with e | ⟨q, q1, q2, q3, q4⟩
    ·omega
    ·have := H.bd p q hp q1 q3; have := I.bd q q1; omega
   have b2 : -(c + D) ≤ r.2 := by
    rcases h6 with e | ⟨q, q1, q2, q3, q4⟩
    ·rw [e]; unfold farI; omega
    ·have := H.bd q p q1 hp q3; have := I.bd q q1; omega
   omega
  have up : ∀ q, q < N → st.2.getD q false = true → tget T q p < farI → v ≤ st.1.getD q 0 + tget T q p := fun q hq gq tq => by have := h4 q hq gq tq; omega
  have dn : ∀ q, q < N → st.2.getD q false = true → tget T p q < farI → st.1.getD q 0 ≤ v + tget T p q := by
   intro q hq gq tq
   have e1 := h3 q hq gq tq
   have e2 : st.1.getD q 0 ≤ r.2 + tget T p q := by
    rcases h6 with e | ⟨s, s1, s2, s3, s4⟩
    ·have := H.bd p q hp hq tq; have := I.bd q hq
     rw [e]; unfold farI; omega
    ·obtain ⟨t1, t2⟩ := H.tri s p q s1 hp hq s3 tq
     have := I.tri s q s1 hq s2 gq t1
     omega
   omega
  refine ⟨⟨by rw [List.length_set]; exact I.l1, by rw [List.length_set]; exact I.l2, fun i j hi hj gi gj tij => ?_, fun i hi => ?_⟩, ?_, fun i hi gi => ?_⟩
  ·simp only at gi gj ⊢
   have gv : ∀ q, q < N → (st.1.set p v).getD q 0 = if q = p then v else st.1.getD q 0 := fun q hq => by
    rw [getD_set]
    by_cases e : q = p
    ·rw [if_pos ⟨e, by rw [I.l1]; exact hp⟩, if_pos e]
    ·rw [if_neg (fun x => e x.1), if_neg e]
   have gg : ∀ q, q < N → (st.2.set p true).getD q false = if q = p then true else st.2.getD q false := fun q hq => by
    rw [getB_set]
    by_cases e : q = p
    ·rw [if_pos ⟨e, by rw [I.l2]; exact hp⟩, if_pos e]
    ·rw [if_neg (fun x => e x.1), if_neg e]
   rw [gg i hi] at gi
   rw [gg j hj] at gj
   rw [gv i hi, gv j hj]
   by_cases ei : i = p
   ·rw [if_pos ei]
    rw [ei] at tij
    by_cases ej : j = p
    ·rw [if_pos ej]
     rw [ej] at tij
     have t0 := (H.tri p p p hp hp hp tij tij).2
     rw [ei, ej]
     omega
    ·rw [if_neg ej] at gj ⊢
     rw [ei]
     exact dn j hj gj tij
   ·rw [if_neg ei] at gi ⊢
    by_cases ej : j = p
    ·rw [if_pos ej]
     rw [ej] at tij ⊢
     exact up i hi gi tij
    ·rw [if_neg ej] at gj ⊢
     exact I.tri i j hi hj gi gj tij
  ·simp only
   rw [getD_set]
   split
   ·exact vb
   ·have := I.bd i hi; omega
  ·simp only
   rw [getB_set, if_pos ⟨rfl, by rw [I.l2]; exact hp⟩]
  ·simp only
   have : i ≠ p := fun e => hg (e ▸ gi)
   rw [getB_set, getD_set, if_neg (fun e => this e.1), if_neg (fun e => this e.1)]
   exact ⟨gi, rfl⟩
theorem someFold_inv {N : Nat} {D c : Int} {T : List (List Int)} (H : TabOk N D T) {s0 : List Int × List Bool} (hc0 : 0 ≤ c) (hc : c ≤ 1000000000) (hN : N ≤ 128) (I : SInv N T c s0) : ∀ k, k ≤ N →
 SInv N T (c + k * D) ((List.range k).foldl (someAt N T) s0) ∧ (∀ i, i < k → ((List.range k).foldl (someAt N T) s0).2.getD i false = true) ∧
 ∀ i, i < N → s0.2.getD i false = true → ((List.range k).foldl (someAt N T) s0).2.getD i false = true ∧ ((List.range k).foldl (someAt N T) s0).1.getD i 0 = s0.1.getD i 0
 | 0, _ => ⟨by simpa using I, fun i h => by omega, fun i _ h => ⟨h, rfl⟩⟩
 | k + 1, hk => by
   obtain ⟨h1, h2, h3⟩ := someFold_inv H hc0 hc hN I k (by omega)
   rw [List.range_succ, List.foldl_append]
   simp only [List.foldl_cons, List.foldl_nil]
   have hkd : (k : Int) * D ≤ 128 * 1000000000 ∧ 0 ≤ (k : Int) * D := by
    have a1 : (k : Int) * D ≤ 128 * D := Int.mul_le_mul_of_nonneg_right (by omega) H.d0
    have := H.d1
    have a2 : 0 ≤ (k : Int) * D := Int.mul_nonneg (by omega) H.d0
    omega
   obtain ⟨g1, g2, g3⟩ := someAt_inv H (by omega) (by omega) h1 (show k < N by omega)
   have e : c + (k : Int) * D + D = c + ((k + 1 : Nat) : Int) * D := by rw [Int.natCast_add, Int.add_mul]; omega
   rw [e] at g1
   refine ⟨g1, fun i hi => ?_, fun i hi gi => ?_⟩
   ·by_cases ei : i = k
    ·rw [ei]; exact g2
    ·exact (g3 i (by omega) (h2 i (by omega))).1
   ·obtain ⟨k1, k2⟩ := h3 i hi gi
    obtain ⟨k3, k4⟩ := g3 i hi k1
    exact ⟨k3, k4.trans k2⟩
theorem tabOk_of {N : Nat} {bs : List Bd} {t : List Int} (H : NetOk N bs t) : TabOk N ((N : Int) * 1000000) (tableP N t bs) := by
 have hn := H.n1
 have hrow : ∀ p q, p < N → q < N → (tget (tableP N t bs) p q < farI ∧ IsDist bs p q (tget (tableP N t bs) p q)) ∨ (tget (tableP N t bs) p q = farI ∧ NoWalk bs p q) := by
  intro p q hp hq
  unfold tget
  rw [tableP_get N t bs hp]
  exact (H.row hp).2 q hq
 refine ⟨by omega, by omega, fun p q hp hq h => ?_, fun p r q hp hr hq h1 h2 => ?_, fun p q hp hq => ?_⟩
 ·rcases hrow p q hp hq with ⟨_, k⟩ | ⟨k, _⟩
  ·exact isDist_bd H.valid H.noNeg (by omega) (by omega) k
  ·omega
 ·rcases hrow p r hp hr with ⟨_, ⟨u, u1, u2, u3⟩, _⟩ | ⟨k, _⟩
  ·rcases hrow r q hr hq with ⟨_, ⟨w, w1, w2, w3⟩, _⟩ | ⟨k, _⟩
   ·rcases hrow p q hp hq with ⟨k1, _, k3⟩ | ⟨_, k2⟩
    ·have := k3 (u ++ w) (u1.trans w1) (u2.append w2)
     rw [wsum_append] at this
     exact ⟨k1, by omega⟩
    ·exact absurd (u2.append w2) (k2 _ (u1.trans w1))
   ·omega
  ·omega
 ·rcases hrow p q hp hq with ⟨k, _⟩ | ⟨k, _⟩ <;> omega
theorem someStart_get {N : Nat} (T : List (List Int)) {i : Nat} (hi : i < N) : (someStart N T).1.getD i 0 = nV (tget T 0 i) ∧ (someStart N T).2.getD i false = nB (tget T 0 i) := by
 simp [someStart, List.getD_eq_getElem?_getD, hi]
theorem nB_true {v : Int} : nB v = true ↔ v < farI := by unfold nB farI; simp
theorem nV_near {v : Int} (h : v < farI) : nV v = v := by unfold nV; unfold farI at h; rw [if_neg (by omega)]
theorem someStart_inv {N : Nat} {D : Int} {T : List (List Int)} (H : TabOk N D T) (h0 : 0 < N) : SInv N T D (someStart N T) := by
 refine ⟨by simp [someStart], by simp [someStart], fun p q hp hq gp gq tpq => ?_, fun i hi => ?_⟩
 ·rw [(someStart_get T hp).2, nB_true] at gp
  rw [(someStart_get T hq).2, nB_true] at gq
  rw [(someStart_get T hp).1, (someStart_get T hq).1, nV_near gp, nV_near gq]
  exact (H.tri 0 p q h0 hp hq gp tpq).2
 ·rw [(someStart_get T hi).1]
  have := H.d0
  by_cases h : tget T 0 i < farI
  ·rw [nV_near h]; exact H.bd 0 i h0 hi h
  ·have := H.le 0 i h0 hi
   unfold nV; unfold farI at *; rw [if_pos (by omega)]; omega
theorem values_keep {N : Nat} {bs : List Bd} {t : List Int} (H : NetOk N bs t) (ht : openedP N bs = some t) :
 (valuesL N bs).length = N ∧ (∀ i, i < N → -(((N : Int) + 1) * ((N : Int) * 1000000)) ≤ (valuesL N bs).getD i 0 ∧ (valuesL N bs).getD i 0 ≤ ((N : Int) + 1) * ((N : Int) * 1000000)) ∧
 (∀ b ∈ bs, getI (valuesL N bs) b.dst - getI (valuesL N bs) b.src ≤ b.most) ∧ (∀ p, p < N → distN N bs 0 p < farI → (valuesL N bs).getD p 0 = distN N bs 0 p) := by
 have h0 : 0 < N := H.n0
 have hn := H.n1
 have TO := tabOk_of H
 have I := someStart_inv TO h0
 obtain ⟨h1, h2, h3⟩ := someFold_inv TO TO.d0 (by omega) hn I N (Nat.le_refl _)
 have hT : ∀ p q, p < N → tget (tableP N t bs) p q = distN N bs p q := by
  intro p q hp
  unfold tget distN
  rw [tableP_get N t bs hp, heightsP_of ht]
 have e : valuesL N bs = ((List.range N).foldl (someAt N (tableP N t bs)) (someStart N (tableP N t bs))).1 := by unfold valuesL someP; rw [heightsP_of ht]
 rw [e]
 refine ⟨h1.l1, fun i hi => ?_, fun b hb => ?_, fun p hp hd => ?_⟩
 ·have := h1.bd i hi
  have e2 : ((N : Int) + 1) * ((N : Int) * 1000000) = (N : Int) * 1000000 + (N : Int) * ((N : Int) * 1000000) := by rw [Int.add_mul]; omega
  rw [e2]; exact this
 ·obtain ⟨v1, v2, v3, v4, v5, v6⟩ := H.valid b hb
  have hs : b.src.toNat < N := by omega
  have hd : b.dst.toNat < N := by omega
  have hle : tget (tableP N t bs) b.src.toNat b.dst.toNat < farI ∧ tget (tableP N t bs) b.src.toNat b.dst.toNat ≤ b.most := by
   rw [hT _ _ hs]
   have hw : Walk (b.src.toNat : Int) (b.dst.toNat : Int) [b] := ⟨by omega, by show b.dst = _; omega⟩
   rcases dist_cases H ht hs hd with ⟨k1, _, k3⟩ | ⟨_, k2⟩
   ·have := k3 [b] hw (Over.one hb)
    simp only [wsum] at this
    exact ⟨k1, by omega⟩
   ·exact absurd (Over.one hb) (k2 [b] hw)
  have := h1.tri _ _ hs hd (h2 _ hs) (h2 _ hd) hle.1
  unfold getI
  omega
 ·have hg : (someStart N (tableP N t bs)).2.getD p false = true := by rw [(someStart_get _ hp).2, nB_true, hT 0 p h0]; exact hd
  rw [(h3 p hp hg).2, (someStart_get _ hp).1, hT 0 p h0, nV_near hd]
def tie (p : Nat) (v : Int) : List Bd := [⟨0, (p : Int), v, 0⟩, ⟨(p : Int), 0, -v, 0⟩]
def upTie (N : Nat) (t r s : List Int) (v : Int) : List Int := (List.range N).map fun x => min (min (r.getD x 0) (v + s.getD x 0)) (600000000000 + t.getD x 0)
theorem upTie_get {N : Nat} {t r s : List Int} {v : Int} {x : Nat} (hx : x < N) : (upTie N t r s v).getD x 0 = min (min (r.getD x 0) (v + s.getD x 0)) (600000000000 + t.getD x 0) := by
 simp [upTie, List.getD_eq_getElem?_getD, hx]
theorem row_step {N : Nat} {bs : List Bd} {r : List Int} {a : Nat} (hrow : DistRow N bs a r) {si di : Nat} {xm xr : Int} (hs : si < N) (hd : di < N) (hx : (⟨si, di, xm, xr⟩ : Bd) ∈ bs) : r.getD di 0 ≤ r.getD si 0 + xm ∨ r.getD si 0 = farI := by
 rcases hrow.2 si hs with ⟨h1, ⟨p, p1, p2, p3⟩, h3⟩ | ⟨h1, _⟩
 ·left
  have hw : Walk a di (p ++ [⟨si, di, xm, xr⟩]) := p1.trans ⟨rfl, rfl⟩
  have ho : Over bs (p ++ [⟨si, di, xm, xr⟩]) := p2.append (Over.one hx)
  rcases hrow.2 di hd with ⟨k1, _, k3⟩ | ⟨_, k2⟩
  ·have := k3 _ hw ho
   rw [wsum_append] at this
   simp only [wsum] at this
   omega
  ·exact absurd ho (k2 _ hw)
 ·exact .inr h1
theorem tie_pot {N : Nat} {bs : List Bd} {t : List Int} (H : NetOk N bs t) {p : Nat} (hp : p < N) {v : Int} (v1 : -1000000 ≤ v) (v2 : v ≤ 1000000)
 (h1 : v ≤ (distP N t bs 0).getD p 0) (h2 : 0 ≤ v + (distP N t bs p).getD 0 0) : Pot (upTie N t (distP N t bs 0) (distP N t bs p) v) (bs ++ tie p v) := by
 have h0 : 0 < N := H.n0
 have hr0 := H.row (a := 0) h0
 have hrp := H.row (a := p) hp
 have hb0 := fun x (hx : x < N) => H.row_bd (a := 0) h0 hx
 have hbp := fun x (hx : x < N) => H.row_bd (a := p) hp hx
 simp only [Int.natCast_zero] at hr0 hb0
 have self : ∀ (a : Nat) (r : List Int), a < N → DistRow N bs a r → r.getD a 0 ≤ 0 := by
  intro a r ha hr
  rcases hr.2 a ha with ⟨_, _, h3⟩ | ⟨_, h2⟩
  ·exact h3 [] rfl Over.nil
  ·exact absurd Over.nil (h2 [] rfl)
 have nonneg : ∀ (a : Nat) (r : List Int), a < N → DistRow N bs a r → 0 ≤ r.getD a 0 := by
  intro a r ha hr
  rcases hr.2 a ha with ⟨_, ⟨q, q1, q2, q3⟩, _⟩ | ⟨h1, _⟩
  ·have := H.noNeg _ q q1 q2; omega
  ·rw [h1]; unfold farI; omega
 have s0 := self 0 _ h0 hr0
 have sp := self p _ hp hrp
 have n0 := nonneg 0 _ h0 hr0
 have np := nonneg p _ hp hrp
 obtain ⟨r, hr⟩ : ∃ r, distP N t bs 0 = r := ⟨_, rfl⟩
 obtain ⟨s, hs⟩ : ∃ s, distP N t bs (p : Int) = s := ⟨_, rfl⟩
 rw [hr] at hr0 hb0 h1 s0 n0 ⊢
 rw [hs] at hrp hbp h2 sp np ⊢
 have hlow := H.low
 intro x hx
 rcases List.mem_append.1 hx with hx | hx
 ·obtain ⟨w1, w2, w3, w4, w5, w6⟩ := H.valid x hx
  have hpt := H.pot x hx
  obtain ⟨xs, xd, xm, xr⟩ := x
  simp only at w1 w2 w3 w4 w5 w6 hpt ⊢
  obtain ⟨si, rfl⟩ := Int.eq_ofNat_of_zero_le w1
  obtain ⟨di, rfl⟩ := Int.eq_ofNat_of_zero_le w3
  have hsi : si < N := by omega
  have hdi : di < N := by omega
  rw [← getD_eq_getI, ← getD_eq_getI] at hpt ⊢
  rw [upTie_get hsi, upTie_get hdi]
  have k1 := row_step hr0 hsi hdi hx
  have k2 := row_step hrp hsi hdi hx
  have l1 := hlow si
  have l2 := hlow di
  have b1 := hb0 di hdi
  have b2 := hbp di hdi
  unfold farI at k1 k2
  omega
 ·have l1 := hlow 0
  have l2 := hlow p
  have e0 : getI (upTie N t r s v) 0 = 0 := by
   have := getD_eq_getI (upTie N t r s v) 0
   simp only [Int.natCast_zero] at this
   rw [← this, upTie_get h0]; omega
  have ep : getI (upTie N t r s v) (p : Int) = v := by
   rw [← getD_eq_getI, upTie_get hp]; omega
  simp only [tie, List.mem_cons, List.not_mem_nil, or_false] at hx
  rcases hx with rfl | rfl
  ·simp only; rw [e0, ep]; omega
  ·simp only; rw [e0, ep]; omega
theorem tie_iff {N : Nat} {bs : List Bd} {t : List Int} (H : NetOk N bs t) (ht : openedP N bs = some t) {p : Nat} (hp : p < N) {v : Int} (v1 : -1000000 ≤ v) (v2 : v ≤ 1000000) :
 keptP N (bs ++ tie p v) = true ↔ v ≤ distN N bs 0 p ∧ 0 ≤ v + distN N bs p 0 := by
 have h0 : 0 < N := H.n0
 have hval : AllValid N (bs ++ tie p v) := by
  intro x hx
  rcases List.mem_append.1 hx with h | h
  ·exact H.valid x h
  ·simp only [tie, List.mem_cons, List.not_mem_nil, or_false] at h
   rcases h with rfl | rfl <;> refine ⟨?_, ?_, ?_, ?_, ?_, ?_⟩ <;> simp only <;> omega
 have e1 : distN N bs 0 p = (distP N t bs 0).getD p 0 := by unfold distN; rw [heightsP_of ht]; rfl
 have e2 : distN N bs p 0 = (distP N t bs p).getD 0 0 := by unfold distN; rw [heightsP_of ht]
 rw [keptP_iff H.n1 hval]
 constructor
 ·intro hn
  have m1 : (⟨0, (p : Int), v, 0⟩ : Bd) ∈ bs ++ tie p v := List.mem_append_right _ (by simp [tie])
  have m2 : (⟨(p : Int), 0, -v, 0⟩ : Bd) ∈ bs ++ tie p v := List.mem_append_right _ (by simp [tie])
  constructor
  ·rcases dist_cases H ht h0 hp with ⟨_, ⟨q, q1, q2, q3⟩, _⟩ | ⟨k, _⟩
   ·have := hn _ (q ++ [⟨(p : Int), 0, -v, 0⟩]) (q1.snoc ⟨(p : Int), 0, -v, 0⟩ rfl) ((q2.mono (fun x hx => List.mem_append_left _ hx)).append (Over.one m2))
    rw [wsum_append] at this
    simp only [wsum] at this
    omega
   ·rw [k]; unfold farI; omega
  ·rcases dist_cases H ht hp h0 with ⟨_, ⟨q, q1, q2, q3⟩, _⟩ | ⟨k, _⟩
   ·have := hn _ (q ++ [⟨0, (p : Int), v, 0⟩]) (q1.snoc ⟨0, (p : Int), v, 0⟩ rfl) ((q2.mono (fun x hx => List.mem_append_left _ hx)).append (Over.one m1))
    rw [wsum_append] at this
    simp only [wsum] at this
    omega
   ·rw [k]; unfold farI; omega
 ·rintro ⟨h1, h2⟩
  exact noNeg_of_pot (tie_pot H hp v1 v2 (by rw [← e1]; exact h1) (by rw [← e2]; exact h2))
theorem tie_dist {N : Nat} {bs : List Bd} {t : List Int} {p : Nat} {v : Int} (K : NetOk N (bs ++ tie p v) t) (ht : openedP N (bs ++ tie p v) = some t) (hp : p < N) : distN N (bs ++ tie p v) 0 p = v := by
 have h0 : 0 < N := K.n0
 have m1 : (⟨0, (p : Int), v, 0⟩ : Bd) ∈ bs ++ tie p v := List.mem_append_right _ (by simp [tie])
 have m2 : (⟨(p : Int), 0, -v, 0⟩ : Bd) ∈ bs ++ tie p v := List.mem_append_right _ (by simp [tie])
 have hw : Walk ((0 : Nat) : Int) (p : Int) [⟨0, (p : Int), v, 0⟩] := ⟨rfl, rfl⟩
 rcases dist_cases K ht h0 hp with ⟨_, ⟨q, q1, q2, q3⟩, k3⟩ | ⟨_, k2⟩
 ·have e1 := k3 [⟨0, (p : Int), v, 0⟩] hw (Over.one m1)
  have e2 := K.noNeg _ (q ++ [⟨(p : Int), 0, -v, 0⟩]) (q1.snoc ⟨(p : Int), 0, -v, 0⟩ rfl) (q2.append (Over.one m2))
  rw [wsum_append] at e2
  simp only [wsum] at e1 e2
  omega
 ·exact absurd (Over.one m1) (k2 _ hw)
def valuesB (N : Int) (y : List Int) : Bool := decide ((y.length : Int) = N) && (y.getD 0 0 == 0) && !(y.any fun v => !inR v (-400000000) 400000000)
def keptB (y : List Int) (b : Bd) : Bool := decide (b.most < getI y b.dst - getI y b.src)
def keptE (N : Int) (bs : List Bd) (y : List Int) : Int × Bool × Int :=
 if checkP N bs ≠ 0 then (0, false, checkP N bs) else if valuesB N y = false then (0, false, 1) else (max (idxOf (keptB y) bs) 0, decide (idxOf (keptB y) bs < 0), 0)
theorem valuesB_iff {N : Nat} {y : List Int} : valuesB N y = true ↔ y.length = N ∧ y.getD 0 0 = 0 ∧ ∀ v ∈ y, -400000000 ≤ v ∧ v ≤ 400000000 := by
 unfold valuesB
 simp only [Bool.and_eq_true, decide_eq_true_eq, beq_iff_eq, Bool.not_eq_true', List.any_eq_false, and_assoc]
 constructor
 ·rintro ⟨h1, h2, h3⟩; exact ⟨by omega, h2, fun v hv => inR_true.1 (by simpa using h3 v hv)⟩
 ·rintro ⟨h1, h2, h3⟩; exact ⟨by omega, h2, fun v hv => by simp [inR_true.2 (h3 v hv)]⟩
theorem kept_pot {bs : List Bd} {y : List Int} : idxOf (keptB y) bs < 0 ↔ Pot y bs := by
 rw [idxOf_neg]
 unfold Pot keptB
 simp only [List.any_eq_false, decide_eq_true_eq]
 constructor
 ·intro h b hb; have := h b hb; omega
 ·intro h b hb; have := h b hb; omega
theorem keptE_iff {N : Nat} {bs : List Bd} {y : List Int} (hc : checkP N bs = 0) : (keptE N bs y).2.1 = true ↔ Keeps N bs y := by
 unfold keptE
 rw [if_neg (by simp [hc])]
 split
 ·rename_i h
  constructor
  ·intro e; simp at e
  ·intro k; rw [valuesB_iff.2 ⟨k.len, k.zero, k.bd⟩] at h; simp at h
 ·rename_i h
  have h2 := valuesB_iff.1 (by simpa using h)
  simp only [decide_eq_true_eq]
  rw [kept_pot]
  exact ⟨fun p => ⟨h2.1, h2.2.1, h2.2.2, p⟩, fun k => k.pot⟩
theorem keptE_err {N : Nat} {bs : List Bd} {y : List Int} (hc : checkP N bs = 0) (h : (keptE N bs y).2.1 = true) : (keptE N bs y).2.2 = 0 ∧ (keptE N bs y).1 = 0 := by
 unfold keptE at h ⊢
 rw [if_neg (by simp [hc])] at h ⊢
 split at h
 ·simp at h
 ·rename_i h2
  rw [if_neg h2]
  simp only [decide_eq_true_eq] at h
  exact ⟨rfl, by simp only; omega⟩
end Go.Proofs.YtkhemfnlflbniaaGreatDoor
namespace Go.Proofs.YtkhemfnlflbniaaGreatDoor
open Go Go.RowKit Go.Shelf
theorem within_at {n a b : Int} {r : Bool} (h : inR n a b = r) (w : World) : Calls Tryz.prog 232 #[.int .i64 n, .int .i64 a, .int .i64 b] w fun e w' => e = .returned (.bool r) ∧ w = w' := by
 rw [← h]; exact within_any n a b w
theorem values1_any (w : World) (v : Int) : Calls Tryz.prog 282 #[.int .i64 v] w fun e w' => e = .returned (.bool (!inR v (-400000000) 400000000)) ∧ w = w' := by
 obtain ⟨r, hr⟩ : ∃ r, inR v (-400000000) 400000000 = r := ⟨_, rfl⟩
 rw [hr]
 have HR := hidE hr
 clear hr
 go_enter Tryz.func282, Tryz.ntmps282
 go_wp2_with (go_at_call 232; refine (within_at HR.out _).mono ?_; rintro e w' ⟨rfl, rfl⟩)
 go_ret
 exact ⟨rfl, rfl⟩
set_option maxHeartbeats 400000 in
theorem values_any (w : World) (N : Int) (sv : Value) (a : Option Addr) (cap : Nat) (y : List Int) (hN0 : 1 ≤ N) (hN1 : N ≤ 128) (hl : y.length ≤ 9223372036854775807) (h : IntsAt w a y) :
 Calls Tryz.prog 247 #[.agg #[.int .i64 N, sv], .slice a y.length cap] w fun e w' => e = .returned (.bool (valuesB N y)) ∧ Below w.heap.size w w' := by
 by_cases h1 : (y.length : Int) = N
 ·have h1b : ((y.length : Int) == N) = true := by simpa using h1
  have hlt : 0 < y.length := by omega
  obtain ⟨b, off, rfl, hbl, hc⟩ := h.at hlt
  have hg : y.getD 0 0 = y[0] := getD_get y 0 hlt
  obtain ⟨v, hv⟩ : ∃ v, y[0] = v := ⟨_, rfl⟩
  rw [hv] at hc hg
  rw [Nat.add_zero] at hc
  by_cases h2 : v = 0
  ·have h2b : (v == 0) = true := by simpa using h2
   have hq := containsFuncInts_any (w.alloc (.cells #[.int .i64 N, sv] 61)) (some ⟨b, off, none⟩) cap y 282 #[] (fun v => !inR v (-400000000) 400000000) hl (h.alloc _) (fun k hk W hb => (values1_any W y[k]).mono fun _ _ ⟨he, hw⟩ => ⟨he, hw ▸ Below.refl _ _⟩) (enters_of Tryz.func282 (by kernel_rfl) rfl)
   have hval : valuesB N y = !(y.any fun v => !inR v (-400000000) 400000000) := by unfold valuesB; rw [hg, h1]; simp [h2]
   obtain ⟨r, hr⟩ : ∃ r, (y.any fun v => !inR v (-400000000) 400000000) = r := ⟨_, rfl⟩
   rw [hr] at hq hval
   have HQ := hidE hq
   have HV := hidE hval
   clear hq hval hr hg hv h1 h2 h
   go_enter Tryz.func247, Tryz.ntmps247
   go_wp2_with fail
   refine HQ.out.mono ?_
   rintro e w1 ⟨rfl, hb1⟩
   go_wp2_with fail
   go_ret
   exact ⟨by rw [HV.out]; rfl, ((Below.refl _ _).alloc (Nat.le_refl _) _).trans (hb1.mono (by simp))⟩
  ·have h2b : (v == 0) = false := by simpa using h2
   have hval : valuesB N y = false := by unfold valuesB; rw [hg]; simp [h2]
   have HV := hidE hval
   clear hval hg hv h1 h2 h
   go_enter Tryz.func247, Tryz.ntmps247
   go_wp2_with fail
   go_ret
   exact ⟨by rw [HV.out]; rfl, by go_grown⟩
 ·have h1b : ((y.length : Int) == N) = false := by simpa using h1
  have hval : valuesB N y = false := by unfold valuesB; simp [h1]
  have HV := hidE hval
  clear hval h1 h
  go_enter Tryz.func247, Tryz.ntmps247
  go_wp2_with fail
  go_ret
  exact ⟨by rw [HV.out]; rfl, by go_grown⟩
set_option maxHeartbeats 400000 in
theorem kept1_any (w : World) (b : Bd) (N bl : Nat) (a : Option Addr) (cap : Nat) (y : List Int) (hb : b.valid N) (hN : y.length = N) (_hN1 : N ≤ 128) (hv : ∀ v ∈ y, -400000000 ≤ v ∧ v ≤ 400000000) (h : IntsAt w a y) (hc : w.cell? ⟨bl, 0, none⟩ = some (.slice a y.length cap)) (hbl : bl < w.heap.size) :
 Calls Tryz.prog 249 #[b.val, .pointer (some ⟨bl, 0, none⟩)] w fun e w' => e = .returned (.bool (keptB y b)) ∧ Below w.heap.size w w' := by
 obtain ⟨v1, v2, v3, v4, v5, v6⟩ := hb
 obtain ⟨ys, yd, ym, yr⟩ := b
 simp only at v1 v2 v3 v4 v5 v6
 obtain ⟨si, rfl⟩ := Int.eq_ofNat_of_zero_le v1
 obtain ⟨di, rfl⟩ := Int.eq_ofNat_of_zero_le v3
 have hs : si < y.length := by omega
 have hd : di < y.length := by omega
 obtain ⟨b, off, rfl, hbw, hcs⟩ := h.at hs
 obtain ⟨b', off', e', _, hcd⟩ := h.at hd
 cases e'
 have q1 := hv y[si] (List.getElem_mem _)
 have q2 := hv y[di] (List.getElem_mem _)
 have hkb : keptB y ⟨si, di, ym, yr⟩ = decide (ym < y[di] - y[si]) := by
  unfold keptB getI
  rw [decide_eq_decide]
  simp only [Int.toNat_natCast]
  rw [getD_get y 0 hs, getD_get y 0 hd]
 obtain ⟨x, hx⟩ : ∃ x, y[si] = x := ⟨_, rfl⟩
 obtain ⟨z, hz⟩ : ∃ z, y[di] = z := ⟨_, rfl⟩
 rw [hx, hz] at hkb
 rw [hx] at hcs q1
 rw [hz] at hcd q2
 have s0 : (si : Int) < y.length := by omega
 have d0 : (di : Int) < y.length := by omega
 have hw1 : IntKind.i64.wrap (z - x) = z - x := IntWalk.i64_in _ (by omega)
 have HK := hidE hkb
 have hbl1 : bl < w.heap.size + 1 := by omega
 clear hkb hx hz hN h hv hbw
 unfold Bd.val
 go_enter Tryz.func249, Tryz.ntmps249
 go_wp2_with fail
 go_quiet (fail)
 go_wp2_with fail
 go_ret
 exact ⟨by rw [HK.out]; rfl, ((Below.refl _ _).alloc (Nat.le_refl _) _).trans (below_drewN' _ _)⟩
set_option maxHeartbeats 1000000 in
theorem kept_any (w : World) (N : Int) (a : Option Addr) (cap : Nat) (bs : List Bd) (a2 : Option Addr) (cap2 : Nat) (y : List Int) (hN : i64ok N) (hl : bs.length ≤ 9223372036854775807) (hl2 : y.length ≤ 9223372036854775807) (h : BoundsAt w a bs) (h2 : IntsAt w a2 y) :
 Calls Tryz.prog 198 #[.agg #[.int .i64 N, .slice a bs.length cap], .slice a2 y.length cap2] w fun e w' => e = .returned (.tuple #[.int .i64 (keptE N bs y).1, .bool (keptE N bs y).2.1, .int .i64 (keptE N bs y).2.2]) ∧ Below w.heap.size w w' := by
 obtain ⟨W0, hW0⟩ : ∃ W0, W0 = (w.alloc (.cells #[.int .i64 N, .slice a bs.length cap] 61)).alloc (.cells #[.slice a2 y.length cap2] 52) := ⟨_, rfl⟩
 have b0 : Below w.heap.size w W0 := by rw [hW0]; exact ((Below.refl _ _).alloc (Nat.le_refl _) _).alloc (by simp) _
 have x0 : W0.heap[w.heap.size]? = some (.cells #[.int .i64 N, .slice a bs.length cap] 61 (0,0)) := by rw [hW0, Below.heap_alloc _ _ _ (by simp), heap_alloc_new]
 have x1 : W0.heap[w.heap.size + 1]? = some (.cells #[.slice a2 y.length cap2] 52 (0,0)) := by rw [hW0, heap_alloc_at _ _ _ (by simp)]
 have hck := check_any W0 N a cap bs hN hl (h.below b0 (Nat.le_refl _))
 by_cases hc : checkP N bs = 0
 ·obtain ⟨n0, n1, n2, nv⟩ := checkP_zero hc
  rw [hc] at hck
  have HCK := hidE hck
  have H := hidE h
  have H2 := hidE h2
  have X0 := hidE x0
  have X1 := hidE x1
  have B0 := hidE b0
  have HW := hidE hW0
  have HC := hidE hc
  have NV := hidE nv
  clear hck h h2 x0 x1 b0 hW0 hc nv hN
  go_enter Tryz.func198, Tryz.ntmps198
  go_upto_region 1 with fail
  rw [← HW.out]
  have e0 : W0.cell? ⟨w.heap.size, 0, none⟩ = some (.int .i64 N) := c_e X0.out rfl
  have e1 : W0.cell? ⟨w.heap.size, 1, none⟩ = some (.slice a bs.length cap) := c_e X0.out rfl
  go_wp2_with fail
  refine HCK.out.mono ?_
  rintro e w1 ⟨rfl, hb1⟩
  have y0 := blk_below hb1 (lt_of_block X0.out) X0.out
  have y1 := blk_below hb1 (lt_of_block X1.out) X1.out
  have B1 := B0.out.trans (hb1.mono B0.out.size)
  have hva := values_any w1 N (.slice a bs.length cap) a2 cap2 y n0 n1 hl2 (H2.out.below B1 (Nat.le_refl _))
  have Y0 := hidE y0
  have Y1 := hidE y1
  have HB1 := hidE B1
  have HVA := hidE hva
  have f0 : w1.cell? ⟨w.heap.size, 0, none⟩ = some (.int .i64 N) := c_e Y0.out rfl
  have f1 : w1.cell? ⟨w.heap.size, 1, none⟩ = some (.slice a bs.length cap) := c_e Y0.out rfl
  have f2 : w1.cell? ⟨w.heap.size + 1, 0, none⟩ = some (.slice a2 y.length cap2) := cell_of_one Y1.out
  clear y0 y1 B1 hb1 hva e0 e1
  go_wp2_with fail
  refine HVA.out.mono ?_
  rintro e w2 ⟨rfl, hb2⟩
  have z0 := blk_below hb2 (lt_of_block Y0.out) Y0.out
  have z1 := blk_below hb2 (lt_of_block Y1.out) Y1.out
  have B2 := HB1.out.trans (hb2.mono HB1.out.size)
  have Z0 := hidE z0
  have Z1 := hidE z1
  have HB2 := hidE B2
  clear z0 z1 B2 hb2 f0 f1 f2
  cases hvb : valuesB N y with
  | false =>
    have hk : keptE N bs y = (0, false, 1) := by unfold keptE; rw [if_neg (by simp [HC.out]), if_pos hvb]
    have HK := hidE hk
    clear hvb hk
    go_wp2_with fail
    go_ret3
    exact ⟨by rw [HK.out]; rfl, HB2.out⟩
  | true =>
    have hk : keptE N bs y = (max (idxOf (keptB y) bs) 0, decide (idxOf (keptB y) bs < 0), 0) := by unfold keptE; rw [if_neg (by simp [HC.out]), if_neg (by rw [hvb]; simp)]
    obtain ⟨R, rfl⟩ := Int.eq_ofNat_of_zero_le (show 0 ≤ N by omega)
    obtain ⟨q1, q2, q3⟩ := valuesB_iff.1 hvb
    have e0 : w2.cell? ⟨w.heap.size, 0, none⟩ = some (.int .i64 (R : Int)) := c_e Z0.out rfl
    have e1 : w2.cell? ⟨w.heap.size, 1, none⟩ = some (.slice a bs.length cap) := c_e Z0.out rfl
    have l1 := lt_of_block Z1.out
    have hidx := indexFuncBounds_any w2 a cap bs 249 #[.pointer (some ⟨w.heap.size + 1, 0, none⟩)] (· < w2.heap.size) (keptB y) hl (H.out.below HB2.out (Nat.le_refl _)) (fun b hb => hb)
     (fun k hk W hkp => kept1_any W bs[k] R (w.heap.size + 1) a2 cap2 y (NV.out _ (List.getElem_mem _)).1 q1 (by omega) q3 ((H2.out.below HB2.out (Nat.le_refl _)).kept (fun b hb => hkp.same b hb) hkp.size) ((hkp.cell (by show w.heap.size + 1 < _; exact l1)).trans (cell_of_one Z1.out)) (Nat.lt_of_lt_of_le l1 hkp.size))
     (enters_of Tryz.func249 (by kernel_rfl) rfl)
    obtain ⟨ix, hix⟩ : ∃ x, idxOf (keptB y) bs = x := ⟨_, rfl⟩
    rw [hix] at hidx hk
    have HI := hidE hidx
    have HK := hidE hk
    clear hvb hk hidx hix q1 q2 q3
    go_wp2_with fail
    refine HI.out.mono ?_
    rintro e w3 ⟨rfl, hb3⟩
    have HB3 := hidE (HB2.out.trans (hb3.mono HB2.out.size))
    clear hb3 e0 e1
    go_wp2_with fail
    go_ret3
    exact ⟨by rw [HK.out]; rfl, HB3.out⟩
 ·have hk : keptE N bs y = (0, false, checkP N bs) := by unfold keptE; rw [if_pos hc]
  obtain ⟨c, hcc⟩ : ∃ c, checkP N bs = c := ⟨_, rfl⟩
  rw [hcc] at hk hc hck
  have hc2 : (c != 0) = true := by simpa using hc
  have HCK := hidE hck
  have HK := hidE hk
  have X0 := hidE x0
  have B0 := hidE b0
  have HW := hidE hW0
  clear hck hk hc hcc h h2 hN x0 x1 b0 hW0
  go_enter Tryz.func198, Tryz.ntmps198
  go_upto_region 1 with fail
  rw [← HW.out]
  have e0 : W0.cell? ⟨w.heap.size, 0, none⟩ = some (.int .i64 N) := c_e X0.out rfl
  have e1 : W0.cell? ⟨w.heap.size, 1, none⟩ = some (.slice a bs.length cap) := c_e X0.out rfl
  go_wp2_with fail
  refine HCK.out.mono ?_
  rintro e w1 ⟨rfl, hb1⟩
  clear e0 e1
  go_wp2_with fail
  go_ret3
  exact ⟨by rw [HK.out]; rfl, B0.out.trans (hb1.mono B0.out.size)⟩
end Go.Proofs.YtkhemfnlflbniaaGreatDoor
namespace Go.Proofs.YtkhemfnlflbniaaGreatDoor
theorem Tied.n0 {N : Nat} {bs : List Bd} (T : Tied N bs) : 1 ≤ N := by obtain ⟨t, _, H⟩ := T.net; exact H.n0
theorem kept_eq {F : Fld} {l : List Rcd} (h : Good F l) (y : List Int) : ((keptE (ptN F) (sysL F l) y).2.1 && decide ((keptE (ptN F) (sysL F l) y).2.2 = 0)) = true ↔ Drw F l y := by
 rw [Bool.and_eq_true, decide_eq_true_eq]
 constructor
 ·intro k
  exact (keptE_iff (sys_check h)).1 k.1
 ·intro k
  have := (keptE_iff (sys_check h)).2 k
  exact ⟨this, (keptE_err (sys_check h) this).1⟩
theorem values_high {N : Nat} {bs : List Bd} (T : Tied N bs) : valuesL N bs = highV N bs := by
 obtain ⟨t, ht, H⟩ := T.net
 obtain ⟨h1, h2, h3, h4⟩ := values_keep H ht
 have e : (highV N bs).length = N := by simp [highV]
 apply List.ext_getElem (by rw [h1, e])
 intro i hi1 hi2
 have hi : i < N := by omega
 have a := h4 i hi (T.fin 0 i T.n0 hi)
 have b := highV_get (bs := bs) hi
 rw [List.getD_eq_getElem?_getD, List.getElem?_eq_getElem hi1] at a
 rw [List.getD_eq_getElem?_getD, List.getElem?_eq_getElem hi2] at b
 simp only [Option.getD_some] at a b
 rw [a, b]
theorem through_law {F : Fld} {l : List Rcd} (h : Good F l) (ha : agreeB F l = true) {p : Nat} (hp : p < ptN F) {v : Int} (v0 : 0 ≤ v) (v1 : v ≤ 100000) :
 (keptP (ptN F) (sysL F l ++ tie p v) = true ↔ lowE F l p ≤ v ∧ v ≤ highE F l p) ∧ (keptP (ptN F) (sysL F l ++ tie p v) = true → p ≠ 0 → Drw F l (valuesL (ptN F) (sysL F l ++ tie p v)) ∧ (valuesL (ptN F) (sysL F l ++ tie p v)).getD p 0 = v) := by
 have T := tied h ha
 obtain ⟨t, ht, H⟩ := T.net
 have h0 := H.n0
 have i := tie_iff H ht hp (v := v) (by omega) (by omega)
 refine ⟨?_, fun hk hp0 => ?_⟩
 ·rw [i]
  unfold lowE highE
  omega
 ·have hval : AllValid (ptN F) (sysL F l ++ tie p v) := by
   intro x hx
   rcases List.mem_append.1 hx with h | h
   ·exact H.valid x h
   ·simp only [tie, List.mem_cons, List.not_mem_nil, or_false] at h
    rcases h with rfl | rfl <;> refine ⟨?_, ?_, ?_, ?_, ?_, ?_⟩ <;> simp only <;> omega
  have hk2 := hk
  unfold keptP at hk2
  obtain ⟨u, hu⟩ := Option.isSome_iff_exists.1 hk2
  have hlen : (sysL F l ++ tie p v).length ≤ 2002 := by
   have := sys_len h
   rw [List.length_append]
   simp [tie]
   omega
  have K := netOk_of_opened H.n0 H.n1 hlen hval hu
  have sub : ∀ x ∈ sysL F l, x ∈ sysL F l ++ tie p v := fun x hx => List.mem_append_left _ hx
  have U : Tied (ptN F) (sysL F l ++ tie p v) := by
   refine ⟨⟨u, hu, K⟩, fun a b ha2 hb2 => ?_⟩
   rcases dist_cases K hu ha2 hb2 with ⟨q, _⟩ | ⟨_, q⟩
   ·exact q
   ·rcases dist_cases H ht ha2 hb2 with ⟨_, ⟨w, w1, w2, _⟩, _⟩ | ⟨q2, _⟩
    ·exact absurd (w2.mono sub) (q w w1)
    ·have := T.fin a b ha2 hb2; omega
  have kk := high_keeps K hu (fun p hp => U.fin 0 p h0 hp)
  rw [values_high U]
  refine ⟨⟨kk.len, kk.zero, kk.bd, fun b hb => kk.pot b (sub b hb)⟩, ?_⟩
  rw [highV_get hp]
  exact tie_dist K hu hp
def thruL (F : Fld) (l : List Rcd) (p : Nat) (v : Int) : List Int × Bool :=
 if inR v 0 100000 = false then ([], false) else if keptP (ptN F) (sysL F l ++ tie p v) = true then (valuesL (ptN F) (sysL F l ++ tie p v), true) else ([], false)
theorem sharp_thru {F : Fld} {l : List Rcd} (h : Good F l) (ha : agreeB F l = true) {p : Nat} (p1 : 1 ≤ p) (hp : p < ptN F) (v : Int) :
 (thruL F l p v).2 = (decide (lowE F l p ≤ v) && decide (v ≤ highE F l p)) ∧ ((thruL F l p v).2 = true → Drw F l (thruL F l p v).1 ∧ (thruL F l p v).1.getD p 0 = v) ∧ ((thruL F l p v).2 = false → (thruL F l p v).1 = []) := by
 have e := ends_bd h ha p1 hp
 unfold thruL
 by_cases k : inR v 0 100000 = false
 ·rw [if_pos k]
  refine ⟨?_, fun q => absurd q (by simp), fun _ => rfl⟩
  have : ¬ (0 ≤ v ∧ v ≤ 100000) := fun q => by rw [← inR_iff, k] at q; cases q
  symm
  rw [Bool.and_eq_false_iff, decide_eq_false_iff_not, decide_eq_false_iff_not]
  omega
 ·rw [if_neg k]
  have k2 : 0 ≤ v ∧ v ≤ 100000 := by
   rw [← inR_iff]
   cases q : inR v 0 100000 with
   | true => rfl
   | false => exact absurd q k
  have t := through_law h ha hp k2.1 k2.2
  by_cases m : keptP (ptN F) (sysL F l ++ tie p v) = true
  ·rw [if_pos m]
   have := t.1.1 m
   refine ⟨?_, fun _ => t.2 m (by omega), fun q => absurd q (by simp)⟩
   symm
   rw [Bool.and_eq_true, decide_eq_true_eq, decide_eq_true_eq]
   exact this
  ·rw [if_neg m]
   refine ⟨?_, fun q => absurd q (by simp), fun _ => rfl⟩
   symm
   rw [Bool.and_eq_false_iff, decide_eq_false_iff_not, decide_eq_false_iff_not]
   have : ¬ (lowE F l p ≤ v ∧ v ≤ highE F l p) := fun q => m (t.1.2 q)
   omega
theorem shows_law {F : Fld} {l : List Rcd} (h : Good F l) (ha : agreeB F l = true) {p : Nat} (p1 : 1 ≤ p) (hp : p < ptN F) {a b : Int} (_hab : a < b) :
 let c := cutP (lowE F l p) (highE F l p) a b; let one := (thruL F l p (lowE F l p)).1; let two := (thruL F l p (highE F l p)).1
 Drw F l one ∧ Drw F l two ∧ (thruL F l p (lowE F l p)).2 = true ∧ (thruL F l p (highE F l p)).2 = true ∧
 (cutP (one.getD p 0) (one.getD p 0) a b).1 = c.1 ∧ (cutP (one.getD p 0) (one.getD p 0) a b).2.2 = c.2.1 + c.2.2 ∧ (cutP (two.getD p 0) (two.getD p 0) a b).1 = c.1 + c.2.1 ∧ (cutP (two.getD p 0) (two.getD p 0) a b).2.2 = c.2.2 := by
 have e := ends_bd h ha p1 hp
 have s1 := sharp_thru h ha p1 hp (lowE F l p)
 have s2 := sharp_thru h ha p1 hp (highE F l p)
 have t1 : (thruL F l p (lowE F l p)).2 = true := by rw [s1.1, Bool.and_eq_true, decide_eq_true_eq, decide_eq_true_eq]; omega
 have t2 : (thruL F l p (highE F l p)).2 = true := by rw [s2.1, Bool.and_eq_true, decide_eq_true_eq, decide_eq_true_eq]; omega
 have d1 := s1.2.1 t1
 have d2 := s2.2.1 t2
 refine ⟨d1.1, d2.1, t1, t2, ?_, ?_, ?_, ?_⟩
 ·rw [d1.2]; rfl
 ·rw [d1.2]; unfold cutP; dsimp only; omega
 ·rw [d2.2]; unfold cutP; dsimp only; omega
 ·rw [d2.2]; rfl
theorem throughE_eq {N : Int} {bs : List Bd} {p v : Int} (hc : checkP N bs = 0) (hp : pointP N [p] = 0) (hv : inR v (-1000000) 1000000 = true) (h0 : ¬ (p = 0 ∧ v ≠ 0)) :
 throughE N bs p v = if (openedP N (throughX bs p v)).isSome = true then (valuesP N.toNat (throughX bs p v), true, 0) else ([], false, 0) := by
 unfold throughE
 rw [if_neg (by simp [hc]), if_neg (by simp [hp]), if_neg (by simp [hv]), if_neg h0]
end Go.Proofs.YtkhemfnlflbniaaGreatDoor
namespace Go.Proofs.YtkhemfnlflbniaaGreatDoor
open Go Go.RowKit Go.Shelf
def drwB (F : Fld) (l : List Rcd) (y : List Int) : Bool := (keptE (ptN F) (sysL F l) y).2.1 && decide ((keptE (ptN F) (sysL F l) y).2.2 = 0)
set_option maxRecDepth 10000 in
set_option maxHeartbeats 2000000 in
theorem drawing_any (w : World) (b : Nat) (v : WV) (F : Fld) (l : List Rcd) (h : WAt w b v F l) (hF : F.check = 0) (a2 : Option Addr) (c2 : Nat) (y : List Int) (hl : y.length ≤ 9223372036854775807) (h2 : IntsAt w a2 y) :
 Calls Tryz.prog 125 #[.pointer (some ⟨b, 0, none⟩), .slice a2 y.length c2] w fun e w' => e = .returned (.bool (drwB F l y)) ∧ Below w.heap.size w w' := by
 have HK := hidE (kept_any w (ptN F) v.o v.c (sysL F l) a2 c2 y (ptN_ok hF) (Nat.le_trans h.cap.1 h.cap.2) hl h.bnd h2)
 unfold drwB
 obtain ⟨⟨k1, k2, k3⟩, hk⟩ : ∃ k, keptE (ptN F) (sysL F l) y = k := ⟨_, rfl⟩
 rw [hk] at HK ⊢
 have kx := rowc h.box
 unfold WV.arr at kx
 obtain ⟨P, hP⟩ : ∃ P : Int, ((ptN F : Nat) : Int) = P := ⟨_, rfl⟩
 obtain ⟨LN, hLN⟩ : ∃ n, (sysL F l).length = n := ⟨_, rfl⟩
 obtain ⟨LY, hLY⟩ : ∃ n, y.length = n := ⟨_, rfl⟩
 rw [hP, hLN] at kx HK
 rw [hLY] at HK ⊢
 clear hP hLN hLY hk h hF hl h2
 go_enter Tryz.func125, Tryz.ntmps125
 go_wp2_with fail
 refine HK.out.mono ?_
 rintro e w1 ⟨rfl, hb1⟩
 have B1 := hidE hb1
 clear hb1 kx HK
 cases k2
 ·go_wp2_with fail
  go_ret
  exact ⟨rfl, B1.out⟩
 ·by_cases h3 : k3 = 0
  ·subst h3
   go_wp2_with fail
   go_ret
   exact ⟨rfl, B1.out⟩
  ·have z : (k3 == 0) = false := by simpa using h3
   have HZ := hidE (show decide (k3 = 0) = false by simpa using h3)
   clear h3
   go_wp2_with fail
   go_ret
   exact ⟨by rw [HZ.out]; rfl, B1.out⟩
theorem thru_eq {F : Fld} {l : List Rcd} (h : Good F l) {p : Nat} (p1 : 1 ≤ p) (hp : p < ptN F) {v : Int} (hv : inR v 0 100000 = true) : throughE (ptN F) (sysL F l) p v = ((thruL F l p v).1, (thruL F l p v).2, 0) := by
 have v2 := inR_iff.1 hv
 have k : pointP (ptN F) [(p : Int)] = 0 := by
  unfold pointP
  rw [if_neg]
  simp only [List.any_eq_true, not_exists, not_and]
  intro q hq
  simp only [List.mem_cons, List.not_mem_nil, or_false] at hq
  subst hq
  unfold inR
  simp only [Bool.not_eq_true', Bool.not_eq_false, Bool.and_eq_true, decide_eq_true_eq]
  omega
 rw [throughE_eq (sys_check h) k (inR_iff.2 (by omega)) (by omega)]
 unfold thruL
 rw [if_neg (show ¬ (inR v 0 100000 = false) by rw [hv]; simp)]
 have e : throughX (sysL F l) (p : Int) v = sysL F l ++ tie p v := by
  unfold throughX
  rw [if_neg (by omega)]
  rfl
 rw [e]
 unfold keptP
 by_cases q : (openedP (ptN F : Int) (sysL F l ++ tie p v)).isSome = true
 ·rw [if_pos q, if_pos q]; rfl
 ·rw [if_neg q, if_neg q]
theorem thru_out {F : Fld} {l : List Rcd} {p : Nat} {v : Int} (hv : inR v 0 100000 = false) : thruL F l p v = ([], false) := by
 unfold thruL
 rw [if_pos hv]
set_option maxRecDepth 10000 in
set_option maxHeartbeats 4000000 in
theorem throughW_any (w : World) (b : Nat) (y : WV) (F : Fld) (l : List Rcd) (i s v : Int) (h : WAt w b y F l) (hg : Good F l) (hi : limB F i = true) (hs : staB F s = true) :
 Calls Tryz.prog 130 #[.pointer (some ⟨b, 0, none⟩), .agg #[.int .i64 i, .int .i64 s], .int .i64 v] w fun e w' => ThroughPost (thruL F l (ptS F i s) v).1 (thruL F l (ptS F i s) v).2 0 w.heap.size e w' ∧ Below w.heap.size w w' := by
 have HP := hidE (fun W (q : WAt W b y F l) => pointW_any W b y F l i s q hg.fld hi hs)
 have pb := ptS_bd hi hs
 have HT := hidE (fun W (q : WAt W b y F l) (hv : inR v 0 100000 = true) => (by
  have := through_any W (ptN F) y.o y.c (sysL F l) (ptS F i s) v (ptN_ok hg.fld) (Nat.le_trans q.cap.1 q.cap.2) q.bnd
  rw [thru_eq hg pb.1 pb.2.1 hv] at this
  exact this))
 have HO := hidE (fun (hv : inR v 0 100000 = false) => thru_out (F := F) (l := l) (p := ptS F i s) hv)
 obtain ⟨⟨T1, T2⟩, hT⟩ : ∃ t, thruL F l (ptS F i s) v = t := ⟨_, rfl⟩
 rw [hT] at HT HO ⊢
 obtain ⟨p, hp⟩ : ∃ v : Int, ((ptS F i s : Nat) : Int) = v := ⟨_, rfl⟩
 rw [hp] at HP HT
 have HI := hidE (inL_any v 0 100000)
 obtain ⟨w0, hw0⟩ : ∃ W, W = w.alloc (.cells #[.int .i64 i, .int .i64 s] 30) := ⟨_, rfl⟩
 have B0 := hidE (show Below w.heap.size w w0 by rw [hw0]; exact (Below.refl _ _).alloc (Nat.le_refl _) _)
 have X0 := hidE (show w0.heap[w.heap.size]? = some (.cells #[.int .i64 i, .int .i64 s] 30 (0,0)) by rw [hw0]; exact heap_alloc_new _ _)
 have HW := hidE (h.next B0.out)
 have HKX := hidE (fun W (hb : Below w0.heap.size w0 W) => rowc ((h.next B0.out).next hb).box)
 obtain ⟨P, hP⟩ : ∃ P : Int, ((ptN F : Nat) : Int) = P := ⟨_, rfl⟩
 obtain ⟨LN, hLN⟩ : ∃ n, (sysL F l).length = n := ⟨_, rfl⟩
 unfold WV.arr at HKX
 rw [hP, hLN] at HT HKX
 obtain ⟨bv, hbv⟩ : ∃ z, inR v 0 100000 = z := ⟨_, rfl⟩
 rw [hbv] at HT HO HI
 clear hT hp hP hLN hbv h hg hi hs pb
 go_enter Tryz.func130, Tryz.ntmps130
 go_upto_region 1 with fail
 rw [← hw0]
 clear hw0
 go_wp2_with fail
 refine (HI.out _).mono ?_
 rintro e w1 ⟨rfl, rfl⟩
 clear HI
 cases bv
 ·have hq := HO.out rfl
  cases hq
  go_wp2_with fail
  refine bodyPost_ret (v := .tuple #[.slice none 0 0, .bool false, .int .i64 0]) (by simp [results, Tryz.results130, go_sem]) rfl ⟨⟨_, rfl, World.ownsRow_nil _ _ _ _⟩, B0.out⟩
 have HT2 := hidE (fun W q => HT.out W q rfl)
 clear HT HO
 go_upto_region 3 with fail
 go_cut [6, 7, 8] (fun a c d wx => ∃ v, a = v ∧ c = .bool T2 ∧ d = .int .i64 0 ∧ Hid (wx.ownsRow w0.heap.size 3 1 v T1.length (intsV T1)) ∧ Hid (Below w0.heap.size w0 wx))
 case first =>
  refine wp_region_F (S := Below w0.heap.size w0) (last := 100) (by kernel_rfl) ?_
  obtain ⟨W0, hW0⟩ : ∃ W, W = w0.drew := ⟨_, rfl⟩
  have hS0 : Below w0.heap.size w0 W0 := by rw [hW0]; exact (Below.refl _ _).drew
  rw [← hW0]
  clear hW0
  refine tF 0 12 (.pointer (some ⟨b, 0, none⟩)) rfl (by kernel_rfl) rfl (fun _ _ _ h => h) (fun V hV => ?_) hS0 ?_
  ·simp [go_sem, execOp]
  try simp only [sA, sB, sC]
  refine tF 1 13 (.pointer (some ⟨b, 0, none⟩)) rfl (by kernel_rfl) rfl (fun _ _ _ h => h) (fun V hV => ?_) hS0 ?_
  ·simp [go_sem, execOp]
  try simp only [sA, sB, sC]
  refine tF 2 14 (.pointer (some ⟨b, 0, none⟩)) rfl (by kernel_rfl) rfl (fun _ _ _ h => h) (fun V hV => ?_) hS0 ?_
  ·simp [go_sem, execOp]
  try simp only [sA, sB, sC]
  refine tF 3 15 (.agg #[.int .i64 P, .slice y.o LN y.c]) rfl (by kernel_rfl) rfl (fun _ _ _ h => h) (fun V hV => ?_) hS0 ?_
  ·(have z0 : V.cell? ⟨b, 0, none⟩ = some (.int .i64 P) := (HKX.out V hV 0).trans rfl; have z1 : V.cell? ⟨b, 1, none⟩ = some (.slice y.o LN y.c) := (HKX.out V hV 1).trans rfl; simp [go_sem, execOp, z0, z1])
  try simp only [sA, sB, sC]
  refine tF 4 16 (.pointer (some ⟨b, 0, none⟩)) rfl (by kernel_rfl) rfl (fun _ _ _ h => h) (fun V hV => ?_) hS0 ?_
  ·simp [go_sem, execOp]
  try simp only [sA, sB, sC]
  refine tF 5 17 (.agg #[.int .i64 i, .int .i64 s]) rfl (by kernel_rfl) rfl (fun _ _ _ h => h) (fun V hV => ?_) hS0 ?_
  ·exact yload rfl rfl (blk_below hV (lt_of_block X0.out) X0.out) Tryz.underlying30 rfl (by kernel_rfl)
  try simp only [sA, sB, sC]
  refine tF 7 19 (.int .i64 v) rfl (by kernel_rfl) rfl (fun _ _ _ h => h) (fun V hV => ?_) hS0 ?_
  ·simp [go_sem, execOp]
  try simp only [sA, sB, sC]
  refine wpAnyF_step 6 rfl (by kernel_rfl) (fun K hK => ?_)
  go_simp
  go_at_call 83
  refine (HP.out _ (HW.out.next hS0)).mono ?_
  rintro e wq1 ⟨rfl, hb1⟩
  have hS1 : Below w0.heap.size w0 wq1 := hS0.trans (hb1.mono hS0.size)
  clear hb1
  go_wp2_with fail
  refine hK.out _ _ (.inr hS1) ?_
  clear hK K
  try simp only [Act.put, sA, sB, sC]
  refine wpAnyF_step 8 rfl (by kernel_rfl) (fun K hK => ?_)
  go_simp
  go_at_call 202
  refine (HT2.out _ (HW.out.next hS1)).mono ?_
  rintro e wq2 ⟨⟨v3, rfl, HOW0⟩, hb2⟩
  have hS2 : Below w0.heap.size w0 wq2 := hS1.trans (hb2.mono hS1.size)
  have HOW := ownsRow_base HOW0 (show w0.heap.size ≤ _ from hS1.size)
  clear hb2
  go_wp2_with fail
  refine hK.out _ _ (.inr hS2) ?_
  clear hK K
  try simp only [Act.put, sA, sB, sC]
  refine tF 9 21 (v3) rfl (by kernel_rfl) rfl (fun _ _ _ h => h) (fun V hV => ?_) hS2 ?_
  ·simp [go_sem, execOp]
  try simp only [sA, sB, sC]
  refine tF 10 22 (.bool T2) rfl (by kernel_rfl) rfl (fun _ _ _ h => h) (fun V hV => ?_) hS2 ?_
  ·simp [go_sem, execOp]
  try simp only [sA, sB, sC]
  refine tF 11 23 (.int .i64 0) rfl (by kernel_rfl) rfl (fun _ _ _ h => h) (fun V hV => ?_) hS2 ?_
  ·simp [go_sem, execOp]
  try simp only [sA, sB, sC]
  refine tF 12 6 (v3) rfl (by kernel_rfl) rfl (fun _ _ _ h => h) (fun V hV => ?_) hS2 ?_
  ·simp [go_sem, execOp]
  try simp only [sA, sB, sC]
  refine tF 13 7 (.bool T2) rfl (by kernel_rfl) rfl (fun _ _ _ h => h) (fun V hV => ?_) hS2 ?_
  ·simp [go_sem, execOp]
  try simp only [sA, sB, sC]
  refine tF 14 8 (.int .i64 0) rfl (by kernel_rfl) rfl (fun _ _ _ h => h) (fun V hV => ?_) hS2 ?_
  ·simp [go_sem, execOp]
  try simp only [sA, sB, sC]
  refine wpAnyF_done (by kernel_rfl) ?_ _
  go_wp2_with fail
  go_meet
  exact ⟨_, rfl, rfl, rfl, hidE HOW, hidE hS2⟩
 case rest =>
 obtain ⟨v2, rfl, rfl, rfl, HOW, HB⟩ := hcut
 go_wp2_with fail
 refine bodyPost_ret (v := .tuple #[u6, .bool T2, .int .i64 0]) (by simp [results, Tryz.results130, go_sem]) rfl ⟨⟨_, rfl, ownsRow_base HOW.out B0.out.size⟩, B0.out.trans (HB.out.mono B0.out.size)⟩
def awardedE (F : Fld) (l : List Rcd) (y : List Int) (i s a c : Int) : Int × Int × Int :=
 if (checkE F l).2 ≠ 0 then (0, 0, (checkE F l).2) else if stripB F i s a c = false then (0, 0, 1) else if drwB F l y = false then (0, 0, 5)
 else ((cutP (y.getD (ptS F i s) 0) (y.getD (ptS F i s) 0) a c).1, (cutP (y.getD (ptS F i s) 0) (y.getD (ptS F i s) 0) a c).2.2, 0)
theorem strip_parts {F : Fld} {i s a c : Int} (h : stripB F i s a c = true) : limB F i = true ∧ staB F s = true ∧ 0 ≤ a ∧ a < c ∧ c ≤ 100000 := inv_strip (by unfold flagE; rw [if_pos h])
theorem drwB_iff {F : Fld} {l : List Rcd} (h : Good F l) {y : List Int} : drwB F l y = true ↔ Drw F l y := kept_eq h y
set_option maxRecDepth 10000 in
set_option maxHeartbeats 8000000 in
theorem awardedL_any (w : World) (x : FV) (F : Fld) (ar : Option Addr) (cr : Nat) (l : List Rcd) (i s a c : Int) (h : FldAt w x F) (hr : RcdsAt w ar l) (hn : l.length ≤ 100000) (hk : ∀ r ∈ l, (0 ≤ r.call.kind ∧ r.call.kind ≤ 255) ∧ r.deed.size ≤ 9223372036854775807)
 (a2 : Option Addr) (c2 : Nat) (y : List Int) (hl : y.length ≤ 9223372036854775807) (h2 : IntsAt w a2 y) :
 Calls Tryz.prog 58 #[x.val F, .slice ar l.length cr, .slice a2 y.length c2, .agg #[.int .i64 i, .int .i64 s, .int .i64 a, .int .i64 c]] w fun e w' => e = .returned (.tuple #[.int .i64 (awardedE F l y i s a c).1, .int .i64 (awardedE F l y i s a c).2.1, .int .i64 (awardedE F l y i s a c).2.2]) ∧ Below w.heap.size w w' := by
 obtain ⟨w0, hw0⟩ : ∃ W, W = (w.alloc (.cells (x.arr F) 27)).alloc (.cells #[.int .i64 i, .int .i64 s, .int .i64 a, .int .i64 c] 40) := ⟨_, rfl⟩
 have B0 := hidE (show Below w.heap.size w w0 by rw [hw0]; exact ((Below.refl _ _).alloc (Nat.le_refl _) _).alloc (by simp) _)
 have X0 := hidE (show Kb [(w.heap.size + 1, .cells #[.int .i64 i, .int .i64 s, .int .i64 a, .int .i64 c] 40), (w.heap.size, .cells (x.arr F) 27)] w0 by
  rw [hw0]
  have := Kb.alloc (o := .cells #[.int .i64 i, .int .i64 s, .int .i64 a, .int .i64 c] 40) (Kb.alloc (W := w) (o := .cells (x.arr F) 27) (L := []) trivial)
  simpa using this)
 have HC := hidE (open_any w0 x F ar cr l (h.below B0.out) (hr.below B0.out (Nat.le_refl _)) hn hk)
 have HG := hidE (fun (q : (checkE F l).2 = 0) => (check_iff F l).1 q)
 have HI := hidE (h2.below B0.out (Nat.le_refl _))
 have HYL := hidE hl
 obtain ⟨⟨R1, R2, R3⟩, hR⟩ : ∃ R, awardedE F l y i s a c = R := ⟨_, rfl⟩
 rw [hR]
 unfold awardedE at hR
 obtain ⟨M, hM⟩ : ∃ M, (checkE F l).2 = M := ⟨_, rfl⟩
 rw [hM] at HC HG hR
 have HR := hidE hR
 have kk := rowc X0.out.2.1
 obtain ⟨LY, hLY⟩ : ∃ n, y.length = n := ⟨_, rfl⟩
 have HLY := hidE hLY
 rw [hLY]
 clear hM h hr hn hk hR h2 hl hLY
 unfold FV.val FV.arr at *
 go_enter Tryz.func58, Tryz.ntmps58
 go_upto_region 1 with fail
 rw [← hw0]
 clear hw0
 go_wp2_with fail
 refine HC.out.mono ?_
 rintro e w1 ⟨hp, hb1⟩
 have B1 := hidE (B0.out.trans (hb1.mono B0.out.size))
 have X1 := hidE (X0.out.next hb1).1
 have HI1 := hidE (HI.out.below hb1 (Nat.le_refl _))
 clear hb1 HC X0 kk HI
 unfold OpenPost at hp
 by_cases h0 : M = 0
 rotate_left
 ·have hzb : (M != 0) = true := by simpa using h0
  rw [if_neg h0] at hp
  subst hp
  have hq := HR.out
  rw [if_pos h0] at hq
  cases hq
  clear h0 HR HG
  go_wp2_with fail
  refine bodyPost_ret (v := .tuple #[.int .i64 0, .int .i64 0, .int .i64 R3]) (by simp [results, Tryz.results58, go_sem]) rfl ⟨rfl, B1.out⟩
 subst h0
 rw [if_pos rfl] at hp
 obtain ⟨b, o, c9, rfl, hw, hbl, -⟩ := hp
 have hq := HR.out
 rw [if_neg (by simp)] at hq
 have hG := HG.out rfl
 have HST := hidE (stripW_any w1 b _ F l i s a c hw hG.fld)
 have HSP := hidE (fun (q : stripB F i s a c = true) => strip_parts q)
 have HDR := hidE (fun W (q : WAt W b ⟨x, o, c9, ar, cr⟩ F l) (hi : IntsAt W a2 y) => (by
  have := drawing_any W b _ F l q hG.fld a2 c2 y HYL.out hi
  rw [HLY.out] at this
  exact this))
 have HDI := hidE (fun (q : drwB F l y = true) => (drwB_iff hG).1 q)
 have HPT := hidE (fun W (q : WAt W b ⟨x, o, c9, ar, cr⟩ F l) (u : limB F i = true) (v : staB F s = true) => pointW_any W b _ F l i s q hG.fld u v)
 have HW := hidE hw
 obtain ⟨sb, hsb⟩ : ∃ v, stripB F i s a c = v := ⟨_, rfl⟩
 obtain ⟨db, hdb⟩ : ∃ v, drwB F l y = v := ⟨_, rfl⟩
 rw [hsb] at hq HST HSP
 rw [hdb] at hq HDR HDI
 have HQ := hidE hq
 have kx := rowc X1.out
 clear hq hG hsb hdb hw hbl HR HG
 go_wp2_with fail
 refine HST.out.mono ?_
 rintro e w2 ⟨rfl, hb2⟩
 have B2 := hidE (B1.out.trans (hb2.mono B1.out.size))
 have X2 := hidE (blk_below hb2 (lt_of_block X1.out) X1.out)
 have W2 := hidE (HW.out.next hb2)
 have HI2 := hidE (HI1.out.below hb2 (Nat.le_refl _))
 clear hb2 kx HST B1 X1 HW HI1
 have hq := HQ.out
 cases sb
 ·rw [if_pos rfl] at hq
  cases hq
  go_wp2_with fail
  refine bodyPost_ret (v := .tuple #[.int .i64 0, .int .i64 0, .int .i64 1]) (by simp [results, Tryz.results58, go_sem]) rfl ⟨rfl, B2.out⟩
 rw [if_neg (by simp)] at hq
 have HQ2 := hidE hq
 have HDR2 := hidE (HDR.out _ W2.out HI2.out)
 clear hq HQ
 go_wp2_with fail
 refine HDR2.out.mono ?_
 rintro e w3 ⟨rfl, hb3⟩
 have B3 := hidE (B2.out.trans (hb3.mono B2.out.size))
 have X3 := hidE (blk_below hb3 (lt_of_block X2.out) X2.out)
 have W3 := hidE (W2.out.next hb3)
 have HI3 := hidE (HI2.out.below hb3 (Nat.le_refl _))
 clear hb3 HDR2 HDR B2 X2 W2 HI2
 have hq := HQ2.out
 cases db
 ·rw [if_pos rfl] at hq
  cases hq
  go_wp2_with fail
  refine bodyPost_ret (v := .tuple #[.int .i64 0, .int .i64 0, .int .i64 5]) (by simp [results, Tryz.results58, go_sem]) rfl ⟨rfl, B3.out⟩
 rw [if_neg (by simp)] at hq
 obtain ⟨g1, g2, g3, g4, g5⟩ := HSP.out (by trivial)
 have pb := ptS_bd g1 g2
 have hdr := HDI.out (by trivial)
 have hlen : ptS F i s < y.length := by have := hdr.len; omega
 have HP3 := hidE (fun W (q : Below w3.heap.size w3 W) => HPT.out W (W3.out.next q) g1 g2)
 obtain ⟨yb, yo, e2, ylt, yc⟩ := IntsAt.at HI3.out hlen
 obtain ⟨v, hv⟩ : ∃ v, y[ptS F i s] = v := ⟨_, rfl⟩
 rw [hv] at yc
 have hgd : y.getD (ptS F i s) 0 = v := by rw [List.getD_eq_getElem?_getD, List.getElem?_eq_getElem hlen, ← hv]; rfl
 rw [hgd] at hq
 obtain ⟨p, hpp⟩ : ∃ p, ptS F i s = p := ⟨_, rfl⟩
 rw [hpp] at HP3 yc hlen
 have hpl : (p : Int) < (LY : Int) := by have := HLY.out; omega
 have hp0 : (0 : Int) ≤ (p : Int) := by omega
 have HCU := hidE (fun (W : World) (gi : Nat) (hb : W.heap[gi]? = some (Obj.cells #[Value.int .i64 v] 3 (0,0))) => (by
  have := cut_any W i s a c gi 1 1 [v] (by decide) rfl (by decide) (lt_of_block hb) (fun j hj => by
   match j, hj with
   | 0, _ => exact ce (i := 0) hb rfl
   | j + 1, hj => exact absurd hj (by simp)) g3 (by omega) g5
  exact this))
 rw [show Lib.minOf [v] = v by show min v v = v; omega, show Lib.maxOf [v] = v by show max v v = v; omega] at HCU
 have HYC := hidE (fun V (hV : Below w3.heap.size w3 V) => (hV.cell (by exact ylt)).trans yc)
 subst e2
 unfold cutP at hq
 obtain ⟨K1, hK1⟩ : ∃ k, clampE v a c - a = k := ⟨_, rfl⟩
 obtain ⟨K2, hK2⟩ : ∃ k, clampE v a c - clampE v a c = k := ⟨_, rfl⟩
 obtain ⟨K3, hK3⟩ : ∃ k, c - clampE v a c = k := ⟨_, rfl⟩
 rw [hK1, hK3] at hq
 rw [hK1, hK2, hK3] at HCU
 cases hq
 clear g1 g2 g3 g4 g5 pb hdr hv hgd hpp hlen hK1 hK2 hK3 HSP HDI HPT HQ2 HLY HYL HI3 yc ylt
 go_upto_region 8 with fail
 go_cut [12] (fun t wx => ∃ g, t = .pointer (some ⟨g, 0, none⟩) ∧ Hid (wx.heap[g]? = some (.cells #[.int .i64 K1, .int .i64 K2, .int .i64 K3] 127 (0,0))) ∧ Hid (Below w3.heap.size w3 wx))
 case first =>
  refine wp_region_F (S := Below w3.heap.size w3) (last := 100) (by kernel_rfl) ?_
  obtain ⟨W0, hW0⟩ : ∃ W, W = w3.drew := ⟨_, rfl⟩
  have hS0 : Below w3.heap.size w3 W0 := by rw [hW0]; exact (Below.refl _ _).drew
  rw [← hW0]
  clear hW0
  refine tF 0 33 (.agg #[.int .i64 i, .int .i64 s, .int .i64 a, .int .i64 c]) rfl (by kernel_rfl) rfl (fun _ _ _ h => h) (fun V hV => ?_) hS0 ?_
  ·exact yload rfl rfl (blk_below hV (lt_of_block X3.out) X3.out) Tryz.underlying40 rfl (by kernel_rfl)
  try simp only [sA, sB, sC]
  refine tF 1 34 (.slice (some ⟨yb, yo, none⟩) LY c2) rfl (by kernel_rfl) rfl (fun _ _ _ h => h) (fun V hV => ?_) hS0 ?_
  ·simp [go_sem, execOp]
  try simp only [sA, sB, sC]
  refine tF 2 35 (.pointer (some ⟨b, 0, none⟩)) rfl (by kernel_rfl) rfl (fun _ _ _ h => h) (fun V hV => ?_) hS0 ?_
  ·simp [go_sem, execOp]
  try simp only [sA, sB, sC]
  refine tF 3 36 (.agg #[.int .i64 i, .int .i64 s, .int .i64 a, .int .i64 c]) rfl (by kernel_rfl) rfl (fun _ _ _ h => h) (fun V hV => ?_) hS0 ?_
  ·exact yload rfl rfl (blk_below hV (lt_of_block X3.out) X3.out) Tryz.underlying40 rfl (by kernel_rfl)
  try simp only [sA, sB, sC]
  refine wpAnyF_two 4 10 rfl rfl (by kernel_rfl) (fun K hK => ?_) (fun K hK => ?_)
  ·go_simp
   go_at_call 127
   refine (cornerOf_any _ i s a c).mono ?_
   rintro e wq1 ⟨rfl, hb1⟩
   have hS1 : Below w3.heap.size w3 wq1 := hS0.trans (hb1.mono hS0.size)
   clear hb1
   go_wp2_with fail
   refine hK.out _ _ (.inr hS1) ?_
   clear hK K
   try simp only [Act.put, sA, sB, sC]
   refine wpAnyF_two 5 10 rfl rfl (by kernel_rfl) (fun K hK => ?_) (fun K hK => ?_)
   ·go_simp
    go_at_call 83
    refine (HP3.out _ hS1).mono ?_
    rintro e wq2 ⟨rfl, hb2⟩
    have hS2 : Below w3.heap.size w3 wq2 := hS1.trans (hb2.mono hS1.size)
    clear hb2
    go_wp2_with fail
    refine hK.out _ _ (.inr hS2) ?_
    clear hK K
    try simp only [Act.put, sA, sB, sC]
    refine tF 6 39 (.pointer (some ⟨yb, yo + p, none⟩)) rfl (by kernel_rfl) rfl (fun _ _ _ h => h) (fun V hV => ?_) hS2 ?_
    ·simp [go_sem, execOp, hpl, hp0]
    try simp only [sA, sB, sC]
    refine tF 7 40 (.int .i64 v) rfl (by kernel_rfl) rfl (fun _ _ _ h => h) (fun V hV => ?_) hS2 ?_
    ·(have z := HYC.out V hV; simp [go_sem, execOp, z])
    try simp only [sA, sB, sC]
    refine wpAnyF_two 8 10 rfl rfl (by kernel_rfl) (fun K hK => ?_) (fun K hK => ?_)
    ·go_simp
     obtain ⟨wq3, hW3⟩ : ∃ Z, Z = wq2.alloc (.cells #[.int .i64 v] 3) := ⟨_, rfl⟩
     rw [← hW3]
     have hb3 : Below wq2.heap.size wq2 wq3 := by rw [hW3]; exact (Below.refl _ _).alloc (Nat.le_refl _) _
     have hS3 : Below w3.heap.size w3 wq3 := hS2.trans (hb3.mono hS2.size)
     have XI : wq3.heap[wq2.heap.size]? = some (.cells #[.int .i64 v] 3 (0,0)) := by rw [hW3]; exact heap_alloc_new _ _
     have XIge : w3.heap.size ≤ wq2.heap.size := hS2.size
     obtain ⟨gi, hgi⟩ : ∃ g, wq2.heap.size = g := ⟨_, rfl⟩
     rw [hgi] at XI XIge ⊢
     clear hW3 hgi hb3
     refine hK.out _ _ (.inr hS3) ?_
     clear hK K
     try simp only [Act.put, sA, sB, sC]
     refine wpAnyF_two 9 10 rfl rfl (by kernel_rfl) (fun K hK => ?_) (fun K hK => ?_)
     ·go_simp
      go_at_call 126
      refine (HCU.out _ gi XI).mono ?_
      rintro e wq4 ⟨rfl, hb4⟩
      have hS4 : Below w3.heap.size w3 wq4 := hS3.trans (hb4.mono hS3.size)
      replace XI := blk_below hb4 (lt_of_block XI) XI
      clear hb4
      go_wp2_with fail
      refine hK.out _ _ (.inr hS4) ?_
      clear hK K
      try simp only [Act.put, sA, sB, sC]
      refine wpAnyF_step 10 rfl (by kernel_rfl) (fun K hK => ?_)
      go_simp
      obtain ⟨wq5, hW5⟩ : ∃ Z, Z = wq4.alloc (.cells #[.int .i64 0, .int .i64 0, .int .i64 0] 127) := ⟨_, rfl⟩
      rw [← hW5]
      have hb5 : Below wq4.heap.size wq4 wq5 := by rw [hW5]; exact (Below.refl _ _).alloc (Nat.le_refl _) _
      have hS5 : Below w3.heap.size w3 wq5 := hS4.trans (hb5.mono hS4.size)
      replace XI := blk_below hb5 (lt_of_block XI) XI
      have XG : wq5.heap[wq4.heap.size]? = some (.cells #[.int .i64 0, .int .i64 0, .int .i64 0] 127 (0,0)) := by rw [hW5]; exact heap_alloc_new _ _
      have XGge : w3.heap.size ≤ wq4.heap.size := hS4.size
      obtain ⟨g, hg⟩ : ∃ g, wq4.heap.size = g := ⟨_, rfl⟩
      rw [hg] at XG XGge ⊢
      clear hW5 hg hb5
      refine hK.out _ _ (.inr hS5) ?_
      clear hK K
      try simp only [Act.put, sA, sB, sC]
      refine wpAnyF_step 11 rfl (by kernel_rfl) (fun K hK => ?_)
      refine Eq.mpr (if_pos (by kernel_rfl)) ?_
      refine wp_store_row 127 _ _ rfl g #[.int .i64 K1, .int .i64 K2, .int .i64 K3] rfl rfl 127 _ XG (by kernel_rfl) rfl (by simp [Value.oneCell']) ?_
      have XF := setRow_heap _ _ _ #[.int .i64 K1, .int .i64 K2, .int .i64 K3] _ _ XG
      have hSF := below_setRow (cs := #[.int .i64 K1, .int .i64 K2, .int .i64 K3]) hS5 XGge
      refine hK.out _ _ (.inr hSF) ?_
      clear hK K
      try simp only [Act.put, sA]
      refine wpAnyF_done (by kernel_rfl) ?_ _
      go_wp2_with fail
      go_meet
      exact ⟨g, rfl, hidE XF, hidE hSF⟩
     ·go_simp
      obtain ⟨wq4, hW4⟩ : ∃ Z, Z = wq3.alloc (.cells #[.int .i64 0, .int .i64 0, .int .i64 0] 127) := ⟨_, rfl⟩
      rw [← hW4]
      have hb4 : Below wq3.heap.size wq3 wq4 := by rw [hW4]; exact (Below.refl _ _).alloc (Nat.le_refl _) _
      have hS4 : Below w3.heap.size w3 wq4 := hS3.trans (hb4.mono hS3.size)
      replace XI := blk_below hb4 (lt_of_block XI) XI
      have XG : wq4.heap[wq3.heap.size]? = some (.cells #[.int .i64 0, .int .i64 0, .int .i64 0] 127 (0,0)) := by rw [hW4]; exact heap_alloc_new _ _
      have XGge : w3.heap.size ≤ wq3.heap.size := hS3.size
      obtain ⟨g, hg⟩ : ∃ g, wq3.heap.size = g := ⟨_, rfl⟩
      rw [hg] at XG XGge ⊢
      clear hW4 hg hb4
      refine hK.out _ _ (.inr hS4) ?_
      clear hK K
      try simp only [Act.put, sA, sB, sC]
      refine wpAnyF_step 9 rfl (by kernel_rfl) (fun K hK => ?_)
      go_simp
      go_at_call 126
      refine (HCU.out _ gi XI).mono ?_
      rintro e wq5 ⟨rfl, hb5⟩
      have hS5 : Below w3.heap.size w3 wq5 := hS4.trans (hb5.mono hS4.size)
      replace XI := blk_below hb5 (lt_of_block XI) XI
      replace XG := blk_below hb5 (lt_of_block XG) XG
      clear hb5
      go_wp2_with fail
      refine hK.out _ _ (.inr hS5) ?_
      clear hK K
      try simp only [Act.put, sA, sB, sC]
      refine wpAnyF_step 11 rfl (by kernel_rfl) (fun K hK => ?_)
      refine Eq.mpr (if_pos (by kernel_rfl)) ?_
      refine wp_store_row 127 _ _ rfl g #[.int .i64 K1, .int .i64 K2, .int .i64 K3] rfl rfl 127 _ XG (by kernel_rfl) rfl (by simp [Value.oneCell']) ?_
      have XF := setRow_heap _ _ _ #[.int .i64 K1, .int .i64 K2, .int .i64 K3] _ _ XG
      have hSF := below_setRow (cs := #[.int .i64 K1, .int .i64 K2, .int .i64 K3]) hS5 XGge
      refine hK.out _ _ (.inr hSF) ?_
      clear hK K
      try simp only [Act.put, sA]
      refine wpAnyF_done (by kernel_rfl) ?_ _
      go_wp2_with fail
      go_meet
      exact ⟨g, rfl, hidE XF, hidE hSF⟩
    ·go_simp
     obtain ⟨wq3, hW3⟩ : ∃ Z, Z = wq2.alloc (.cells #[.int .i64 0, .int .i64 0, .int .i64 0] 127) := ⟨_, rfl⟩
     rw [← hW3]
     have hb3 : Below wq2.heap.size wq2 wq3 := by rw [hW3]; exact (Below.refl _ _).alloc (Nat.le_refl _) _
     have hS3 : Below w3.heap.size w3 wq3 := hS2.trans (hb3.mono hS2.size)
     have XG : wq3.heap[wq2.heap.size]? = some (.cells #[.int .i64 0, .int .i64 0, .int .i64 0] 127 (0,0)) := by rw [hW3]; exact heap_alloc_new _ _
     have XGge : w3.heap.size ≤ wq2.heap.size := hS2.size
     obtain ⟨g, hg⟩ : ∃ g, wq2.heap.size = g := ⟨_, rfl⟩
     rw [hg] at XG XGge ⊢
     clear hW3 hg hb3
     refine hK.out _ _ (.inr hS3) ?_
     clear hK K
     try simp only [Act.put, sA, sB, sC]
     refine wpAnyF_step 8 rfl (by kernel_rfl) (fun K hK => ?_)
     go_simp
     obtain ⟨wq4, hW4⟩ : ∃ Z, Z = wq3.alloc (.cells #[.int .i64 v] 3) := ⟨_, rfl⟩
     rw [← hW4]
     have hb4 : Below wq3.heap.size wq3 wq4 := by rw [hW4]; exact (Below.refl _ _).alloc (Nat.le_refl _) _
     have hS4 : Below w3.heap.size w3 wq4 := hS3.trans (hb4.mono hS3.size)
     replace XG := blk_below hb4 (lt_of_block XG) XG
     have XI : wq4.heap[wq3.heap.size]? = some (.cells #[.int .i64 v] 3 (0,0)) := by rw [hW4]; exact heap_alloc_new _ _
     have XIge : w3.heap.size ≤ wq3.heap.size := hS3.size
     obtain ⟨gi, hgi⟩ : ∃ g, wq3.heap.size = g := ⟨_, rfl⟩
     rw [hgi] at XI XIge ⊢
     clear hW4 hgi hb4
     refine hK.out _ _ (.inr hS4) ?_
     clear hK K
     try simp only [Act.put, sA, sB, sC]
     refine wpAnyF_step 9 rfl (by kernel_rfl) (fun K hK => ?_)
     go_simp
     go_at_call 126
     refine (HCU.out _ gi XI).mono ?_
     rintro e wq5 ⟨rfl, hb5⟩
     have hS5 : Below w3.heap.size w3 wq5 := hS4.trans (hb5.mono hS4.size)
     replace XG := blk_below hb5 (lt_of_block XG) XG
     replace XI := blk_below hb5 (lt_of_block XI) XI
     clear hb5
     go_wp2_with fail
     refine hK.out _ _ (.inr hS5) ?_
     clear hK K
     try simp only [Act.put, sA, sB, sC]
     refine wpAnyF_step 11 rfl (by kernel_rfl) (fun K hK => ?_)
     refine Eq.mpr (if_pos (by kernel_rfl)) ?_
     refine wp_store_row 127 _ _ rfl g #[.int .i64 K1, .int .i64 K2, .int .i64 K3] rfl rfl 127 _ XG (by kernel_rfl) rfl (by simp [Value.oneCell']) ?_
     have XF := setRow_heap _ _ _ #[.int .i64 K1, .int .i64 K2, .int .i64 K3] _ _ XG
     have hSF := below_setRow (cs := #[.int .i64 K1, .int .i64 K2, .int .i64 K3]) hS5 XGge
     refine hK.out _ _ (.inr hSF) ?_
     clear hK K
     try simp only [Act.put, sA]
     refine wpAnyF_done (by kernel_rfl) ?_ _
     go_wp2_with fail
     go_meet
     exact ⟨g, rfl, hidE XF, hidE hSF⟩
   ·go_simp
    obtain ⟨wq2, hW2⟩ : ∃ Z, Z = wq1.alloc (.cells #[.int .i64 0, .int .i64 0, .int .i64 0] 127) := ⟨_, rfl⟩
    rw [← hW2]
    have hb2 : Below wq1.heap.size wq1 wq2 := by rw [hW2]; exact (Below.refl _ _).alloc (Nat.le_refl _) _
    have hS2 : Below w3.heap.size w3 wq2 := hS1.trans (hb2.mono hS1.size)
    have XG : wq2.heap[wq1.heap.size]? = some (.cells #[.int .i64 0, .int .i64 0, .int .i64 0] 127 (0,0)) := by rw [hW2]; exact heap_alloc_new _ _
    have XGge : w3.heap.size ≤ wq1.heap.size := hS1.size
    obtain ⟨g, hg⟩ : ∃ g, wq1.heap.size = g := ⟨_, rfl⟩
    rw [hg] at XG XGge ⊢
    clear hW2 hg hb2
    refine hK.out _ _ (.inr hS2) ?_
    clear hK K
    try simp only [Act.put, sA, sB, sC]
    refine wpAnyF_step 5 rfl (by kernel_rfl) (fun K hK => ?_)
    go_simp
    go_at_call 83
    refine (HP3.out _ hS2).mono ?_
    rintro e wq3 ⟨rfl, hb3⟩
    have hS3 : Below w3.heap.size w3 wq3 := hS2.trans (hb3.mono hS2.size)
    replace XG := blk_below hb3 (lt_of_block XG) XG
    clear hb3
    go_wp2_with fail
    refine hK.out _ _ (.inr hS3) ?_
    clear hK K
    try simp only [Act.put, sA, sB, sC]
    refine tF 6 39 (.pointer (some ⟨yb, yo + p, none⟩)) rfl (by kernel_rfl) rfl (fun _ _ _ h => h) (fun V hV => ?_) hS3 ?_
    ·simp [go_sem, execOp, hpl, hp0]
    try simp only [sA, sB, sC]
    refine tF 7 40 (.int .i64 v) rfl (by kernel_rfl) rfl (fun _ _ _ h => h) (fun V hV => ?_) hS3 ?_
    ·(have z := HYC.out V hV; simp [go_sem, execOp, z])
    try simp only [sA, sB, sC]
    refine wpAnyF_step 8 rfl (by kernel_rfl) (fun K hK => ?_)
    go_simp
    obtain ⟨wq4, hW4⟩ : ∃ Z, Z = wq3.alloc (.cells #[.int .i64 v] 3) := ⟨_, rfl⟩
    rw [← hW4]
    have hb4 : Below wq3.heap.size wq3 wq4 := by rw [hW4]; exact (Below.refl _ _).alloc (Nat.le_refl _) _
    have hS4 : Below w3.heap.size w3 wq4 := hS3.trans (hb4.mono hS3.size)
    replace XG := blk_below hb4 (lt_of_block XG) XG
    have XI : wq4.heap[wq3.heap.size]? = some (.cells #[.int .i64 v] 3 (0,0)) := by rw [hW4]; exact heap_alloc_new _ _
    have XIge : w3.heap.size ≤ wq3.heap.size := hS3.size
    obtain ⟨gi, hgi⟩ : ∃ g, wq3.heap.size = g := ⟨_, rfl⟩
    rw [hgi] at XI XIge ⊢
    clear hW4 hgi hb4
    refine hK.out _ _ (.inr hS4) ?_
    clear hK K
    try simp only [Act.put, sA, sB, sC]
    refine wpAnyF_step 9 rfl (by kernel_rfl) (fun K hK => ?_)
    go_simp
    go_at_call 126
    refine (HCU.out _ gi XI).mono ?_
    rintro e wq5 ⟨rfl, hb5⟩
    have hS5 : Below w3.heap.size w3 wq5 := hS4.trans (hb5.mono hS4.size)
    replace XG := blk_below hb5 (lt_of_block XG) XG
    replace XI := blk_below hb5 (lt_of_block XI) XI
    clear hb5
    go_wp2_with fail
    refine hK.out _ _ (.inr hS5) ?_
    clear hK K
    try simp only [Act.put, sA, sB, sC]
    refine wpAnyF_step 11 rfl (by kernel_rfl) (fun K hK => ?_)
    refine Eq.mpr (if_pos (by kernel_rfl)) ?_
    refine wp_store_row 127 _ _ rfl g #[.int .i64 K1, .int .i64 K2, .int .i64 K3] rfl rfl 127 _ XG (by kernel_rfl) rfl (by simp [Value.oneCell']) ?_
    have XF := setRow_heap _ _ _ #[.int .i64 K1, .int .i64 K2, .int .i64 K3] _ _ XG
    have hSF := below_setRow (cs := #[.int .i64 K1, .int .i64 K2, .int .i64 K3]) hS5 XGge
    refine hK.out _ _ (.inr hSF) ?_
    clear hK K
    try simp only [Act.put, sA]
    refine wpAnyF_done (by kernel_rfl) ?_ _
    go_wp2_with fail
    go_meet
    exact ⟨g, rfl, hidE XF, hidE hSF⟩
  ·go_simp
   obtain ⟨wq1, hW1⟩ : ∃ Z, Z = W0.alloc (.cells #[.int .i64 0, .int .i64 0, .int .i64 0] 127) := ⟨_, rfl⟩
   rw [← hW1]
   have hb1 : Below W0.heap.size W0 wq1 := by rw [hW1]; exact (Below.refl _ _).alloc (Nat.le_refl _) _
   have hS1 : Below w3.heap.size w3 wq1 := hS0.trans (hb1.mono hS0.size)
   have XG : wq1.heap[W0.heap.size]? = some (.cells #[.int .i64 0, .int .i64 0, .int .i64 0] 127 (0,0)) := by rw [hW1]; exact heap_alloc_new _ _
   have XGge : w3.heap.size ≤ W0.heap.size := hS0.size
   obtain ⟨g, hg⟩ : ∃ g, W0.heap.size = g := ⟨_, rfl⟩
   rw [hg] at XG XGge ⊢
   clear hW1 hg hb1
   refine hK.out _ _ (.inr hS1) ?_
   clear hK K
   try simp only [Act.put, sA, sB, sC]
   refine wpAnyF_step 4 rfl (by kernel_rfl) (fun K hK => ?_)
   go_simp
   go_at_call 127
   refine (cornerOf_any _ i s a c).mono ?_
   rintro e wq2 ⟨rfl, hb2⟩
   have hS2 : Below w3.heap.size w3 wq2 := hS1.trans (hb2.mono hS1.size)
   replace XG := blk_below hb2 (lt_of_block XG) XG
   clear hb2
   go_wp2_with fail
   refine hK.out _ _ (.inr hS2) ?_
   clear hK K
   try simp only [Act.put, sA, sB, sC]
   refine wpAnyF_step 5 rfl (by kernel_rfl) (fun K hK => ?_)
   go_simp
   go_at_call 83
   refine (HP3.out _ hS2).mono ?_
   rintro e wq3 ⟨rfl, hb3⟩
   have hS3 : Below w3.heap.size w3 wq3 := hS2.trans (hb3.mono hS2.size)
   replace XG := blk_below hb3 (lt_of_block XG) XG
   clear hb3
   go_wp2_with fail
   refine hK.out _ _ (.inr hS3) ?_
   clear hK K
   try simp only [Act.put, sA, sB, sC]
   refine tF 6 39 (.pointer (some ⟨yb, yo + p, none⟩)) rfl (by kernel_rfl) rfl (fun _ _ _ h => h) (fun V hV => ?_) hS3 ?_
   ·simp [go_sem, execOp, hpl, hp0]
   try simp only [sA, sB, sC]
   refine tF 7 40 (.int .i64 v) rfl (by kernel_rfl) rfl (fun _ _ _ h => h) (fun V hV => ?_) hS3 ?_
   ·(have z := HYC.out V hV; simp [go_sem, execOp, z])
   try simp only [sA, sB, sC]
   refine wpAnyF_step 8 rfl (by kernel_rfl) (fun K hK => ?_)
   go_simp
   obtain ⟨wq4, hW4⟩ : ∃ Z, Z = wq3.alloc (.cells #[.int .i64 v] 3) := ⟨_, rfl⟩
   rw [← hW4]
   have hb4 : Below wq3.heap.size wq3 wq4 := by rw [hW4]; exact (Below.refl _ _).alloc (Nat.le_refl _) _
   have hS4 : Below w3.heap.size w3 wq4 := hS3.trans (hb4.mono hS3.size)
   replace XG := blk_below hb4 (lt_of_block XG) XG
   have XI : wq4.heap[wq3.heap.size]? = some (.cells #[.int .i64 v] 3 (0,0)) := by rw [hW4]; exact heap_alloc_new _ _
   have XIge : w3.heap.size ≤ wq3.heap.size := hS3.size
   obtain ⟨gi, hgi⟩ : ∃ g, wq3.heap.size = g := ⟨_, rfl⟩
   rw [hgi] at XI XIge ⊢
   clear hW4 hgi hb4
   refine hK.out _ _ (.inr hS4) ?_
   clear hK K
   try simp only [Act.put, sA, sB, sC]
   refine wpAnyF_step 9 rfl (by kernel_rfl) (fun K hK => ?_)
   go_simp
   go_at_call 126
   refine (HCU.out _ gi XI).mono ?_
   rintro e wq5 ⟨rfl, hb5⟩
   have hS5 : Below w3.heap.size w3 wq5 := hS4.trans (hb5.mono hS4.size)
   replace XG := blk_below hb5 (lt_of_block XG) XG
   replace XI := blk_below hb5 (lt_of_block XI) XI
   clear hb5
   go_wp2_with fail
   refine hK.out _ _ (.inr hS5) ?_
   clear hK K
   try simp only [Act.put, sA, sB, sC]
   refine wpAnyF_step 11 rfl (by kernel_rfl) (fun K hK => ?_)
   refine Eq.mpr (if_pos (by kernel_rfl)) ?_
   refine wp_store_row 127 _ _ rfl g #[.int .i64 K1, .int .i64 K2, .int .i64 K3] rfl rfl 127 _ XG (by kernel_rfl) rfl (by simp [Value.oneCell']) ?_
   have XF := setRow_heap _ _ _ #[.int .i64 K1, .int .i64 K2, .int .i64 K3] _ _ XG
   have hSF := below_setRow (cs := #[.int .i64 K1, .int .i64 K2, .int .i64 K3]) hS5 XGge
   refine hK.out _ _ (.inr hSF) ?_
   clear hK K
   try simp only [Act.put, sA]
   refine wpAnyF_done (by kernel_rfl) ?_ _
   go_wp2_with fail
   go_meet
   exact ⟨g, rfl, hidE XF, hidE hSF⟩
 case rest =>
 obtain ⟨g, rfl, HG, HB⟩ := hcut
 obtain ⟨W4, rfl⟩ : ∃ z : World, z = wc := ⟨wc, rfl⟩
 have kg := rowc HG.out
 clear HG
 go_wp2_with fail
 go_quiet (fail)
 go_wp2_with fail
 refine bodyPost_ret (v := .tuple #[.int .i64 K1, .int .i64 K3, .int .i64 0]) (by simp [results, Tryz.results58, go_sem]) rfl ⟨rfl, (B3.out.trans (HB.out.mono B3.out.size)).trans (below_drewN' _ _)⟩
def showsE (F : Fld) (l : List Rcd) (i s a c : Int) : List Int × List Int × Bool × Int :=
 if matchE F l (flagE (stripB F i s a c)) ≠ 0 then ([], [], false, matchE F l (flagE (stripB F i s a c)))
 else if (cutP (lowE F l (ptS F i s)) (highE F l (ptS F i s)) a c).2.1 = 0 then ([], [], false, 0)
 else ((thruL F l (ptS F i s) (lowE F l (ptS F i s))).1, (thruL F l (ptS F i s) (highE F l (ptS F i s))).1, true, 0)
def TwoPost (one two : List Int) (is : Bool) (err : Int) (e : Ending) (w' : World) : Prop :=
 ∃ a1 c1 a2 c2, e = .returned (.tuple #[.slice a1 one.length c1, .slice a2 two.length c2, .bool is, .int .i64 err]) ∧ IntsAt w' a1 one ∧ IntsAt w' a2 two
theorem two_none {err : Int} {w' : World} : TwoPost [] [] false err (.returned (.tuple #[.slice none 0 0, .slice none 0 0, .bool false, .int .i64 err])) w' := ⟨none, 0, none, 0, rfl, .inl rfl, .inl rfl⟩
set_option maxRecDepth 10000 in
set_option maxHeartbeats 8000000 in
theorem showsL_any (w : World) (x : FV) (F : Fld) (ar : Option Addr) (cr : Nat) (l : List Rcd) (i s a c : Int) (h : FldAt w x F) (hr : RcdsAt w ar l) (hn : l.length ≤ 100000) (hk : ∀ r ∈ l, (0 ≤ r.call.kind ∧ r.call.kind ≤ 255) ∧ r.deed.size ≤ 9223372036854775807) :
 Calls Tryz.prog 65 #[x.val F, .slice ar l.length cr, .agg #[.int .i64 i, .int .i64 s, .int .i64 a, .int .i64 c]] w fun e w' => TwoPost (showsE F l i s a c).1 (showsE F l i s a c).2.1 (showsE F l i s a c).2.2.1 (showsE F l i s a c).2.2.2 e w' ∧ Below w.heap.size w w' := by
 obtain ⟨w0, hw0⟩ : ∃ W, W = (w.alloc (.cells (x.arr F) 27)).alloc (.cells #[.int .i64 i, .int .i64 s, .int .i64 a, .int .i64 c] 40) := ⟨_, rfl⟩
 have B0 := hidE (show Below w.heap.size w w0 by rw [hw0]; exact ((Below.refl _ _).alloc (Nat.le_refl _) _).alloc (by simp) _)
 have X0 := hidE (show Kb [(w.heap.size + 1, .cells #[.int .i64 i, .int .i64 s, .int .i64 a, .int .i64 c] 40), (w.heap.size, .cells (x.arr F) 27)] w0 by
  rw [hw0]
  have := Kb.alloc (o := .cells #[.int .i64 i, .int .i64 s, .int .i64 a, .int .i64 c] 40) (Kb.alloc (W := w) (o := .cells (x.arr F) 27) (L := []) trivial)
  simpa using this)
 have HA := hidE (measured_any w0 x F ar cr l i s a c (h.below B0.out) (hr.below B0.out (Nat.le_refl _)) hn hk)
 have HMZ := hidE (fun (q : matchE F l (flagE (stripB F i s a c)) = 0) => match_zero.1 q)
 obtain ⟨⟨R1, R2, R3, R4⟩, hR⟩ : ∃ R, showsE F l i s a c = R := ⟨_, rfl⟩
 rw [hR]
 unfold showsE at hR
 obtain ⟨M, hM⟩ : ∃ M, matchE F l (flagE (stripB F i s a c)) = M := ⟨_, rfl⟩
 rw [hM] at HA HMZ hR
 have HR := hidE hR
 have k0 := rowc X0.out.2.1
 have k1 := rowc X0.out.1
 clear hM h hr hn hk hR
 unfold FV.val FV.arr at *
 go_enter Tryz.func65, Tryz.ntmps65
 go_upto_region 1 with fail
 rw [← hw0]
 clear hw0
 go_wp2_with fail
 refine HA.out.mono ?_
 rintro e w1 ⟨hm, hb1⟩
 have B1 := hidE (B0.out.trans (hb1.mono B0.out.size))
 have X1 := hidE (X0.out.next hb1).1
 clear hb1 HA k0 k1 X0
 unfold MeasPost at hm
 by_cases h0 : M = 0
 rotate_left
 ·rw [if_neg h0] at hm
  subst hm
  have hzb : (M != 0) = true := by simpa using h0
  have hq := HR.out
  rw [if_pos h0] at hq
  cases hq
  clear h0 HR HMZ
  go_upto_region 2 with (refine wpList_store_row rfl 127 _ _ rfl w1.heap.size #[.int .i64 0, .int .i64 0, .int .i64 0] rfl rfl 127 _ (heap_alloc_new _ _) (by kernel_rfl) rfl (by simp [Value.oneCell']) ?_; rw [World.setRow_alloc_new])
  refine wp_nm ?_
  intro W2 hW2
  have hb2 : Below w1.heap.size w1 W2 := by rw [hW2]; exact (Below.refl _ _).alloc (Nat.le_refl _) _
  have B2 := hidE (B1.out.trans (hb2.mono B1.out.size))
  clear hb2 hW2
  go_wp2_with fail
  refine bodyPost_ret (v := .tuple #[.slice none 0 0, .slice none 0 0, .bool false, .int .i64 R4]) (by simp [results, Tryz.results65, go_sem]) rfl ⟨two_none, B2.out⟩
 subst h0
 rw [if_pos rfl] at hm
 obtain ⟨b, o, c9, rfl, hw, hbl⟩ := hm
 have hq := HR.out
 rw [if_neg (by simp)] at hq
 obtain ⟨q1, q2, q3⟩ := HMZ.out rfl
 obtain ⟨q4, q5, q6, q7, q8⟩ := inv_strip q2
 have HRW := hidE (fun W (q : WAt W b ⟨x, o, c9, ar, cr⟩ F l) => regionW_any W b _ F l i s q q1 q3 q4 q5)
 have HTH := hidE (fun W (q : WAt W b ⟨x, o, c9, ar, cr⟩ F l) v => throughW_any W b _ F l i s v q q1 q4 q5)
 have HW := hidE hw
 obtain ⟨lo, hlo⟩ : ∃ v, lowE F l (ptS F i s) = v := ⟨_, rfl⟩
 obtain ⟨hi, hhi⟩ : ∃ v, highE F l (ptS F i s) = v := ⟨_, rfl⟩
 rw [hlo, hhi] at HRW hq
 rw [hlo, hhi]
 obtain ⟨⟨p1, p2, p3⟩, hp⟩ : ∃ p, cutP lo hi a c = p := ⟨_, rfl⟩
 rw [hp] at hq
 rw [hp]
 obtain ⟨⟨T1, t1⟩, hT1⟩ : ∃ t, thruL F l (ptS F i s) lo = t := ⟨_, rfl⟩
 obtain ⟨⟨T2, t2⟩, hT2⟩ : ∃ t, thruL F l (ptS F i s) hi = t := ⟨_, rfl⟩
 have HTL := hidE (fun W q => (by have := HTH.out W q lo; rw [hT1] at this; exact this))
 have HTR := hidE (fun W q => (by have := HTH.out W q hi; rw [hT2] at this; exact this))
 rw [hT1, hT2] at hq
 have HQ := hidE hq
 clear hq hlo hhi hp hT1 hT2 HTH q1 q2 q3 q4 q5 q6 q7 q8 hw hbl HR HMZ
 go_upto_region 2 with (refine wpList_store_row rfl 127 _ _ rfl w1.heap.size #[.int .i64 p1, .int .i64 p2, .int .i64 p3] rfl rfl 127 _ (heap_alloc_new _ _) (by kernel_rfl) rfl (by simp [Value.oneCell']) ?_; rw [World.setRow_alloc_new])
 refine wp_nm ?_
 intro W2 hW2
 have kz := rowc (show W2.heap[w1.heap.size]? = some (.cells #[.int .i64 p1, .int .i64 p2, .int .i64 p3] 127 (0,0)) by rw [hW2]; exact heap_alloc_new _ _)
 have hb2 : Below w1.heap.size w1 W2 := by rw [hW2]; exact (Below.refl _ _).alloc (Nat.le_refl _) _
 have B2 := hidE (B1.out.trans (hb2.mono B1.out.size))
 have X2 := hidE (blk_below hb2 (lt_of_block X1.out) X1.out)
 have W2A := hidE (HW.out.next hb2)
 clear hW2 hb2 X1 HW
 have hq := HQ.out
 by_cases z : p2 = 0
 ·subst z
  rw [if_pos rfl] at hq
  cases hq
  clear HQ
  go_wp2_with fail
  refine bodyPost_ret (v := .tuple #[.slice none 0 0, .slice none 0 0, .bool false, .int .i64 0]) (by simp [results, Tryz.results65, go_sem]) rfl ⟨two_none, B2.out⟩
 rw [if_neg z] at hq
 cases hq
 have z2 : (p2 == 0) = false := by simpa using z
 have ks := rowc X2.out
 clear z HQ
 go_wp2_with fail
 refine (cornerOf_any _ i s a c).mono ?_
 rintro e w3 ⟨rfl, hb3⟩
 have B3 := hidE (B2.out.trans (hb3.mono B2.out.size))
 have X3 := hidE (blk_below hb3 (lt_of_block X2.out) X2.out)
 have W3A := hidE (W2A.out.next hb3)
 clear hb3 ks kz X2 W2A
 go_wp2_with fail
 refine (HRW.out _ W3A.out).mono ?_
 rintro e w4 ⟨rfl, hb4⟩
 have B4 := hidE (B3.out.trans (hb4.mono B3.out.size))
 have X4 := hidE (blk_below hb4 (lt_of_block X3.out) X3.out)
 have W4A := hidE (W3A.out.next hb4)
 have ks := rowc X4.out
 clear hb4 X3 W3A HRW
 go_wp2_with fail
 refine (cornerOf_any _ i s a c).mono ?_
 rintro e w5 ⟨rfl, hb5⟩
 have B5 := hidE (B4.out.trans (hb5.mono B4.out.size))
 have X5 := hidE (blk_below hb5 (lt_of_block X4.out) X4.out)
 have W5A := hidE (W4A.out.next hb5)
 have HTL5 := hidE (HTL.out _ W5A.out)
 clear hb5 ks X4 W4A HTL
 go_wp2_with fail
 refine HTL5.out.mono ?_
 rintro e w6 ⟨⟨v1, rfl, ho1⟩, hb6⟩
 obtain ⟨a1, c1, rfl, hi1⟩ := owns_intsAt ho1
 have B6 := hidE (B5.out.trans (hb6.mono B5.out.size))
 have X6 := hidE (blk_below hb6 (lt_of_block X5.out) X5.out)
 have W6A := hidE (W5A.out.next hb6)
 have I6 := hidE hi1
 have ks := rowc X6.out
 obtain ⟨n1, hn1⟩ : ∃ n, R1.length = n := ⟨_, rfl⟩
 rw [show List.length R1 = n1 from hn1]
 have HN1 := hidE hn1
 clear hb6 X5 W5A HTL5 ho1 hi1 hn1
 go_wp2_with fail
 refine (cornerOf_any _ i s a c).mono ?_
 rintro e w7 ⟨rfl, hb7⟩
 have B7 := hidE (B6.out.trans (hb7.mono B6.out.size))
 have W7A := hidE (W6A.out.next hb7)
 have I7 := hidE (I6.out.below hb7 (Nat.le_refl _))
 have HTR7 := hidE (HTR.out _ W7A.out)
 clear hb7 ks X6 W6A I6 HTR
 go_wp2_with fail
 refine HTR7.out.mono ?_
 rintro e w8 ⟨⟨v2, rfl, ho2⟩, hb8⟩
 obtain ⟨a2, c2, rfl, hi2⟩ := owns_intsAt ho2
 have B8 := hidE (B7.out.trans (hb8.mono B7.out.size))
 have I8 := hidE (I7.out.below hb8 (Nat.le_refl _))
 have J8 := hidE hi2
 obtain ⟨n2, hn2⟩ : ∃ n, R2.length = n := ⟨_, rfl⟩
 rw [show List.length R2 = n2 from hn2]
 have HN2 := hidE hn2
 clear hb8 W7A HTR7 ho2 hi2 hn2 I7
 go_wp2_with fail
 refine bodyPost_ret (v := .tuple #[.slice a1 n1 c1, .slice a2 n2 c2, .bool true, .int .i64 0]) (by simp [results, Tryz.results65, go_sem]) rfl ⟨⟨a1, c1, a2, c2, ?_, I8.out, J8.out⟩, B8.out⟩
 rw [← HN1.out, ← HN2.out]
theorem shows_spec (F : Fld) (l : List Rcd) (i s a c : Int) :
 (showsE F l i s a c).2.2.2 = (partsE F l i s a c).2 ∧ (showsE F l i s a c).2.2.1 = decide (0 < (partsE F l i s a c).1.2.1) ∧
 ((showsE F l i s a c).2.2.1 = false → (showsE F l i s a c).1 = [] ∧ (showsE F l i s a c).2.1 = []) ∧
 ((showsE F l i s a c).2.2.1 = true → awardedE F l (showsE F l i s a c).1 i s a c = ((partsE F l i s a c).1.1, (partsE F l i s a c).1.2.1 + (partsE F l i s a c).1.2.2, 0) ∧
   awardedE F l (showsE F l i s a c).2.1 i s a c = ((partsE F l i s a c).1.1 + (partsE F l i s a c).1.2.1, (partsE F l i s a c).1.2.2, 0) ∧
   (0 ≤ (partsE F l i s a c).1.1 ∧ (partsE F l i s a c).1.1 ≤ 100000) ∧ (0 ≤ (partsE F l i s a c).1.2.1 ∧ (partsE F l i s a c).1.2.1 ≤ 100000) ∧ (0 ≤ (partsE F l i s a c).1.2.2 ∧ (partsE F l i s a c).1.2.2 ≤ 100000) ∧
   (showsE F l i s a c).1.length ≤ 128 ∧ (showsE F l i s a c).2.1.length ≤ 128) := by
 unfold showsE partsE
 by_cases q : matchE F l (flagE (stripB F i s a c)) = 0
 rotate_left
 ·rw [if_pos q, if_pos q]
  exact ⟨rfl, rfl, fun _ => ⟨rfl, rfl⟩, fun z => absurd z (by simp)⟩
 have q' : ¬ (matchE F l (flagE (stripB F i s a c)) ≠ 0) := by simpa using q
 rw [if_neg q', if_neg q']
 obtain ⟨q1, q2, q3⟩ := match_zero.1 q
 obtain ⟨q4, q5, q6, q7, q8⟩ := inv_strip q2
 have pb := ptS_bd q4 q5
 have eb := ends_bd q1 q3 pb.1 pb.2.1
 have sl := shows_law q1 q3 pb.1 pb.2.1 q7
 have op : 0 ≤ (cutP (lowE F l (ptS F i s)) (highE F l (ptS F i s)) a c).2.1 := by unfold cutP clampE; dsimp only; omega
 have o1 : 0 ≤ (cutP (lowE F l (ptS F i s)) (highE F l (ptS F i s)) a c).1 ∧ (cutP (lowE F l (ptS F i s)) (highE F l (ptS F i s)) a c).1 ≤ 100000 := by unfold cutP clampE; dsimp only; omega
 have o2 : (cutP (lowE F l (ptS F i s)) (highE F l (ptS F i s)) a c).2.1 ≤ 100000 := by unfold cutP clampE; dsimp only; omega
 have o3 : 0 ≤ (cutP (lowE F l (ptS F i s)) (highE F l (ptS F i s)) a c).2.2 ∧ (cutP (lowE F l (ptS F i s)) (highE F l (ptS F i s)) a c).2.2 ≤ 100000 := by unfold cutP clampE; dsimp only; omega
 by_cases z : (cutP (lowE F l (ptS F i s)) (highE F l (ptS F i s)) a c).2.1 = 0
 ·rw [if_pos z]
  refine ⟨rfl, ?_, fun _ => ⟨rfl, rfl⟩, fun z => absurd z (by simp)⟩
  dsimp only
  rw [z]
  rfl
 ·rw [if_neg z]
  refine ⟨rfl, ?_, fun z => absurd z (by simp), fun _ => ?_⟩
  ·symm
   exact decide_eq_true (by dsimp only; omega)
  ·dsimp only at sl ⊢
   obtain ⟨d1, d2, t1, t2, e1, e2, e3, e4⟩ := sl
   have hst : stripB F i s a c = true := by
    cases k : stripB F i s a c with
    | true => rfl
    | false => rw [k] at q2; exact absurd q2 (by decide)
   have hck : (checkE F l).2 = 0 := (check_iff F l).2 q1
   have aw : ∀ y, Drw F l y → awardedE F l y i s a c = ((cutP (y.getD (ptS F i s) 0) (y.getD (ptS F i s) 0) a c).1, (cutP (y.getD (ptS F i s) 0) (y.getD (ptS F i s) 0) a c).2.2, 0) := fun y hy => by
    unfold awardedE
    rw [if_neg (by rw [hck]; simp), if_neg (by rw [hst]; simp), if_neg (by rw [(drwB_iff q1).2 hy]; simp)]
   have pl := pt_le q1.fld
   rw [aw _ d1, aw _ d2, e1, e2, e3, e4]
   exact ⟨rfl, rfl, o1, ⟨op, o2⟩, o3, by rw [d1.len]; exact pl.2, by rw [d2.len]; exact pl.2⟩
set_option maxRecDepth 10000 in
set_option maxHeartbeats 8000000 in
theorem limitsShows_any (w : World) (x : FV) (F : Fld) (ar : Option Addr) (cr : Nat) (l : List Rcd) (i s a c : Int) (h : FldAt w x F) (hr : RcdsAt w ar l) (hn : l.length ≤ 9223372036854775807) (hd : ∀ r ∈ l, r.deed.size ≤ 9223372036854775807) (hk : ∀ r ∈ l, 0 ≤ r.call.kind ∧ r.call.kind ≤ 255) :
 Calls Tryz.prog 19 #[x.val F, .slice ar l.length cr, .agg #[.int .i64 i, .int .i64 s, .int .i64 a, .int .i64 c]] w fun e w' => e = .returned (.bool true) ∧ Below w.heap.size w w' := by
 obtain ⟨w0, hw0⟩ : ∃ W, W = (w.alloc (.cells (x.arr F) 27)).alloc (.cells #[.int .i64 i, .int .i64 s, .int .i64 a, .int .i64 c] 40) := ⟨_, rfl⟩
 have B0 := hidE (show Below w.heap.size w w0 by rw [hw0]; exact ((Below.refl _ _).alloc (Nat.le_refl _) _).alloc (by simp) _)
 have X0 := hidE (show Kb [(w.heap.size + 1, .cells #[.int .i64 i, .int .i64 s, .int .i64 a, .int .i64 c] 40), (w.heap.size, .cells (x.arr F) 27)] w0 by
  rw [hw0]
  have := Kb.alloc (o := .cells #[.int .i64 i, .int .i64 s, .int .i64 a, .int .i64 c] 40) (Kb.alloc (W := w) (o := .cells (x.arr F) 27) (L := []) trivial)
  simpa using this)
 have HF := hidE (fun W (hb : Below w0.heap.size w0 W) => (h.below B0.out).below hb)
 have HRR := hidE (fun W (hb : Below w0.heap.size w0 W) => (hr.below B0.out (Nat.le_refl _)).below hb (Nat.le_refl _))
 have HSM := hidE (smallL_any w0 x F ar cr l (h.below B0.out) (hr.below B0.out (Nat.le_refl _)) hn hd)
 have HSV := hidE (fun W => surveyed_any W)
 have HRC := hidE (fun (q : smallB F l = true) => And.intro (small_facts q) (small_recs q hk))
 obtain ⟨sm, hsm⟩ : ∃ b, smallB F l = b := ⟨_, rfl⟩
 rw [hsm] at HSM HRC
 have k0 := rowc X0.out.2.1
 have k1 := rowc X0.out.1
 unfold FV.arr at k0
 unfold FV.val FV.arr at HSM
 clear h hr hn hd hk hsm
 go_enter Tryz.func19, Tryz.ntmps19
 go_upto_region 1 with fail
 try unfold FV.val FV.arr
 rw [show (w.alloc (.cells #[.slice x.aS F.sts.length x.cS, .slice x.aL F.lms.length x.cL, .slice x.aP F.prs.length x.cP, .slice x.aV F.vrs.length x.cV] 27)).alloc (.cells #[.int .i64 i, .int .i64 s, .int .i64 a, .int .i64 c] 40) = w0 from hw0.symm]
 clear hw0
 go_wp2_with fail
 refine HSM.out.mono ?_
 rintro e w1 ⟨rfl, hb1⟩
 have BB1 := hidE hb1
 have X1 := hidE (X0.out.next hb1)
 clear hb1 k0 k1 HSM X0
 cases sm
 ·go_wp2_with fail
  refine (HSV.out _).mono ?_
  rintro e wz ⟨rfl, hbz⟩
  have BZ := hidE (B0.out.trans ((BB1.out.trans (hbz.mono BB1.out.size)).mono B0.out.size))
  clear hbz
  go_wp2_with fail
  go_ret
  exact ⟨rfl, BZ.out⟩
 obtain ⟨⟨⟨f1, f2, f3⟩, f4, f5⟩, hn5, hk5⟩ := HRC.out (by trivial)
 have HPA := hidE (fun W (hb : Below w0.heap.size w0 W) => partsL_any W x F ar cr l i s a c (HF.out W hb) (HRR.out W hb) hn5 hk5)
 have HSH := hidE (fun W (hb : Below w0.heap.size w0 W) => showsL_any W x F ar cr l i s a c (HF.out W hb) (HRR.out W hb) hn5 hk5)
 have HAW := hidE (fun W (hb : Below w0.heap.size w0 W) a9 c9 (z : List Int) (hz : z.length ≤ 9223372036854775807) (hi : IntsAt W a9 z) => awardedL_any W x F ar cr l i s a c (HF.out W hb) (HRR.out W hb) hn5 hk5 a9 c9 z hz hi)
 have HSP := hidE (shows_spec F l i s a c)
 obtain ⟨⟨⟨p1, p2, p3⟩, pe⟩, hp⟩ : ∃ p, partsE F l i s a c = p := ⟨_, rfl⟩
 obtain ⟨⟨T1, T2, is, se⟩, hs⟩ : ∃ p, showsE F l i s a c = p := ⟨_, rfl⟩
 rw [hp] at HPA HSP
 rw [hs] at HSH HSP
 obtain ⟨e1, e2, e3, e4⟩ := HSP.out
 dsimp only at e1 e2 e3 e4
 subst e1
 have HAL := hidE (fun (q : is = true) W (hb : Below w0.heap.size w0 W) a9 c9 (hi : IntsAt W a9 T1) => (by
  have := HAW.out W hb a9 c9 T1 (by have := (e4 q).2.2.2.2.2.1; omega) hi
  rw [(e4 q).1] at this
  exact this))
 have HAR := hidE (fun (q : is = true) W (hb : Below w0.heap.size w0 W) a9 c9 (hi : IntsAt W a9 T2) => (by
  have := HAW.out W hb a9 c9 T2 (by have := (e4 q).2.2.2.2.2.2; omega) hi
  rw [(e4 q).2.1] at this
  exact this))
 have HE2 := hidE e2
 have HE3 := hidE e3
 have HE4 := hidE (fun (q : is = true) => (e4 q).2.2)
 obtain ⟨n1, hn1⟩ : ∃ n, T1.length = n := ⟨_, rfl⟩
 obtain ⟨n2, hn2⟩ : ∃ n, T2.length = n := ⟨_, rfl⟩
 rw [hn1] at HAL
 rw [hn2] at HAR
 have HN1 := hidE hn1
 have HN2 := hidE hn2
 clear hp hs HSP e2 e3 e4 HAW hn1 hn2 f1 f2 f3 f4 f5 hn5 hk5 HRC HF HRR
 have k0 := rowc X1.out.2.1
 have k1 := rowc X1.out.1
 unfold FV.arr at k0
 have HC := hidE (HPA.out w1 BB1.out)
 try unfold FV.val FV.arr at HC
 go_wp2_with fail
 refine HC.out.mono ?_
 rintro e w2 ⟨rfl, hb⟩
 have BB2 := hidE (BB1.out.trans (hb.mono BB1.out.size))
 have X2 := hidE (X1.out.next hb)
 clear hb k0 k1 HC BB1 X1 HPA
 have k0 := rowc X2.out.2.1
 have k1 := rowc X2.out.1
 unfold FV.arr at k0
 have HC := hidE (HSH.out w2 BB2.out)
 try unfold FV.val FV.arr at HC
 go_wp2_with fail
 refine HC.out.mono ?_
 rintro e w3 ⟨⟨a1, c1, a2, c2, rfl, i1, i2⟩, hb⟩
 have BB3 := hidE (BB2.out.trans (hb.mono BB2.out.size))
 have X3 := hidE (X2.out.next hb)
 have LA3 := hidE i1
 have LB3 := hidE i2
 simp only [HN1.out, HN2.out]
 clear hb k0 k1 HC BB2 X2 HSH i1 i2
 have he2 := HE2.out
 cases is
 ·obtain ⟨z1, z2⟩ := HE3.out (by trivial)
  have y1 : n1 = 0 := by rw [← HN1.out, z1]; rfl
  have y2 : n2 = 0 := by rw [← HN2.out, z2]; rfl
  subst y1 y2
  have d1 : decide (0 < p2) = false := he2.symm
  clear he2 z1 z2
  go_wp2_with fail
  refine (HSV.out _).mono ?_
  rintro e wz ⟨rfl, hbz⟩
  have BZ := hidE (B0.out.trans ((BB3.out.trans (hbz.mono BB3.out.size)).mono B0.out.size))
  clear hbz
  go_wp2_with fail
  go_ret
  exact ⟨rfl, BZ.out⟩
 have d1 : decide (0 < p2) = true := he2.symm
 obtain ⟨b1, b2, b3, -, -⟩ := HE4.out (by trivial)
 have w1' : IntKind.i64.wrap (p2 + p3) = p2 + p3 := IntWalk.i64_in _ (by omega)
 have w2' : IntKind.i64.wrap (p1 + p2) = p1 + p2 := IntWalk.i64_in _ (by omega)
 clear he2 b1 b2 b3
 have k0 := rowc X3.out.2.1
 have k1 := rowc X3.out.1
 unfold FV.arr at k0
 have HC := hidE (HAL.out (by trivial) w3 BB3.out a1 c1 LA3.out)
 try unfold FV.val FV.arr at HC
 go_wp2_with fail
 refine HC.out.mono ?_
 rintro e w4 ⟨rfl, hb⟩
 have BB4 := hidE (BB3.out.trans (hb.mono BB3.out.size))
 have X4 := hidE (X3.out.next hb)
 have LA4 := hidE (LA3.out.below hb (Nat.le_refl _))
 have LB4 := hidE (LB3.out.below hb (Nat.le_refl _))
 clear hb k0 k1 HC BB3 X3 LA3 LB3 HAL
 have k0 := rowc X4.out.2.1
 have k1 := rowc X4.out.1
 unfold FV.arr at k0
 have HC := hidE (HAR.out (by trivial) w4 BB4.out a2 c2 LB4.out)
 try unfold FV.val FV.arr at HC
 go_wp2_with fail
 refine HC.out.mono ?_
 rintro e w5 ⟨rfl, hb⟩
 have BB5 := hidE (BB4.out.trans (hb.mono BB4.out.size))
 have X5 := hidE (X4.out.next hb)
 have LA5 := hidE (LA4.out.below hb (Nat.le_refl _))
 have LB5 := hidE (LB4.out.below hb (Nat.le_refl _))
 clear hb k0 k1 HC BB4 X4 LA4 LB4 HAR
 go_wp2_with fail
 refine (HSV.out _).mono ?_
 rintro e wz ⟨rfl, hbz⟩
 have BZ := hidE (B0.out.trans ((BB5.out.trans (hbz.mono BB5.out.size)).mono B0.out.size))
 clear hbz
 go_wp2_with fail
 go_ret
 exact ⟨rfl, BZ.out⟩
end Go.Proofs.YtkhemfnlflbniaaGreatDoor
namespace Go.Proofs.YtkhemfnlflbniaaGreatDoor
open Go Go.ChangeShapes Go.WideShapes Go.ChangeAt Go.RowKit Go.Joins Go.Deep
theorem and2 {a b : Bool} (ha : a = true) (hb : b = true) : (a && b) = true := by rw [ha, hb]; rfl
section
variable {H : Type} {enc : TypeId × Value → H}
theorem trodAll_below {W W' : World} (hb : Below W.heap.size W W') : ∀ (ts : List TypeId) (vs : List Value) (ds : List (DataW H)) (ps : List MemPlace), (∀ t ∈ ts, ArgOk t) → DataW.TrodAll enc Tryz.prog W 0 (fun _ => true) true ts vs ds ps →
 (∀ x ∈ ps, x.block < W.heap.size) → DataW.TrodAll enc Tryz.prog W' 0 (fun b => decide (b < W.heap.size)) true ts vs ds ps
 | [], vs, ds, ps, _, h, _ => by
   obtain ⟨rfl, rfl, rfl⟩ := trodAll_nil h
   exact trodAll_mk0
 | t :: ts, vs, ds, ps, hT, h, hs => by
   obtain ⟨v, vs', d, ds', p, q, rfl, rfl, rfl, h1, h2⟩ := trodAll_cons h
   have ht := hT t (List.mem_cons_self ..)
   exact trodAll_cons_mk (Below.trod Tryz.laidOut ht.1 ht.2 h1 hb (fun x hx => hs x (List.mem_append_left _ hx))) (trodAll_below hb ts vs' ds' q (fun x hx => hT x (List.mem_cons_of_mem _ hx)) h2 (fun x hx => hs x (List.mem_append_right _ hx)))
theorem law_post {f : Func} {s : ChangeSpec} {W W' : World} {args : Array Value} {ds gs : List (DataW H)} {before : List MemPlace}
 (hW : DataW.Whole enc Tryz.prog f.params.toList s.vars false W args.toList ds gs before) (hb : Below W.heap.size W W') (hrt : f.resultTypes = #[4])
 (hts : ∀ t ∈ f.params.toList, ArgOk t) (hsv : s.vars = []) (hfn : s.fn H (ds ++ []) = { results := [.lit (.bool true)], args := ds }) :
 s.post enc Tryz.prog f false true false false W args (.bool true) W' := by
 have hW' := hW
 obtain ⟨p, q, hA, hV, rfl, hfz, hnd⟩ := hW
 have hV' := hV
 rw [hsv] at hV'
 obtain ⟨rfl, rfl⟩ := trodVars_none hV'
 have hlt : ∀ x ∈ p, x.block < W.heap.size := fun x hx => by
  have := hW'.lt x
  exact this (List.mem_append_left _ hx)
 refine ⟨ds, [], p ++ [], [], p, [], hW', ?_, ?_, ?_, hb.frame _, fun h => by cases h⟩
 ·rw [hfn, hrt]
  exact trodAll_cons_mk (shut_bool Tryz.underlying4 _) trodAll_mk0
 ·rw [hfn]
  exact trodAll_below hb _ _ _ _ hts hA hlt
 ·rw [hfn, hsv]
  rfl
end
theorem argOk46 : ArgOk 27 := ⟨by kernel_rfl, of_decide_eq_true (by kernel_rfl)⟩
section
variable {H : Type} {enc : TypeId × Value → H}
theorem sta_trod {W : World} {n : Nat} {cs : List Value} {y : DataW H × List MemPlace} (hl : cs.length = 2) (h : DataW.trod enc Tryz.prog W 0 (fun _ => true) true n 131 cs = some y) : ∃ s : Sta, cs = s.cells ∧ s.name.size ≤ 9223372036854775807 ∧ i64ok s.x := by
 have c9 : Tryz.prog.cellsOf 9 = 1 := by kernel_rfl
 have c3 : Tryz.prog.cellsOf 3 = 1 := by kernel_rfl
 match cs, hl with
 | [u0, u1], _ =>
   obtain ⟨ys, n2, _, _, _, hyl, hf⟩ := DataW.trod_struct Tryz.underlying131 h
   match ys, hyl with
   | [y0, y1], _ =>
     have f0 : DataW.trod enc Tryz.prog W 0 (fun _ => true) true n2 9 (([u0, u1].drop 0).take (Tryz.prog.cellsOf 9)) = some y0 := hf 0 _ rfl
     have f1 : DataW.trod enc Tryz.prog W 0 (fun _ => true) true n2 3 (([u0, u1].drop 1).take (Tryz.prog.cellsOf 3)) = some y1 := hf 1 _ rfl
     rw [c9] at f0
     rw [c3] at f1
     obtain ⟨k0, rfl, o0⟩ := str_cell (v := u0) (y := y0) f0
     obtain ⟨k1, rfl, o1⟩ := int_cell (v := u1) (y := y1) f1
     exact ⟨⟨k0, k1⟩, rfl, o0, o1⟩
theorem par_trod {W : World} {n : Nat} {cs : List Value} {y : DataW H × List MemPlace} (hl : cs.length = 4) (h : DataW.trod enc Tryz.prog W 0 (fun _ => true) true n 133 cs = some y) : ∃ s : Par, cs = s.cells ∧ s.name.size ≤ 9223372036854775807 ∧ i64ok s.south ∧ i64ok s.wst ∧ i64ok s.est := by
 have c9 : Tryz.prog.cellsOf 9 = 1 := by kernel_rfl
 have c3 : Tryz.prog.cellsOf 3 = 1 := by kernel_rfl
 match cs, hl with
 | [u0, u1, u2, u3], _ =>
   obtain ⟨ys, n2, _, _, _, hyl, hf⟩ := DataW.trod_struct Tryz.underlying133 h
   match ys, hyl with
   | [y0, y1, y2, y3], _ =>
     have f0 : DataW.trod enc Tryz.prog W 0 (fun _ => true) true n2 9 (([u0, u1, u2, u3].drop 0).take (Tryz.prog.cellsOf 9)) = some y0 := hf 0 _ rfl
     have f1 : DataW.trod enc Tryz.prog W 0 (fun _ => true) true n2 3 (([u0, u1, u2, u3].drop 1).take (Tryz.prog.cellsOf 3)) = some y1 := hf 1 _ rfl
     have f2 : DataW.trod enc Tryz.prog W 0 (fun _ => true) true n2 3 (([u0, u1, u2, u3].drop 2).take (Tryz.prog.cellsOf 3)) = some y2 := hf 2 _ rfl
     have f3 : DataW.trod enc Tryz.prog W 0 (fun _ => true) true n2 3 (([u0, u1, u2, u3].drop 3).take (Tryz.prog.cellsOf 3)) = some y3 := hf 3 _ rfl
     rw [c9] at f0
     rw [c3] at f1 f2 f3
     obtain ⟨k0, rfl, o0⟩ := str_cell (v := u0) (y := y0) f0
     obtain ⟨k1, rfl, o1⟩ := int_cell (v := u1) (y := y1) f1
     obtain ⟨k2, rfl, o2⟩ := int_cell (v := u2) (y := y2) f2
     obtain ⟨k3, rfl, o3⟩ := int_cell (v := u3) (y := y3) f3
     exact ⟨⟨k0, k1, k2, k3⟩, rfl, o0, o1, o2, o3⟩
theorem vrn_trod {W : World} {n : Nat} {cs : List Value} {y : DataW H × List MemPlace} (hl : cs.length = 2) (h : DataW.trod enc Tryz.prog W 0 (fun _ => true) true n 253 cs = some y) : ∃ s : Vrn, cs = s.cells ∧ i64ok s.year ∧ i64ok s.east := by
 have c3 : Tryz.prog.cellsOf 3 = 1 := by kernel_rfl
 match cs, hl with
 | [u0, u1], _ =>
   obtain ⟨ys, n2, _, _, _, hyl, hf⟩ := DataW.trod_struct Tryz.underlying253 h
   match ys, hyl with
   | [y0, y1], _ =>
     have f0 : DataW.trod enc Tryz.prog W 0 (fun _ => true) true n2 3 (([u0, u1].drop 0).take (Tryz.prog.cellsOf 3)) = some y0 := hf 0 _ rfl
     have f1 : DataW.trod enc Tryz.prog W 0 (fun _ => true) true n2 3 (([u0, u1].drop 1).take (Tryz.prog.cellsOf 3)) = some y1 := hf 1 _ rfl
     rw [c3] at f0 f1
     obtain ⟨k0, rfl, o0⟩ := int_cell (v := u0) (y := y0) f0
     obtain ⟨k1, rfl, o1⟩ := int_cell (v := u1) (y := y1) f1
     exact ⟨⟨k0, k1⟩, rfl, o0, o1⟩
set_option maxRecDepth 100000 in
theorem open_fld {b0 : Nat} {W : World} {v : Value} {d : DataW H} {p : List MemPlace} (hv : Value.okWide Tryz.prog W .any b0 27 v) (h : DataW.Trod enc Tryz.prog W 0 (fun _ => true) true 27 v d p) :
 ∃ (x : FV) (F : Fld), v = x.val F ∧ FldAt W x F := by
 obtain ⟨v0, v1, v2, v3, y0, y1, y2, y3, n, rfl, _, _, h0, h1, h2, h3⟩ := open_agg4 Tryz.underlying27 (by kernel_rfl) (by kernel_rfl) hv h
 obtain ⟨aS, cS, sts, e0, r0, l0, k0⟩ := recs_trod (k := 2) (f := Sta.cells) (by omega) Tryz.underlying22 (by kernel_rfl) (fun n cs y hl hh => sta_trod hl hh) h0
 obtain ⟨aL, cL, lms, e1, r1, l1, k1⟩ := recs_trod (k := 1) (f := strCells) (by omega) Tryz.underlying23 (by kernel_rfl) (fun n cs y hl hh => by
  match cs, hl with
  | [u], _ =>
    obtain ⟨s, rfl, hs⟩ := str_cell hh
    exact ⟨s, rfl, hs⟩) h1
 obtain ⟨aP, cP, prs, e2, r2, l2, k2⟩ := recs_trod (k := 4) (f := Par.cells) (by omega) Tryz.underlying24 (by kernel_rfl) (fun n cs y hl hh => par_trod hl hh) h2
 obtain ⟨aV, cV, vrs, e3, r3, l3, k3⟩ := recs_trod (k := 2) (f := Vrn.cells) (by omega) Tryz.underlying25 (by kernel_rfl) (fun n cs y hl hh => vrn_trod hl hh) h3
 simp only [List.cons.injEq, and_true] at e0 e1 e2 e3
 subst e0 e1 e2 e3
 refine ⟨⟨aS, cS, aL, cL, aP, cP, aV, cV⟩, ⟨sts, lms, prs, vrs⟩, rfl, r0, r1, r2, r3, l0, l1, l2, l3, ?_, fun s hs => (k0 s hs).2, fun s hs => (k2 s hs).2, k3⟩
 intro l hl s hs
 simp only [Fld.names, List.mem_cons, List.not_mem_nil, or_false] at hl
 rcases hl with rfl | rfl | rfl
 ·obtain ⟨t, ht, rfl⟩ := List.mem_map.1 hs
  exact (k0 t ht).1
 ·exact k1 s hs
 ·obtain ⟨t, ht, rfl⟩ := List.mem_map.1 hs
  exact (k2 t ht).1
end
end Go.Proofs.YtkhemfnlflbniaaGreatDoor
