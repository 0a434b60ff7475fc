/- Merged text 2 of the base: Wh, PureE, PureF, PlA, PlB, PlC, PlD. No conditions beyond those stated. -/
import Derived.Test.YtkhemfnlflbniaaGreatDoorB01
import Derived.Deep.LoopGhost
import Derived.Deep.WholeRow
import Derived.Deep.OwnRows
import Derived.StillTailTactics
namespace Go.Proofs.YtkhemfnlflbniaaGreatDoor
open Go Go.RowKit Go.Shelf
attribute [local go_sem] Oper.semAt_some
theorem Tryz.info59 : (Tryz.prog.info? 59).map (fun i => (i.zero, i.size, i.bytes)) = some (some (.slice none 0 0), 1, 24) := by kernel_rfl
theorem Tryz.info65 : (Tryz.prog.info? 65).map (fun i => (i.zero, i.size, i.bytes)) = some (some (.agg #[.int .i64 0, .int .i64 0, .int .i64 0, .int .i64 0]), 4, 32) := by kernel_rfl
set_option maxRecDepth 100000 in
set_option maxHeartbeats 2000000 in
theorem distances_any (w : World) (bn R : Nat) (a : Option Addr) (cap : Nat) (bs : List Bd) (h : List Int) (ai : Nat) (tf : FuncId) (caps : Array Value) (t : Nat → Bool) (hR0 : 1 ≤ R) (hR1 : R ≤ 128) (hl : bs.length ≤ 4000)
 (hB : BoundsAt w a bs) (hv : ∀ b ∈ bs, b.valid R) (hn : w.heap[bn]? = some (.cells (netA R (.slice a bs.length cap) h) 265 (0,0))) (hh : h.length = 128) (hlow : LowBy 520000 h) (hpot : Pot h bs) (ha : ai < R)
 (hT : TestsIdx Tryz.prog tf caps (· < w.heap.size) w bs.length t) (eg : Enters Tryz.prog tf) :
 Calls Tryz.prog 191 #[.pointer (some ⟨bn, 0, none⟩), .int .i64 ai, .func (.func tf) #[] caps] w fun e w' => e = .returned (.agg (rowA (distP R h (selB bs (passes t bs.length)) ai))) ∧ Below w.heap.size w w' := by
 have i94 : Hid ((Tryz.prog.info? 189).map (·.size) = some 128) := hidE (by kernel_rfl)
 have H := hidE hB
 have HV := hidE hv
 have HN := hidE hn
 have HH := hidE hh
 have HL := hidE hlow
 have HP := hidE hpot
 have HT := hidE hT
 have EG := hidE eg
 clear hB hv hn hh hlow hpot hT eg
 refine (callsIn_wide (n := 8)).1 (callsIn_of_wp_marks Tryz.func191 rfl trivial (wpIn_wide.2 ?_) rfl)
 simp only [Tryz.ntmps191, List.size_toArray, List.length_cons, List.length_nil, Nat.reduceAdd, Nat.reduceSub, Array.replicate_succ, Array.replicate_zero, List.push_toArray, List.append_toArray, List.nil_append, List.cons_append]
 go_wp2_with fail
 refine (filled_any _ _).mono ?_
 rintro e w1 ⟨rfl, hb1⟩
 have hbB := blk_below hb1 (by simp) (heap_alloc_new w (.cells Tryz.zeroCells189 189))
 rw [zc94] at hbB
 have HBB := hidE hbB
 have B1 := hidE (((Below.refl w.heap.size w).alloc (Nat.le_refl _) (.cells Tryz.zeroCells189 189)).trans (hb1.mono (by simp)))
 have hs1 : w.heap.size < w1.heap.size := lt_of_block hbB
 have hN1 := blk_below B1.out (lt_of_block HN.out) HN.out
 have e0 : w1.cell? ⟨bn, 0, none⟩ = some (.int .i64 R) := c_e hN1 rfl
 have e1 : w1.cell? ⟨bn, 1, none⟩ = some (.slice a bs.length cap) := c_e hN1 rfl
 have hbn := lt_of_block HN.out
 clear hbB hN1 hb1
 have hbn1 : bn < w1.heap.size := by omega
 have hbn2 : bn < w1.heap.size + 1 := by omega
 have hbn3 : bn < w1.heap.size + 1 + 1 := by omega
 have hst : (w1.alloc (.cells Tryz.zeroCells189 189)).heap[w1.heap.size]? = some (.cells (rowA (rep128 0)) 189 (0,0)) := by rw [zc94]; exact heap_alloc_new _ _
 have HST := hidE hst
 clear hst
 have hmk := fun W => run_make_row' (P := Tryz.prog) 263 59 (.slice none 0 0) 24 Tryz.underlying263 Tryz.info59 rfl .i64 .i64 R (by omega) (by omega) W
 go_wp2_with (first
  | (refine wpList_store_row rfl 189 _ _ rfl _ _ rfl rfl 189 _ HST.out (by rw [rowA_size]; simpa [rep128_length] using i94.out) (by rw [rowA_size, rowA_size]; simp [rep128_length]) (intsV_one _) ?_; rw [World.setRow_alloc_new])
  | (go_at_call 228; refine (edges_any _ _ _ _ _ _).mono ?_; rintro e w' ⟨rfl, rfl⟩))
 obtain ⟨W0, hW0⟩ : ∃ W0, W0 = ((((w1.alloc (Obj.cells (rowA (rep128 1125899906842624)) 189)).alloc (Obj.cells (madeCells #[Value.slice none 0 0] R) 59)).alloc (Obj.cells #[Value.slice (some ⟨w1.heap.size + 1, 0, none⟩) R R] 263)).alloc (Obj.cells #[Value.slice a bs.length cap] 59)).alloc (Obj.cells #[Value.func (Fn.func tf) #[] caps] 187) := ⟨_, rfl⟩
 rw [← hW0]
 have z0 : W0.heap.size = w1.heap.size + 5 := by rw [hW0]; simp
 have o7 : W0.heap[w1.heap.size]? = some (.cells (rowA (rep128 farI)) 189 (0,0)) := by rw [hW0, Below.heap_alloc _ _ _ (by simp only [World.size_alloc]; omega), Below.heap_alloc _ _ _ (by simp only [World.size_alloc]; omega), Below.heap_alloc _ _ _ (by simp only [World.size_alloc]; omega), Below.heap_alloc _ _ _ (by simp only [World.size_alloc]; omega), heap_alloc_at _ _ _ (by simp only)]; rfl
 have oN : W0.heap[w1.heap.size + 1]? = some (.cells (List.replicate R (.slice none 0 0)).toArray 59 (0,0)) := by rw [hW0, Below.heap_alloc _ _ _ (by simp only [World.size_alloc]; omega), Below.heap_alloc _ _ _ (by simp only [World.size_alloc]; omega), Below.heap_alloc _ _ _ (by simp only [World.size_alloc]; omega), heap_alloc_at _ _ _ (by simp only [World.size_alloc])]; rw [← toList_madeCells_one]
 have oB : W0.heap[w1.heap.size + 2]? = some (.cells #[.slice (some ⟨w1.heap.size + 1, 0, none⟩) R R] 263 (0,0)) := by rw [hW0, Below.heap_alloc _ _ _ (by simp only [World.size_alloc]; omega), Below.heap_alloc _ _ _ (by simp only [World.size_alloc]; omega), heap_alloc_at _ _ _ (by simp only [World.size_alloc])]
 have o3' : W0.heap[w1.heap.size + 3]? = some (.cells #[.slice a bs.length cap] 59 (0,0)) := by rw [hW0, Below.heap_alloc _ _ _ (by simp only [World.size_alloc]; omega), heap_alloc_at _ _ _ (by simp only [World.size_alloc])]
 have o4' : W0.heap[w1.heap.size + 4]? = some (.cells #[.func (.func tf) #[] caps] 187 (0,0)) := by rw [hW0, heap_alloc_at _ _ _ (by simp only [World.size_alloc])]
 have o3 : W0.cell? ⟨w1.heap.size + 3, 0, none⟩ = some (.slice a bs.length cap) := cell_of_one o3'
 have o4 : W0.cell? ⟨w1.heap.size + 4, 0, none⟩ = some (.func (.func tf) #[] caps) := cell_of_one o4'
 have b01 : Below w1.heap.size w1 W0 := by rw [hW0]; go_grown
 clear hW0 e0 e1 hmk HST
 have b00 : Below w.heap.size w W0 := B1.out.trans (b01.mono (by omega))
 have oR : W0.heap[w.heap.size]? = some (.cells (rowA (rep128 0)) 189 (0,0)) := blk_below b01 hs1 HBB.out
 have hB0 : BoundsAt W0 a bs := H.out.below b00 (Nat.le_refl _)
 have hT0 : TestsIdx Tryz.prog tf caps (fun b => b < w.heap.size ∨ b = w1.heap.size + 3 ∨ b = w1.heap.size + 4) W0 bs.length t :=
  fun k hk W hkp => HT.out k hk W ⟨Nat.le_trans b00.size hkp.size, fun b hb => (hkp.same b (.inl hb)).trans (b00.block b hb)⟩
 refine wp_rangeEdges (w1.heap.size + 3) (w1.heap.size + 4) (fun b => b < w.heap.size ∨ b = w1.heap.size + 3 ∨ b = w1.heap.size + 4) a cap bs tf caps t rfl hl hB0 hT0 EG.out
  (by intro b hb; omega) (.inr (.inl rfl)) (.inr (.inr rfl)) ?fa o3 o4
  (fun pre W => ∃ vs, NearAt W (w1.heap.size + 5) (w1.heap.size + 1) vs (nearP R (selB bs (pre.map (·.1)))) ∧ W.heap[w1.heap.size]? = some (.cells (rowA (rep128 farI)) 189 (0,0)) ∧
   W.heap[w1.heap.size + 2]? = some (.cells #[.slice (some ⟨w1.heap.size + 1, 0, none⟩) R R] 263 (0,0)) ∧ W.heap[w.heap.size]? = some (.cells (rowA (rep128 0)) 189 (0,0)) ∧ Below w.heap.size w W ∧ W0.heap.size ≤ W.heap.size)
  (fun _ _ _ => False) ?own (fun c s W W' row h => h.elim) ?start (fun pre W h => by obtain ⟨_, _, _, _, _, _, h⟩ := h; exact h)
  (fun Bx W => w1.heap.size + 1 < W.heap.size ∧ ∀ vs : Array Value, W.heap[w1.heap.size + 1]? = some (.cells vs 59 (0,0)) → ∀ v ∈ vs, v.ownBlock ≠ some Bx) ?fr ?fr0
  (fun T x Bx => ((T.setIfInBounds 31 (.int .i64 (x.1 : Int))).setIfInBounds 32 (bs[x.1]'x.2.1).val).setIfInBounds 10 (.pointer (some ⟨Bx, 0, none⟩)))
  ?assign ?body ?done (fun _ _ _ _ _ _ h => h.elim)
 case fa =>
  intro x hx h0
  subst hx
  rcases H.out with e | ⟨b, off, e, hbl, _⟩
  ·subst e; simp at h0
  ·cases e; exact .inl hbl
 case own =>
  rintro pre W W' row ⟨vs, hn, h1, h2, h3, hb, hs⟩ hg hr
  have nb : ∀ (k : Nat) (c : Array Value) (ty : TypeId), W.heap[k]? = some (Obj.cells c ty (0,0)) → W'.heap[k]? = some (Obj.cells c ty (0,0)) := by
   intro k c ty hk
   rw [hg.block k (lt_of_block hk) ?_]
   ·exact hk
   ·intro e
    obtain ⟨_, o, ho, hi⟩ := hr k e.symm
    rw [hk] at ho
    cases ho
    simp [Obj.isCells] at hi
  exact ⟨vs, hn.keeps hg (fun r e => (hr r e).2), nb _ _ _ h1, nb _ _ _ h2, nb _ _ _ h3, hb.grown hg (by omega) (fun k e => by have := (hr k e).1; omega), Nat.le_trans hs hg.size⟩
 case fr =>
  rintro Bx _ W W' row ⟨hlt, hv⟩ hg hr
  have e : W'.heap[w1.heap.size + 1]? = W.heap[w1.heap.size + 1]? := hg.block _ hlt (fun e => by have := (hr _ e.symm).1; omega)
  exact ⟨Nat.lt_of_lt_of_le hlt hg.size, fun vs hvs => hv vs (by rw [← e]; exact hvs)⟩
 case fr0 =>
  rintro pre W o ⟨vs, hn, h1, h2, h3, hb, hs⟩
  have hl := lt_of_block hn.blk
  refine ⟨by simp; omega, fun vs' hvs v hv => ?_⟩
  rw [Below.heap_alloc _ _ _ hl, hn.blk] at hvs
  cases hvs
  simp only [List.mem_toArray] at hv
  obtain ⟨p, hp, e⟩ := List.getElem_of_mem hv
  have hp' : p < (nearP R (selB bs (pre.map (·.1)))).length := by rw [← hn.len]; exact hp
  have ho := hn.own p hp'
  intro eb
  rw [List.getD_eq_getElem?_getD, List.getElem?_eq_getElem hp, Option.getD_some, e] at ho
  have := (ho.lt _ eb).2
  omega
 case start => exact ⟨_, by rw [List.map_nil, show selB bs [] = [] from rfl, nearP_nil]; exact NearAt.made oN (by omega), o7, oB, oR, b00, Nat.le_refl _⟩
 case assign =>
  intro l x W K hK
  simp only [s_a, s_b, s_c, Bd.val] at hK ⊢
  gi_wp2
  exact hK
 case body =>
  rintro l pre x Bx W hle ⟨r, hlp⟩ ⟨vs, hn, h1, h2, h3, hb, hs⟩ hBx hc ⟨_, hfr⟩ hlen
  simp only [s_a, s_b, s_c, Bd.val]
  have hmem : bs[x.1]'x.2.1 ∈ bs := List.getElem_mem _
  have hsel : selB bs ((pre ++ [x]).map (·.1)) = selB bs (pre.map (·.1)) ++ [bs[x.1]'x.2.1] := by
   rw [List.map_append, selB_append]; simp [selB, x.2.1]
  obtain ⟨y, hy⟩ : ∃ y, bs[x.1]'x.2.1 = y := ⟨_, rfl⟩
  rw [hy] at hmem hc hsel ⊢
  obtain ⟨v1, v2, v3, v4, v5, v6⟩ := HV.out y hmem
  obtain ⟨ys, yd, ym, yr⟩ := y
  simp only at v1 v2 v3 v4 v5 v6
  obtain ⟨si, rfl⟩ := Int.eq_ofNat_of_zero_le v1
  obtain ⟨rows, hrows⟩ : ∃ rows, nearP R (selB bs (pre.map (·.1))) = rows := ⟨_, rfl⟩
  have hrl : rows.length = R := by rw [← hrows, nearP_length]
  rw [hrows] at hn
  have hnew : nearP R (selB bs ((pre ++ [x]).map (·.1))) = rows.set si (rows.getD si [] ++ [⟨si, yd, ym, yr⟩]) := by rw [hsel, nearP_snoc rfl (by omega), hrows]
  have HNEW := hidE hnew
  have HSEL := hidE hsel
  have HROWS := hidE hrows
  have HNR := hidE hn
  have HY := hidE hy
  clear hnew hsel hrows hy hmem
  obtain ⟨vv, hvv⟩ : ∃ vv, vs.getD si .nilFunc = vv := ⟨_, rfl⟩
  have hsl : si < rows.length := by omega
  have hown := hn.own si hsl
  have hsv : si < vs.length := by rw [hn.len]; omega
  have hvm : vs[si]? = some vv := by rw [← hvv, List.getD_eq_getElem?_getD, List.getElem?_eq_getElem hsv]; rfl
  have hvBx : vv.ownBlock ≠ some Bx := hfr vs.toArray hn.blk vv (by simp only [List.mem_toArray]; exact List.mem_of_getElem? hvm)
  rw [hvv] at hown
  have hWg : w1.heap.size + 1 < W.heap.size := lt_of_block hn.blk
  have hvg : ∀ b, vv.ownBlock = some b → w1.heap.size + 5 ≤ b := fun b e => (hown.lt b e).1
  obtain ⟨i0, hi, hz0, hz1, hz2⟩ := info_parts Tryz.info65
  have hrn : (rows.getD si []).length ≤ 4000 := by
   rw [← HROWS.out, nearP_get (by omega)]
   have := List.length_filter_le (fun b : Bd => b.src == (si : Int)) (selB bs (pre.map (·.1)))
   simp only [selB, List.length_map] at this
   simp only [selB]
   omega
  have hone : ∀ u ∈ [Value.int .i64 (si : Int), .int .i64 yd, .int .i64 ym, .int .i64 yr], u.oneCell' = true := by intro u hu; simp at hu; rcases hu with rfl | rfl | rfl | rfl <;> rfl
  have hnews : ∀ j u, [Value.int .i64 (si : Int), .int .i64 yd, .int .i64 ym, .int .i64 yr][j]? = some u → ((W.alloc (Obj.cells #[.int .i64 si, .int .i64 yd, .int .i64 ym, .int .i64 yr] 65)).drew).cell? ((⟨W.heap.size, 0, none⟩ : Addr).add j) = some u := by
   intro j u hj
   rw [show ((⟨W.heap.size, 0, none⟩ : Addr).add j) = ⟨W.heap.size, 0 + j, none⟩ from by unfold Addr.add; split <;> simp_all]
   show (W.alloc _).cell? _ = _
   rw [cell_of_row _ _ _ _ _ _ (heap_alloc_new W _), Nat.zero_add]
   simpa using hj
  obtain ⟨v', wa, hrun, hown', hgrow, _, hblk⟩ := run_append_own_at (P := Tryz.prog) ((W.alloc (Obj.cells #[.int .i64 si, .int .i64 yd, .int .i64 ym, .int .i64 yr] 65)).drew) (w1.heap.size + 5) 59 59 65 i0 _ 4 32 Tryz.underlying59 hi hz0 hz1 hz2 rfl (by decide) vv _ _
   ((hown.alloc _).drew) ⟨W.heap.size, 0, none⟩ 1 1 [.int .i64 si, .int .i64 yd, .int .i64 ym, .int .i64 yr] rfl hnews hone (by unfold maxLen; omega) (by omega) (by simp; omega)
  obtain ⟨g', cap', rfl⟩ := ownsRow_succ hown'
  have k0 : W.cell? ⟨w1.heap.size + 1 + 1, 0, none⟩ = some (.slice (some ⟨w1.heap.size + 1, 0, none⟩) R R) := cell_of_one h2
  have k1 : W.cell? ⟨w1.heap.size + 1, si, none⟩ = some vv := by rw [cell_of_row _ _ _ _ _ _ hn.blk]; simpa using hvm
  have y0 : W.cell? ⟨Bx, 0, none⟩ = some (.int .i64 si) := c_e hc rfl
  have y1 : W.cell? ⟨Bx, 1, none⟩ = some (.int .i64 yd) := c_e hc rfl
  have y2 : W.cell? ⟨Bx, 2, none⟩ = some (.int .i64 ym) := c_e hc rfl
  have y3 : W.cell? ⟨Bx, 3, none⟩ = some (.int .i64 yr) := c_e hc rfl
  have hBxW := lt_of_block hc
  have hs2 := lt_of_block h2
  have keep : ∀ k, k < W.heap.size → vv.ownBlock ≠ some k → wa.heap[k]? = W.heap[k]? := fun k hk hne => (hgrow.block k (by simp; omega) (fun e => hne e.symm)).trans (Below.heap_alloc W _ k hk)
  have na := keep (w1.heap.size + 1) hWg (fun e => by have := hvg _ e; omega)
  have nb := keep (w1.heap.size + 2) hs2 (fun e => by have := hvg _ e; omega)
  have nc := keep Bx hBxW hvBx
  have k0a : wa.cell? ⟨w1.heap.size + 1 + 1, 0, none⟩ = some (.slice (some ⟨w1.heap.size + 1, 0, none⟩) R R) := cell_of_one (nb.trans h2)
  have k1a : wa.cell? ⟨w1.heap.size + 1, si, none⟩ = some vv := by rw [cell_of_row _ _ _ _ _ _ (na.trans hn.blk)]; simpa using hvm
  have k1f : wa.frozen? ⟨w1.heap.size + 1, si, none⟩ = false := frozen_of_row _ _ _ _ _ (na.trans hn.blk)
  have y1a : wa.cell? ⟨Bx, 1, none⟩ = some (.int .i64 yd) := by rw [cell_of_row _ _ _ _ _ _ (nc.trans hc)]; rfl
  have y2a : wa.cell? ⟨Bx, 2, none⟩ = some (.int .i64 ym) := by rw [cell_of_row _ _ _ _ _ _ (nc.trans hc)]; rfl
  have y3a : wa.cell? ⟨Bx, 3, none⟩ = some (.int .i64 yr) := by rw [cell_of_row _ _ _ _ _ _ (nc.trans hc)]; rfl
  have y0a : wa.cell? ⟨Bx, 0, none⟩ = some (.int .i64 si) := by rw [cell_of_row _ _ _ _ _ _ (nc.trans hc)]; rfl
  have HHid1 := hidE hn
  have HO := hidE hown'
  have HG := hidE hgrow
  have HK := hidE keep
  have HBK := hidE hblk
  have HV2 := hidE hvg
  have H1 := hidE h1
  have H2 := hidE h2
  have H3 := hidE h3
  have HC := hidE hc
  have HFR := hidE hfr
  have HVM := hidE hvm
  have HVV := hidE hvv
  have HRL := hidE hrl
  have HOWN := hidE hown
  clear hn hown' hgrow keep hblk hvg h1 h2 h3 hc hfr hvm hvv hown na nb nc hvBx hrl
  have hpost : KeepsFrom W0.heap.size W (wa.setCell ⟨w1.heap.size + 1, si, none⟩ (.slice (some ⟨g', 0, none⟩) ((rows.getD si []).length + 1) cap')) ∧ KeepsB (fun b => b < w.heap.size ∨ b = w1.heap.size + 3 ∨ b = w1.heap.size + 4) W (wa.setCell ⟨w1.heap.size + 1, si, none⟩ (.slice (some ⟨g', 0, none⟩) ((rows.getD si []).length + 1) cap')) ∧
   ∃ vs, NearAt (wa.setCell ⟨w1.heap.size + 1, si, none⟩ (.slice (some ⟨g', 0, none⟩) ((rows.getD si []).length + 1) cap')) (w1.heap.size + 5) (w1.heap.size + 1) vs (nearP R (selB bs ((pre ++ [x]).map (·.1)))) ∧ (wa.setCell ⟨w1.heap.size + 1, si, none⟩ (.slice (some ⟨g', 0, none⟩) ((rows.getD si []).length + 1) cap')).heap[w1.heap.size]? = some (.cells (rowA (rep128 farI)) 189 (0,0)) ∧
    (wa.setCell ⟨w1.heap.size + 1, si, none⟩ (.slice (some ⟨g', 0, none⟩) ((rows.getD si []).length + 1) cap')).heap[w1.heap.size + 2]? = some (.cells #[.slice (some ⟨w1.heap.size + 1, 0, none⟩) R R] 263 (0,0)) ∧ (wa.setCell ⟨w1.heap.size + 1, si, none⟩ (.slice (some ⟨g', 0, none⟩) ((rows.getD si []).length + 1) cap')).heap[w.heap.size]? = some (.cells (rowA (rep128 0)) 189 (0,0)) ∧
    Below w.heap.size w (wa.setCell ⟨w1.heap.size + 1, si, none⟩ (.slice (some ⟨g', 0, none⟩) ((rows.getD si []).length + 1) cap')) ∧ W0.heap.size ≤ (wa.setCell ⟨w1.heap.size + 1, si, none⟩ (.slice (some ⟨g', 0, none⟩) ((rows.getD si []).length + 1) cap')).heap.size := by
   obtain ⟨Wal, hWal⟩ : ∃ Wal, Wal = (W.alloc (Obj.cells #[.int .i64 si, .int .i64 yd, .int .i64 ym, .int .i64 yr] 65)).drew := ⟨_, rfl⟩
   have hgr := HG.out
   rw [← hWal] at hgr
   have hbal : Below W.heap.size W Wal := by rw [hWal]; exact ((Below.refl _ _).alloc (Nat.le_refl _) _).drew
   have hbk := HBK.out
   rw [← hWal] at hbk
   have hks : ∀ k, k < W.heap.size → k ≠ w1.heap.size + 1 → vv.ownBlock ≠ some k → (wa.setCell ⟨w1.heap.size + 1, si, none⟩ (.slice (some ⟨g', 0, none⟩) ((rows.getD si []).length + 1) cap')).heap[k]? = W.heap[k]? :=
    fun k h1 h2 h3 => (heap_setCell_other _ _ _ _ h2).trans (HK.out k h1 h3)
   have hno : ∀ k, k < w1.heap.size + 5 → vv.ownBlock ≠ some k := fun k hk e => by have := HV2.out k e; omega
   refine ⟨?_, ⟨?_, ?_⟩, vs.set si (.slice (some ⟨g', 0, none⟩) ((rows.getD si []).length + 1) cap'), ?_, ?_, ?_, ?_, ?_, ?_⟩
   ·refine (KeepsOthers.trans (B := Wal) ?_ ((KeepsOthers.of_grownBy hgr ?_).trans (KeepsOthers.setCell _ _ _))).from _
    ·rw [hWal]; exact (KeepsOthers.alloc W _).trans (KeepsOthers.drew _)
    ·intro j o ej hj
     rcases HOWN.out.2 with ⟨e, _⟩ | ⟨gb, cp, cur, e, _, hh, _⟩
     ·rw [e] at ej; simp [Value.ownBlock] at ej
     ·rw [e] at ej
      simp only [Value.ownBlock, Option.some.injEq] at ej
      rw [hbal.block j (by rw [← ej]; exact lt_of_block hh), ← ej, hh] at hj
      cases hj
      rfl
   ·simp only [World.size_setCell]; exact Nat.le_trans hbal.size hgr.size
   ·intro b hb
    exact hks b (by omega) (by omega) (hno b (by omega))
   ·rw [HNEW.out]
    exact NearAt.appended (HHid1.out.below hbal (Nat.le_refl _)) hsl (by have := hbal.size; omega) HO.out (by rw [HVV.out]; exact hgr) (by rw [HVV.out]; exact hbk)
   ·exact (hks _ (by omega) (by omega) (hno _ (by omega))).trans H1.out
   ·exact (hks _ (by omega) (by omega) (hno _ (by omega))).trans H2.out
   ·exact (hks _ (by omega) (by omega) (hno _ (by omega))).trans H3.out
   ·exact ((hb.trans (hbal.mono (by have := hb.size; omega))).grown hgr (by have := hbal.size; omega) (fun k e => by have := HV2.out k e; omega)).setCell (by simp; omega) _
   ·simp only [World.size_setCell]; have := hbal.size; have := hgr.size; omega
  have HPOST := hidE hpost
  clear hpost
  gi_wp2_with fail
  have hmx : Tryz.prog.follows Departure.mixedOrders = true := by kernel_rfl
  refine wpIn_region_held_round (S := fun V => V.cell? ⟨w1.heap.size + 1 + 1, 0, none⟩ = some (.slice (some ⟨w1.heap.size + 1, 0, none⟩) R R) ∧ V.cell? ⟨Bx, 0, none⟩ = some (.int .i64 si) ∧ V.cell? ⟨Bx, 1, none⟩ = some (.int .i64 yd) ∧ V.cell? ⟨Bx, 2, none⟩ = some (.int .i64 ym) ∧ V.cell? ⟨Bx, 3, none⟩ = some (.int .i64 yr)) hmx (by kernel_rfl) ?hout ?_
  case hout =>
   rintro ⟨a, w, h⟩
   exact h
  have hS0 : W.drew.cell? ⟨w1.heap.size + 1 + 1, 0, none⟩ = some (.slice (some ⟨w1.heap.size + 1, 0, none⟩) R R) ∧ W.drew.cell? ⟨Bx, 0, none⟩ = some (.int .i64 si) ∧ W.drew.cell? ⟨Bx, 1, none⟩ = some (.int .i64 yd) ∧ W.drew.cell? ⟨Bx, 2, none⟩ = some (.int .i64 ym) ∧ W.drew.cell? ⟨Bx, 3, none⟩ = some (.int .i64 yr) := ⟨k0, y0, y1, y2, y3⟩
  have sI : (si : Int) < R := by omega
  have sR : si < R := by omega
  refine wpAnyH_take (i := 0) (v := .slice (some ⟨w1.heap.size + 1, 0, none⟩) R R) rfl (by kernel_rfl) (by kernel_rfl) (by kernel_rfl) (by intro c a w h; exact h) (.inl ⟨rfl, fun V hV => ?_⟩) hS0 ?_
  ·obtain ⟨q0, q1, q2, q3, q4⟩ := hV
   simp [go_sem, execOp, q0]
  simp only [Act.put, List.setIfInBounds_toArray]
  refine wpAnyH_take (i := 1) (v := .pointer (some ⟨Bx, 0, none⟩)) rfl (by kernel_rfl) (by kernel_rfl) (by kernel_rfl) (by intro c a w h; exact h) (.inl ⟨rfl, fun V hV => ?_⟩) hS0 ?_
  ·obtain ⟨q0, q1, q2, q3, q4⟩ := hV
   simp [go_sem, execOp]
  simp only [Act.put]
  refine wpAnyH_take (i := 2) (v := .int .i64 si) rfl (by kernel_rfl) (by kernel_rfl) (by kernel_rfl) (by intro c a w h; exact h) (.inl ⟨rfl, fun V hV => ?_⟩) hS0 ?_
  ·obtain ⟨q0, q1, q2, q3, q4⟩ := hV
   simp [go_sem, execOp, q1]
  simp only [Act.put]
  refine wpAnyH_take (i := 3) (v := .slice (some ⟨w1.heap.size + 1, 0, none⟩) R R) rfl (by kernel_rfl) (by kernel_rfl) (by kernel_rfl) (by intro c a w h; exact h) (.inl ⟨rfl, fun V hV => ?_⟩) hS0 ?_
  ·obtain ⟨q0, q1, q2, q3, q4⟩ := hV
   simp [go_sem, execOp, q0]
  simp only [Act.put]
  refine wpAnyH_take (i := 4) (v := .pointer (some ⟨Bx, 0, none⟩)) rfl (by kernel_rfl) (by kernel_rfl) (by kernel_rfl) (by intro c a w h; exact h) (.inl ⟨rfl, fun V hV => ?_⟩) hS0 ?_
  ·obtain ⟨q0, q1, q2, q3, q4⟩ := hV
   simp [go_sem, execOp]
  simp only [Act.put]
  refine wpAnyH_take (i := 5) (v := .int .i64 si) rfl (by kernel_rfl) (by kernel_rfl) (by kernel_rfl) (by intro c a w h; exact h) (.inl ⟨rfl, fun V hV => ?_⟩) hS0 ?_
  ·obtain ⟨q0, q1, q2, q3, q4⟩ := hV
   simp [go_sem, execOp, q1]
  simp only [Act.put]
  refine wpAnyH_take (i := 6) (v := .pointer (some ⟨w1.heap.size + 1, si, none⟩)) rfl (by kernel_rfl) (by kernel_rfl) (by kernel_rfl) (by intro c a w h; exact h) (.inl ⟨rfl, fun V hV => ?_⟩) hS0 ?_
  ·obtain ⟨q0, q1, q2, q3, q4⟩ := hV
   simp [go_sem, execOp, sI]
  simp only [Act.put]
  refine wpAnyH_take (i := 8) (v := .agg #[.int .i64 si, .int .i64 yd, .int .i64 ym, .int .i64 yr]) rfl (by kernel_rfl) (by kernel_rfl) (by kernel_rfl) (by intro c a w h; exact h) (.inl ⟨rfl, fun V hV => ?_⟩) hS0 ?_
  ·obtain ⟨q0, q1, q2, q3, q4⟩ := hV
   simp [go_sem, execOp, q1, q2, q3, q4]
  simp only [Act.put]
  refine wpAnyH_all (rs := [7, 9]) (by kernel_rfl) (by simp) ?_
  have hWal : ((W.alloc (Obj.cells #[.int .i64 si, .int .i64 yd, .int .i64 ym, .int .i64 yr] 65)).drew).cell? ⟨w1.heap.size + 1, si, none⟩ = some vv := by rw [← k1]; exact Below.cell ((Below.refl W.heap.size W).alloc (Nat.le_refl _) _) (by exact hWg)
  have sal : ∀ p : Addr, p.block < W.heap.size → ((W.alloc (Obj.cells #[.int .i64 si, .int .i64 yd, .int .i64 ym, .int .i64 yr] 65)).drew).cell? p = W.cell? p := fun p hp => Below.cell ((Below.refl W.heap.size W).alloc (Nat.le_refl _) _) hp
  have hS1 := And.intro ((sal ⟨w1.heap.size + 1 + 1, 0, none⟩ (by exact hs2)).trans k0) (And.intro ((sal ⟨Bx, 0, none⟩ hBxW).trans y0) (And.intro ((sal ⟨Bx, 1, none⟩ hBxW).trans y1) (And.intro ((sal ⟨Bx, 2, none⟩ hBxW).trans y2) ((sal ⟨Bx, 3, none⟩ hBxW).trans y3))))
  have hneB : Bx ≠ w1.heap.size + 1 := by omega
  have hS3 : ∀ v, (wa.setCell ⟨w1.heap.size + 1, si, none⟩ v).cell? ⟨w1.heap.size + 1 + 1, 0, none⟩ = some (.slice (some ⟨w1.heap.size + 1, 0, none⟩) R R) ∧ (wa.setCell ⟨w1.heap.size + 1, si, none⟩ v).cell? ⟨Bx, 0, none⟩ = some (.int .i64 si) ∧ (wa.setCell ⟨w1.heap.size + 1, si, none⟩ v).cell? ⟨Bx, 1, none⟩ = some (.int .i64 yd) ∧ (wa.setCell ⟨w1.heap.size + 1, si, none⟩ v).cell? ⟨Bx, 2, none⟩ = some (.int .i64 ym) ∧ (wa.setCell ⟨w1.heap.size + 1, si, none⟩ v).cell? ⟨Bx, 3, none⟩ = some (.int .i64 yr) := by
   intro v
   have e : ∀ p : Addr, p.block ≠ w1.heap.size + 1 → (wa.setCell ⟨w1.heap.size + 1, si, none⟩ v).cell? p = wa.cell? p := fun p hp => World.cell?_of_block (w := wa) (heap_setCell_other _ _ _ _ hp)
   exact ⟨(e _ (by simp)).trans k0a, (e _ hneB).trans y0a, (e _ hneB).trans y1a, (e _ hneB).trans y2a, (e _ hneB).trans y3a⟩
  have HSAL := hidE sal
  clear sal
  intro i hi
  simp only [List.mem_cons, List.not_mem_nil, or_false] at hi
  rcases hi with rfl | rfl
  ·refine wpOp_val (v := vv) (w' := W.drew) rfl rfl (by simp [go_sem, execOp, k1]) ⟨hS0, ?_⟩
   simp only [Act.put, List.getElem_toArray, List.getElem_cons_succ, List.getElem_cons_zero, s_a, s_b, s_c]
   refine wpAnyH_one 9 (by kernel_rfl) (wpOp_val (v := .slice (some ⟨W.heap.size, 0, none⟩) 1 1) (w' := (W.alloc (Obj.cells #[.int .i64 si, .int .i64 yd, .int .i64 ym, .int .i64 yr] 65)).drew) rfl rfl (by simp [go_sem, execOp]) ⟨hS1, ?_⟩)
   simp only [Act.put, List.getElem_toArray, List.getElem_cons_succ, List.getElem_cons_zero, s_a, s_b, s_c]
   refine wpAnyH_one 10 (by kernel_rfl) (wpOp_val (w' := wa) (v := .slice (some ⟨g', 0, none⟩) ((rows.getD si []).length + 1) cap') rfl rfl (by exact run_op_append (s := .tmp 40) (x := .tmp 42) (t := 59) (vs := vv) (vx := .slice (some ⟨W.heap.size, 0, none⟩) 1 1) rfl rfl rfl hrun) ⟨⟨k0a, y0a, y1a, y2a, y3a⟩, ?_⟩)
   simp only [Act.put, List.getElem_toArray, List.getElem_cons_succ, List.getElem_cons_zero, s_a, s_b, s_c]
   refine wpAnyH_one 11 (by kernel_rfl) (wpOp_val (v := .pointer (some ⟨w1.heap.size + 1, si, none⟩)) (w' := wa) rfl rfl (by simp [go_sem, execOp, sI]) ⟨⟨k0a, y0a, y1a, y2a, y3a⟩, ?_⟩)
   simp only [Act.put, List.getElem_toArray, List.getElem_cons_succ, List.getElem_cons_zero, s_a, s_b, s_c]
   refine wpAnyH_one 12 (by kernel_rfl) (wpOp_skip (w' := wa.setCell ⟨w1.heap.size + 1, si, none⟩ (.slice (some ⟨g', 0, none⟩) ((rows.getD si []).length + 1) cap')) rfl rfl (by simp [go_sem, execOp, k1a, k1f]) ⟨hS3 _, ?_⟩)
   refine wpAnyH_done (by kernel_rfl) ?_ _
   exact HPOST.out
  ·refine wpOp_val (v := .slice (some ⟨W.heap.size, 0, none⟩) 1 1) (w' := (W.alloc (Obj.cells #[.int .i64 si, .int .i64 yd, .int .i64 ym, .int .i64 yr] 65)).drew) rfl rfl (by simp [go_sem, execOp]) ⟨hS1, ?_⟩
   simp only [Act.put, List.getElem_toArray, List.getElem_cons_succ, List.getElem_cons_zero, s_a, s_b, s_c]
   refine wpAnyH_one 7 (by kernel_rfl) (wpOp_val (v := vv) (w' := (W.alloc (Obj.cells #[.int .i64 si, .int .i64 yd, .int .i64 ym, .int .i64 yr] 65)).drew) rfl rfl (by simp [go_sem, execOp, hWal]) ⟨hS1, ?_⟩)
   simp only [Act.put, List.getElem_toArray, List.getElem_cons_succ, List.getElem_cons_zero, s_a, s_b, s_c]
   refine wpAnyH_one 10 (by kernel_rfl) (wpOp_val (w' := wa) (v := .slice (some ⟨g', 0, none⟩) ((rows.getD si []).length + 1) cap') rfl rfl (by exact run_op_append (s := .tmp 40) (x := .tmp 42) (t := 59) (vs := vv) (vx := .slice (some ⟨W.heap.size, 0, none⟩) 1 1) rfl rfl rfl hrun) ⟨⟨k0a, y0a, y1a, y2a, y3a⟩, ?_⟩)
   simp only [Act.put, List.getElem_toArray, List.getElem_cons_succ, List.getElem_cons_zero, s_a, s_b, s_c]
   refine wpAnyH_one 11 (by kernel_rfl) (wpOp_val (v := .pointer (some ⟨w1.heap.size + 1, si, none⟩)) (w' := wa) rfl rfl (by simp [go_sem, execOp, sI]) ⟨⟨k0a, y0a, y1a, y2a, y3a⟩, ?_⟩)
   simp only [Act.put, List.getElem_toArray, List.getElem_cons_succ, List.getElem_cons_zero, s_a, s_b, s_c]
   refine wpAnyH_one 12 (by kernel_rfl) (wpOp_skip (w' := wa.setCell ⟨w1.heap.size + 1, si, none⟩ (.slice (some ⟨g', 0, none⟩) ((rows.getD si []).length + 1) cap')) rfl rfl (by simp [go_sem, execOp, k1a, k1f]) ⟨hS3 _, ?_⟩)
   refine wpAnyH_done (by kernel_rfl) ?_ _
   exact HPOST.out
 case done =>
  rintro D xs W hD hxs ⟨vs, hn, h1, h2, h3, hb, hs⟩ hK
  rw [hxs] at hn
  have HNA := hidE hn
  have H1 := hidE h1
  have H2 := hidE h2
  have H3 := hidE h3
  have HKD := hidE hK
  clear hn h1 h2 h3 hK hxs hT0 hB0 o3 o4 o3' o4' oN oB o7 oR
  have hcA : W.cell? ⟨w1.heap.size, ai, none⟩ = some (.int .i64 ((rep128 farI).getD ai 0)) := by rw [cell_of_row _ _ _ _ _ _ H1.out, rowA_get (by rw [rep128_length]; omega)]
  have hfA : W.frozen? ⟨w1.heap.size, ai, none⟩ = false := frozen_of_row _ _ _ _ _ H1.out
  have hsW : w1.heap.size < W.heap.size := lt_of_block H1.out
  have hai : (ai : Int) < 128 := by omega
  go_wp2_with fail
  obtain ⟨out0, hout0⟩ : ∃ o, (rep128 farI).set ai 0 = o := ⟨_, rfl⟩
  have st0 : DSt w ((W.alloc (Obj.cells Tryz.zeroCells266 266)).setCell ⟨w1.heap.size, ai, none⟩ (.int .i64 0)) w1.heap.size W.heap.size D R vs (nearP R (selB bs (passes t bs.length))) out0 repF128 := by
   rw [← hout0]
   refine DSt.setOut ?_ _ _
   have hba : Below W.heap.size W (W.alloc (Obj.cells Tryz.zeroCells266 266)) := (Below.refl _ _).alloc (Nat.le_refl _) _
   exact ⟨blk_below hba hsW H1.out, by rw [zc120]; exact heap_alloc_new _ _, HNA.out.below hba (Nat.le_refl _), blk_below hba (lt_of_block H2.out) H2.out, blk_below hba (lt_of_block H3.out) H3.out, blk_below hba (lt_of_block HKD.out) HKD.out, hb.trans (hba.mono hb.size), by omega, by omega⟩
  obtain ⟨near, hnear⟩ : ∃ n, nearP R (selB bs (passes t bs.length)) = n := ⟨_, rfl⟩
  have hdist : distP R h (selB bs (passes t bs.length)) ai = backP R h ai (dijGo R h near (R + 1) out0 repF128) := by rw [← hout0, ← hnear]; rfl
  have ho0 : OutOk out0 := by rw [← hout0]; exact outOk_start (a := (ai : Int))
  rw [hnear] at st0
  obtain ⟨dr, hdr⟩ : ∃ dr, dijGo R h near (R + 1) out0 repF128 = dr := ⟨_, rfl⟩
  rw [hdr] at hdist
  have HDIST := hidE hdist
  have HDR := hidE hdr
  have HNEAR := hidE hnear
  rw [World.setCell_alloc_past _ _ _ _ hsW] at st0
  have HST0 := hidE st0
  have HO0 := hidE ho0
  have hu0 : undone R repF128 = R := by
   unfold undone repF128
   rw [List.filter_eq_self.2]
   ·simp
   ·intro p hp
    simp only [List.getD_eq_getElem?_getD, List.getElem?_replicate]
    split <;> rfl
  have HU0 := hidE hu0
  clear hdist hdr hnear st0 ho0 hu0 hout0
  go_loopg [12] R (fun gg at_ wr => ∃ (out : List Int) (done : List Bool), undone R done ≤ gg ∧ Hid (dijGo R h near (undone R done + 1) out done = dr) ∧ Hid (OutOk out) ∧ Hid (done.length = 128) ∧ Hid (DSt w wr w1.heap.size W.heap.size D R vs near out done))
  case atStart => exact ⟨out0, repF128, by rw [HU0.out]; exact Nat.le_refl _, hidE (by rw [HU0.out]; exact HDR.out), HO0, hidE rfl, HST0⟩
  case round =>
   obtain ⟨out, done, hu, hgo, hok, hdl, hst⟩ := hrel
   have hnet := hidE (blk_below hst.out.bl hbn HN.out)
   have nN : wr.cell? ⟨bn, 0, none⟩ = some (.int .i64 R) := c_e hnet.out rfl
   have hdecR : decide ((0 : Int) < (R : Int)) = true := by simp; omega
   go_wp2_with fail
   go_loopw [12, 52] (fun at_ i wr' => ∃ (k nd : Nat), k ≤ R ∧ i = .int .i64 k ∧ wr' = wr.drewN nd ∧ at_ = .int .i64 ((List.range k).foldl (pick1 out done) (-1))) (fun _ i _ => R - (intOf i).toNat)
   case atStart => exact ⟨0, 0, by omega, rfl, rfl, rfl⟩
   case round =>
    obtain ⟨k, nd, hk, rfl, rfl, rfl⟩ := hrel
    obtain ⟨A, hA⟩ : ∃ A, (List.range k).foldl (pick1 out done) (-1) = A := ⟨_, rfl⟩
    rw [hA]
    have HA := hidE hA
    have hArange : A < 0 ∨ (A.toNat < R ∧ done.getD A.toNat false = false ∧ out.getD A.toNat 0 < farI) := by
     rw [← hA]; exact pick_fold out done _ (fun p hp => by have := List.mem_range.1 hp; omega) (-1) (.inl (by omega))
    clear hA
    have nN' : wr.cell? ⟨bn, 0, none⟩ = some (.int .i64 R) := nN
    by_cases hlt : k < R
    ·obtain ⟨cd, _⟩ := hst.out.doneCell (i := k) (by rw [hdl.out]; omega)
     obtain ⟨co, _⟩ := hst.out.outCell (i := k) (by rw [hok.out.1]; omega)
     obtain ⟨vk, hvk⟩ : ∃ v, out.getD k 0 = v := ⟨_, rfl⟩
     rw [hvk] at co
     have HVK := hidE hvk
     clear hvk
     have k128 : (k : Int) < 128 := by omega
     have k128' : k < 128 := by omega
     cases hdk : done.getD k false with
     | true =>
       rw [hdk] at cd
       have HDK := hidE hdk
       clear hdk
       go_wp2_with fail
       go_quiet (fail)
       go_wp2_with fail
       go_roundw
       case rel => exact ⟨k + 1, _, by omega, by go_num, rfl, by rw [List.range_succ, List.foldl_append, HA.out]; exact congrArg _ (pick1_done HDK.out).symm⟩
       case measure => simp [intOf]; omega
     | false =>
       rw [hdk] at cd
       have HDK := hidE hdk
       clear hdk
       by_cases hfar : vk < 1125899906842624
       ·rcases Int.lt_or_le A 0 with hA0 | hA0
        ·go_wp2_with fail
         go_quiet (fail)
         go_wp2_with fail
         go_roundw
         case rel => exact ⟨k + 1, _, by omega, by go_num, rfl, by rw [List.range_succ, List.foldl_append, HA.out]; exact congrArg _ (pick1_first HDK.out HVK.out hfar hA0).symm⟩
         case measure => simp [intOf]; omega
        ·obtain ⟨A', rfl⟩ := Int.eq_ofNat_of_zero_le hA0
         obtain ⟨hAR, hAD, hAF⟩ := hArange.resolve_left (by omega)
         simp only [Int.toNat_natCast] at hAR hAD hAF
         obtain ⟨ca, _⟩ := hst.out.outCell (i := A') (by rw [hok.out.1]; omega)
         obtain ⟨va, hva⟩ : ∃ v, out.getD A' 0 = v := ⟨_, rfl⟩
         rw [hva] at ca
         have HVA := hidE hva
         clear hva
         have a128 : (A' : Int) < 128 := by omega
         have a128' : A' < 128 := by omega
         have hA0' : ¬ ((A' : Int) < 0) := by omega
         by_cases hbet : vk < va
         ·go_wp2_with fail
          go_quiet (fail)
          go_wp2_with fail
          go_roundw
          case rel => exact ⟨k + 1, _, by omega, by go_num, rfl, by rw [List.range_succ, List.foldl_append, HA.out]; exact congrArg _ (pick1_less HDK.out HVK.out hfar (by rw [Int.toNat_natCast]; exact HVA.out) hbet).symm⟩
          case measure => simp [intOf]; omega
         ·go_wp2_with fail
          go_quiet (fail)
          go_wp2_with fail
          go_roundw
          case rel => exact ⟨k + 1, _, by omega, by go_num, rfl, by rw [List.range_succ, List.foldl_append, HA.out]; exact congrArg _ (pick1_far' (u := va) HVK.out (by omega) (by rw [Int.toNat_natCast]; exact HVA.out) (by omega)).symm⟩
          case measure => simp [intOf]; omega
       ·have hfd : decide (vk < 1125899906842624) = false := by simpa using hfar
        go_wp2_with fail
        go_quiet (fail)
        go_wp2_with fail
        go_roundw
        case rel => exact ⟨k + 1, _, by omega, by go_num, rfl, by rw [List.range_succ, List.foldl_append, HA.out]; exact congrArg _ (pick1_far HVK.out (by omega)).symm⟩
        case measure => simp [intOf]; omega
    ·have hkR : k = R := by omega
     subst hkR
     have x0 : wr.cell? ⟨w1.heap.size + 1 + 1, 0, none⟩ = some (.slice (some ⟨w1.heap.size + 1, 0, none⟩) k k) := cell_of_one hst.out.bx
     have hsd : w1.heap.size + 5 ≤ W.heap.size := hst.out.ne2
     rcases Int.lt_or_le A 0 with hA0 | hA0
     ·have hend : dr = out := by
       rw [← hgo.out, dijGo, if_pos]
       show pickP k out done < 0
       unfold pickP; rw [HA.out]; exact hA0
      have HEND := hidE hend
      clear hend
      go_wp2_with fail
      go_loopw [16, 129] (fun _ i wr2 => ∃ (q : Nat) (out' : List Int), q ≤ k ∧ i = .int .i64 q ∧ Hid ((List.range q).foldl (back1 h ai) out = out') ∧ Hid (DSt w wr2 w1.heap.size W.heap.size D k vs near out' done)) (fun _ i _ => k - (intOf i).toNat)
      case atStart => exact ⟨0, out, by omega, rfl, hidE rfl, hidE (hst.out.drewN _)⟩
      case round =>
       obtain ⟨q, out', hq, rfl, hF, hst2⟩ := hrel
       by_cases hlq : q < k
       ·obtain ⟨co, cf⟩ := hst2.out.outCell (i := q) (by rw [← hF.out, back_length, hok.out.1]; omega)
        have hqv : out'.getD q 0 = out.getD q 0 := by rw [← hF.out, back_ge _ _ _ _ _ (Nat.le_refl _)]
        have hqr := hok.out.2 q
        rw [hqv] at co
        obtain ⟨vq, hvq⟩ : ∃ v, out.getD q 0 = v := ⟨_, rfl⟩
        rw [hvq] at co hqr hqv
        have HVQ := hidE hqv
        clear hvq hqv
        obtain ⟨hq0, hq1⟩ := hqr
        unfold farI at hq1
        have q128 : (q : Int) < 128 := by omega
        have q128' : q < 128 := by omega
        have hnet2 := hidE (blk_below hst2.out.bl hbn HN.out)
        have nq0 : wr.cell? ⟨bn, 2 + q, none⟩ = some (.int .i64 (h.getD q 0)) := by rw [cell_of_row _ _ _ _ _ _ hnet2.out, netA_get (by rw [HH.out]; omega)]
        have na0 : wr.cell? ⟨bn, 2 + ai, none⟩ = some (.int .i64 (h.getD ai 0)) := by rw [cell_of_row _ _ _ _ _ _ hnet2.out, netA_get (by rw [HH.out]; omega)]
        have lq := HL.out q
        have la := HL.out ai
        obtain ⟨hvq, ehq⟩ : ∃ v, h.getD q 0 = v := ⟨_, rfl⟩
        obtain ⟨hva, eha⟩ : ∃ v, h.getD ai 0 = v := ⟨_, rfl⟩
        rw [ehq] at nq0 lq
        rw [eha] at na0 la
        have EHQ := hidE ehq
        have EHA := hidE eha
        clear ehq eha
        by_cases hfar : vq < 1125899906842624
        ·go_wp2_with fail
         go_still_tail 18, (by kernel_rfl)
         change wpList _ _ _ _ _ wr.drew
         go_wp2_with fail
         go_roundw
         case rel =>
          refine ⟨q + 1, _, by omega, by go_num, hidE rfl, hidE ?_⟩
          rw [List.range_succ, List.foldl_append, hF.out]
          simp only [List.foldl_cons, List.foldl_nil]
          unfold back1; rw [if_pos (by rw [HVQ.out]; exact hfar), HVQ.out, EHQ.out]
          unfold getI; rw [Int.toNat_natCast, EHA.out]
          exact (hst2.out.setOut _ _).drew
         case measure => simp [intOf]; omega
        ·go_wp2_with fail
         go_roundw
         case rel =>
          refine ⟨q + 1, out', by omega, by go_num, hidE ?_, hst2⟩
          rw [List.range_succ, List.foldl_append, hF.out]
          simp only [List.foldl_cons, List.foldl_nil]
          unfold back1; rw [if_neg]; rw [HVQ.out]; exact hfar
         case measure => simp [intOf]; omega
       ·have hqk : q = k := by omega
        subst hqk
        have hsz : (rowA out').size = 128 := by rw [rowA_size, ← hF.out, back_length]; exact hok.out.1
        have hsz2 : (rowA (rep128 0)).size = 128 := by rw [rowA_size, rep128_length]
        go_wp2_with (first
         | (refine wpList_load_row rfl 189 _ rfl _ rfl 189 _ _ _ hst2.out.o Tryz.underlying189 rfl (by rw [hsz]; exact i94.out) ?_)
         | (refine wpList_store_row rfl 189 _ _ rfl _ (rowA out') rfl rfl 189 _ hst2.out.rs (by rw [hsz]; exact i94.out) (by rw [hsz, hsz2]) (intsV_one _) ?_))
        refine ⟨by simp, .inl ⟨_, _, rfl, run_takeDeferred (by rw [setRow_other _ _ _ _ (by intro e; have := hst2.out.df; rw [e, hst2.out.rs] at this; cases this)]; exact hst2.out.df), ?_⟩⟩
        have hDne : D ≠ w.heap.size := by intro e; have := hst2.out.df; rw [e, hst2.out.rs] at this; cases this
        have hDB : w.heap.size ≤ D := by omega
        show ∃ v, _ ∧ _
        refine ⟨_, results_cell_row Tryz.results191 _ _ _ _ _ _ _ rfl ((World.putObj_heap_other hDne.symm).trans (setRow_heap _ _ _ _ _ _ hst2.out.rs)) Tryz.underlying189 rfl (by rw [hsz]; exact i94.out), ?_, ?_⟩
        ·rw [HDIST.out, HEND.out]
         unfold backP
         rw [hF.out]
        ·exact below_putObj (below_setRow hst2.out.bl (Nat.le_refl _) _) hDB _
     ·obtain ⟨A', rfl⟩ := Int.eq_ofNat_of_zero_le hA0
      obtain ⟨hAR, hAD, hAF⟩ := hArange.resolve_left (by omega)
      simp only [Int.toNat_natCast] at hAR hAD hAF
      obtain ⟨ca, fa⟩ := hst.out.doneCell (i := A') (by rw [hdl.out]; omega)
      have a128 : (A' : Int) < 128 := by omega
      have a128' : A' < 128 := by omega
      have hst' := hidE ((hst.out.drewN nd).setDone A')
      have hnl : near.length = k := by rw [← HNEAR.out, nearP_length]
      obtain ⟨ro, rc, hrv⟩ := hst.out.nr.bounds (p := A') (by omega)
      obtain ⟨row, hrow⟩ : ∃ r, near.getD A' [] = r := ⟨_, rfl⟩
      rw [hrow] at hrv
      have hm0 : wr.cell? ⟨w1.heap.size + 1, A', none⟩ = some (.slice ro row.length rc) := by
       rw [cell_of_row _ _ _ _ _ _ hst.out.nr.blk, List.getElem?_toArray, ← hrv, List.getD_eq_getElem?_getD, List.getElem?_eq_getElem (by rw [hst.out.nr.len]; omega)]; rfl
      have HROW := hidE hrow
      have HRV := hidE hrv
      clear hrow hrv
      have HDR2 : Hid (dijGo k h near (undone k (done.set A' true) + 1) (row.foldl (relaxD h A') out) (done.set A' true) = dr) := by
       refine hidE ?_
       have hp : pickP k out done = (A' : Int) := by unfold pickP; exact HA.out
       have this := hgo.out
       rw [dijGo, if_neg (by rw [hp]; omega), hp, Int.toNat_natCast, HROW.out, ← undone_set (by rw [hdl.out]; omega) hAR hAD] at this
       exact this
      have hund := undone_set (N := k) (by rw [hdl.out]; omega) hAR hAD
      have hrowb : ∀ b ∈ row, b ∈ bs ∧ b.valid k := by
       intro b hb
       have h1 := mem_nearP (by rw [HNEAR.out, HROW.out]; exact hb : b ∈ (nearP k (selB bs (passes t bs.length))).getD A' [])
       have h2 := mem_selB (fun q hq => (passes_mem.1 hq).1) h1.1
       exact ⟨h2, HV.out b h2⟩
      have hrow4 : row.length ≤ 4000 := by
       have h1 : (nearP k (selB bs (passes t bs.length))).getD A' [] = row := by rw [HNEAR.out]; exact HROW.out
       rw [nearP_get hAR] at h1
       rw [← h1]
       have h2 := List.length_filter_le (fun b : Bd => b.src == (A' : Int)) (selB bs (passes t bs.length))
       have h3 := passes_len t bs.length
       have h4 : (selB bs (passes t bs.length)).length = (passes t bs.length).length := by simp [selB]
       omega
      have HRB := hidE hrowb
      clear hrowb
      go_wp2_with fail
      go_loopw [89] (fun i wr2 => ∃ (q : Nat) (out' : List Int), q ≤ row.length ∧ i = .int .i64 q ∧ Hid ((row.take q).foldl (relaxD h A') out = out') ∧ Hid (OutOk out') ∧ Hid (DSt w wr2 w1.heap.size W.heap.size D k vs near out' (done.set A' true))) (fun i _ => row.length - (intOf i).toNat)
      case atStart => exact ⟨0, out, by omega, rfl, hidE rfl, hok, hst'⟩
      case round =>
       obtain ⟨q, out', hq, rfl, hF, hok2, hst2⟩ := hrel
       by_cases hlq : q < row.length
       ·have hba : BoundsAt wr ro row := by
         have := hst2.out.nr.boundsAt (p := A') (by omega) HRV.out
         rw [HROW.out] at this; exact this
        obtain ⟨b, off, rfl, hbl, hcs⟩ := hba.at hlq
        obtain ⟨c0, c1, c2, c3⟩ := hcs
        have hval := (HRB.out row[q] (List.getElem_mem hlq)).2
        have hpo := HP.out row[q] (HRB.out row[q] (List.getElem_mem hlq)).1
        obtain ⟨x, hx⟩ : ∃ x, row[q] = x := ⟨_, rfl⟩
        rw [hx] at c0 c1 c2 c3 hval hpo
        have HX := hidE hx
        have HPO := hidE hpo
        clear hx hpo
        obtain ⟨xs, xd, xm, xr⟩ := x
        obtain ⟨v1, v2, v3, v4, v5, v6⟩ := hval
        simp only at c0 c1 c2 c3 v1 v2 v3 v4 v5 v6
        obtain ⟨si, rfl⟩ := Int.eq_ofNat_of_zero_le v1
        obtain ⟨di, rfl⟩ := Int.eq_ofNat_of_zero_le v3
        have hnet2 := hidE (blk_below hst2.out.bl hbn HN.out)
        have bnw : bn < wr.heap.size := lt_of_block hnet2.out
        have sw : w1.heap.size < wr.heap.size := lt_of_block hst2.out.o
        have ns0 : wr.cell? ⟨bn, 2 + si, none⟩ = some (.int .i64 (h.getD si 0)) := by rw [cell_of_row _ _ _ _ _ _ hnet2.out, netA_get (by rw [HH.out]; omega)]
        have nd0 : wr.cell? ⟨bn, 2 + di, none⟩ = some (.int .i64 (h.getD di 0)) := by rw [cell_of_row _ _ _ _ _ _ hnet2.out, netA_get (by rw [HH.out]; omega)]
        obtain ⟨oa, _⟩ := hst2.out.outCell (i := A') (by rw [hok2.out.1]; omega)
        obtain ⟨od, of⟩ := hst2.out.outCell (i := di) (by rw [hok2.out.1]; omega)
        have ls := HL.out si
        have ld := HL.out di
        have ra := hok2.out.2 A'
        have rd := hok2.out.2 di
        obtain ⟨hs, ehs⟩ : ∃ v, h.getD si 0 = v := ⟨_, rfl⟩
        obtain ⟨hd, ehd⟩ : ∃ v, h.getD di 0 = v := ⟨_, rfl⟩
        obtain ⟨va, eva⟩ : ∃ v, out'.getD A' 0 = v := ⟨_, rfl⟩
        obtain ⟨vd, evd⟩ : ∃ v, out'.getD di 0 = v := ⟨_, rfl⟩
        rw [ehs] at ns0 ls
        rw [ehd] at nd0 ld
        rw [eva] at oa ra
        rw [evd] at od rd
        have EHS := hidE ehs
        have EHD := hidE ehd
        have EVA := hidE eva
        have EVD := hidE evd
        clear ehs ehd eva evd
        unfold farI at ra rd
        obtain ⟨ra0, ra1⟩ := ra
        obtain ⟨rd0, rd1⟩ := rd
        have s128 : (si : Int) < 128 := by omega
        have d128 : (di : Int) < 128 := by omega
        go_wp2_with fail
        obtain ⟨W2, hW2⟩ : ∃ W2, W2 = wr.alloc (Obj.cells #[.int .i64 si, .int .i64 di, .int .i64 xm, .int .i64 xr] 65) := ⟨_, rfl⟩
        rw [← hW2]
        have hst3 := hidE (hst2.out.alloc (Obj.cells #[.int .i64 si, .int .i64 di, .int .i64 xm, .int .i64 xr] 65))
        have hy : W2.heap[wr.heap.size]? = some (.cells #[.int .i64 si, .int .i64 di, .int .i64 xm, .int .i64 xr] 65 (0,0)) := by rw [hW2]; exact heap_alloc_new _ _
        have y0 : W2.cell? ⟨wr.heap.size, 0, none⟩ = some (.int .i64 si) := c_e hy rfl
        have y1 : W2.cell? ⟨wr.heap.size, 1, none⟩ = some (.int .i64 di) := c_e hy rfl
        have y2 : W2.cell? ⟨wr.heap.size, 2, none⟩ = some (.int .i64 xm) := c_e hy rfl
        have hbw : Below wr.heap.size wr W2 := by rw [hW2]; exact (Below.refl _ _).alloc (Nat.le_refl _) _
        rw [← hW2] at hst3
        have HBW := hidE hbw
        clear hW2 hy hbw
        have q0 : W2.cell? ⟨bn, 2 + si, none⟩ = some (.int .i64 hs) := (HBW.out.cell (by exact bnw)).trans ns0
        have q1 : W2.cell? ⟨bn, 2 + di, none⟩ = some (.int .i64 hd) := (HBW.out.cell (by exact bnw)).trans nd0
        have q2 : W2.cell? ⟨w1.heap.size, A', none⟩ = some (.int .i64 va) := (HBW.out.cell (by exact sw)).trans oa
        have q3 : W2.cell? ⟨w1.heap.size, di, none⟩ = some (.int .i64 vd) := (HBW.out.cell (by exact sw)).trans od
        have q4 : W2.frozen? ⟨w1.heap.size, di, none⟩ = false := frozen_of_row _ _ _ _ _ hst3.out.o
        clear ns0 nd0 oa od of c0 c1 c2 c3
        go_still_tail 30, (by kernel_rfl)
        change wpList _ _ _ _ _ W2.drew
        go_wp2_with fail
        go_roundw
        case rel =>
         refine ⟨q + 1, _, by omega, by go_num, hidE rfl, ?_, ?_⟩
         ·refine hidE ?_
          rw [foldl_take_succ _ _ _ hlq, hF.out, HX.out]
          exact outOk_relax hok2.out HPO.out
         ·refine hidE ?_
          rw [foldl_take_succ _ _ _ hlq, hF.out, HX.out]
          unfold relaxD getI
          simp only [Int.toNat_natCast, EHS.out, EHD.out, EVA.out, EVD.out]
          rw [show min vd (va + xm + hs - hd) = (if va + xm + hs - hd < vd then va + xm + hs - hd else vd) from by split <;> omega]
          exact (hst3.out.setOut _ _).drew
        case measure => simp [intOf]; omega
       ·have hqr : q = row.length := by omega
        subst hqr
        rw [List.take_length] at hF
        rw [hF.out] at HDR2
        have hdl2 : (done.set A' true).length = 128 := by rw [List.length_set]; exact hdl.out
        go_wp2_with fail
        go_roundg (undone k (done.set A' true))
        case measure => omega
        case rel => exact ⟨out', done.set A' true, Nat.le_refl _, HDR2, hok2, hidE hdl2, hst2⟩
end Go.Proofs.YtkhemfnlflbniaaGreatDoor
namespace Go.Proofs.YtkhemfnlflbniaaGreatDoor
def stepE (cur nx : List Int) (b : Bd) : List Int :=
 if getI cur b.dst < farI then nx.set b.src.toNat (min (getI nx b.src) (getI cur b.dst + b.most)) else nx
def stepW (l : List Bd) (cur : List Int) : List Int := l.foldl (stepE cur) (List.replicate 128 farI)
def walkRow (l : List Bd) (tow : Nat) : Nat → List Int
 | 0 => (List.replicate 128 farI).set tow 0
 | k + 1 => stepW l (walkRow l tow k)
def walksP (l : List Bd) (tow most : Nat) : List (List Int) := (List.range (most + 1)).map (walkRow l tow)
theorem walksP_length (l : List Bd) (tow most : Nat) : (walksP l tow most).length = most + 1 := by simp [walksP]
theorem walksP_get (l : List Bd) (tow most : Nat) {k : Nat} (hk : k ≤ most) : (walksP l tow most).getD k [] = walkRow l tow k := by
 simp [walksP, List.getD_eq_getElem?_getD, show k < most + 1 by omega]
theorem walksP_succ (l : List Bd) (tow most : Nat) : walksP l tow (most + 1) = walksP l tow most ++ [stepW l (walkRow l tow most)] := by
 simp only [walksP]
 rw [List.range_succ, List.map_append]
 rfl
def WalkOk (c : Nat) (r : List Int) : Prop := r.length = 128 ∧ ∀ p : Nat, r.getD p 0 = farI ∨ (-((c : Int) * 1000000) ≤ r.getD p 0 ∧ r.getD p 0 ≤ (c : Int) * 1000000)
theorem getD_far (p : Nat) : (List.replicate 128 farI).getD p 0 = farI ∨ (List.replicate 128 farI).getD p 0 = 0 := by
 simp only [List.getD_eq_getElem?_getD, List.getElem?_replicate]
 split
 ·left; rfl
 ·right; rfl
theorem walkOk_far (c : Nat) : WalkOk c (List.replicate 128 farI) := by
 refine ⟨by simp, fun p => ?_⟩
 rcases getD_far p with e | e
 ·exact .inl e
 ·right; rw [e]; omega
theorem walkOk_zero (tow : Nat) : WalkOk 0 ((List.replicate 128 farI).set tow 0) := by
 refine ⟨by simp, fun p => ?_⟩
 rw [getD_set]
 split
 ·right; omega
 ·rcases getD_far p with e | e
  ·exact .inl e
  ·right; rw [e]; omega
theorem walkOk_step {N : Int} {c : Nat} {cur nx : List Int} {b : Bd} (hb : b.valid N) (hc : WalkOk c cur) (hn : WalkOk (c + 1) nx) : WalkOk (c + 1) (stepE cur nx b) := by
 unfold stepE
 split
 ·rename_i hlt
  refine ⟨by rw [List.length_set]; exact hn.1, fun p => ?_⟩
  rw [getD_set]
  obtain ⟨_, _, _, _, v5, v6⟩ := hb
  have h1 := hc.2 b.dst.toNat
  have h2 := hn.2 b.src.toNat
  have h3 := hn.2 p
  unfold getI at *
  unfold farI at *
  split
  ·right; omega
  ·exact h3
 ·exact hn
theorem walkOk_fold {N : Int} {c : Nat} {cur : List Int} (l : List Bd) : ∀ nx, (∀ b ∈ l, b.valid N) → WalkOk c cur → WalkOk (c + 1) nx → WalkOk (c + 1) (l.foldl (stepE cur) nx) := by
 induction l with
 | nil => intro nx _ _ h; exact h
 | cons b l ih => intro nx hv hc hn; exact ih _ (fun x hx => hv x (List.mem_cons_of_mem _ hx)) hc (walkOk_step (hv b (List.mem_cons_self ..)) hc hn)
theorem walkOk_row {N : Int} {l : List Bd} (hv : ∀ b ∈ l, b.valid N) (tow k : Nat) : WalkOk k (walkRow l tow k) := by
 induction k with
 | zero => exact walkOk_zero tow
 | succ k ih => exact walkOk_fold l _ hv ih (walkOk_far _)
def fits (bs : List Bd) (gd : Int → Int → Int → Bool) (left : Nat) (at_ sum : Int) (i : Nat) : Bool :=
 (bs.getD i bd0).src == at_ && gd left (bs.getD i bd0).dst (sum + (bs.getD i bd0).most)
def followGo (bs : List Bd) (ks : List Nat) (gd : Int → Int → Int → Bool) : Nat → Int → Int → List Int → Option (List Int)
 | 0, _, _, acc => some acc
 | left + 1, at_, sum, acc =>
   match ks.find? (fits bs gd left at_ sum) with
   | none => none
   | some i => followGo bs ks gd left (bs.getD i bd0).dst (sum + (bs.getD i bd0).most) (acc ++ [(i : Int)])
def followedP (bs : List Bd) (ks : List Nat) (gd : Int → Int → Int → Bool) (from_ : Int) (many : Nat) : List Int := (followGo bs ks gd many from_ 0 []).getD []
theorem passes_prefix (t : Nat → Bool) {k n : Nat} (h : k ≤ n) : ∃ r, passes t n = passes t k ++ r := by
 induction n with
 | zero => have : k = 0 := by omega
           subst this; exact ⟨[], by simp⟩
 | succ n ih =>
   by_cases e : k = n + 1
   ·subst e; exact ⟨[], by simp⟩
   ·obtain ⟨r, hr⟩ := ih (by omega)
    exact ⟨r ++ (if t n then [n] else []), by rw [passes_succ, hr, List.append_assoc]⟩
theorem find_passes {t p : Nat → Bool} {n k x : Nat} {pre : List Nat} (hk : k ≤ n) (hp : pre ++ [x] = passes t k) (hn : ∀ i ∈ pre, p i = false) (hx : p x = true) : (passes t n).find? p = some x := by
 obtain ⟨r, hr⟩ := passes_prefix t hk
 rw [hr, ← hp, List.append_assoc, List.find?_append, List.find?_eq_none.2 (fun i hi => by rw [hn i hi]; simp)]
 simp [hx]
theorem find_passes_none {t p : Nat → Bool} {n : Nat} (hn : ∀ i ∈ passes t n, p i = false) : (passes t n).find? p = none := List.find?_eq_none.2 (fun i hi => by rw [hn i hi]; simp)
def Walk (a b : Int) : List Bd → Prop
 | [] => a = b
 | x :: l => x.src = a ∧ Walk x.dst b l
def wsum : List Bd → Int
 | [] => 0
 | x :: l => x.most + wsum l
def Over (bs l : List Bd) : Prop := ∀ x ∈ l, x ∈ bs
theorem wsum_append (p q : List Bd) : wsum (p ++ q) = wsum p + wsum q := by
 induction p with
 | nil => simp [wsum]
 | cons x p ih => simp only [List.cons_append, wsum, ih]; omega
theorem walk_append {a c : Int} : ∀ {p q : List Bd}, Walk a c (p ++ q) ↔ ∃ b, Walk a b p ∧ Walk b c q
 | [], q => by simp [Walk]
 | x :: p, q => by
   simp only [List.cons_append, Walk, walk_append (p := p)]
   constructor
   ·rintro ⟨h, b, h1, h2⟩; exact ⟨b, ⟨h, h1⟩, h2⟩
   ·rintro ⟨b, ⟨h, h1⟩, h2⟩; exact ⟨h, b, h1, h2⟩
theorem Walk.trans {a b c : Int} {p q : List Bd} (h1 : Walk a b p) (h2 : Walk b c q) : Walk a c (p ++ q) := walk_append.2 ⟨b, h1, h2⟩
theorem Over.append {bs p q : List Bd} (h1 : Over bs p) (h2 : Over bs q) : Over bs (p ++ q) := fun x hx => (List.mem_append.1 hx).elim (h1 x) (h2 x)
theorem Over.left {bs p q : List Bd} (h : Over bs (p ++ q)) : Over bs p := fun x hx => h x (List.mem_append_left _ hx)
theorem Over.right {bs p q : List Bd} (h : Over bs (p ++ q)) : Over bs q := fun x hx => h x (List.mem_append_right _ hx)
theorem Over.tail {bs q : List Bd} {x : Bd} (h : Over bs (x :: q)) : Over bs q := fun y hy => h y (List.mem_cons_of_mem _ hy)
theorem Over.head {bs q : List Bd} {x : Bd} (h : Over bs (x :: q)) : x ∈ bs := h x (List.mem_cons_self ..)
theorem Over.one {bs : List Bd} {x : Bd} (h : x ∈ bs) : Over bs [x] := fun y hy => by rw [List.mem_singleton.1 hy]; exact h
theorem Over.nil {bs : List Bd} : Over bs [] := fun y hy => by cases hy
def AllValid (N : Int) (bs : List Bd) : Prop := ∀ b ∈ bs, b.valid N
theorem walk_pot {h : List Int} {bs : List Bd} (hp : Pot h bs) : ∀ {a b : Int} {l : List Bd}, Walk a b l → Over bs l → getI h b - getI h a ≤ wsum l
 | a, b, [], hw, _ => by simp only [Walk] at hw; subst hw; simp [wsum]
 | a, b, x :: l, hw, ho => by
   have h1 := walk_pot hp hw.2 ho.tail
   have h2 := hp x ho.head
   rw [hw.1] at h2
   simp only [wsum]
   omega
def NoNeg (bs : List Bd) : Prop := ∀ a l, Walk a a l → Over bs l → 0 ≤ wsum l
theorem noNeg_of_pot {h : List Int} {bs : List Bd} (hp : Pot h bs) : NoNeg bs := fun a l hw ho => by have := walk_pot hp hw ho; omega
theorem pigeon : ∀ (N : Nat) (f : Nat → Nat), (∀ i, i ≤ N → f i < N) → ∃ i j, i < j ∧ j ≤ N ∧ f i = f j
 | 0, f, h => by have := h 0 (Nat.le_refl _); omega
 | N + 1, f, h => by
   by_cases hx : ∃ i, i ≤ N ∧ f i = f (N + 1)
   ·obtain ⟨i, hi, e⟩ := hx
    exact ⟨i, N + 1, by omega, Nat.le_refl _, e⟩
   ·have hne : ∀ i, i ≤ N → f i ≠ f (N + 1) := fun i hi e => hx ⟨i, hi, e⟩
    have hN := h (N + 1) (Nat.le_refl _)
    obtain ⟨i, j, h1, h2, h3⟩ := pigeon N (fun i => if f i < f (N + 1) then f i else f i - 1) (fun i hi => by
     have a := hne i hi
     have b := h i (by omega)
     show (if f i < f (N + 1) then f i else f i - 1) < N
     split <;> omega)
    refine ⟨i, j, h1, by omega, ?_⟩
    have a := hne i (by omega)
    have b := hne j h2
    have h4 : (if f i < f (N + 1) then f i else f i - 1) = (if f j < f (N + 1) then f j else f j - 1) := h3
    split at h4 <;> split at h4 <;> omega
def vert (a : Int) : List Bd → Nat → Int
 | _, 0 => a
 | [], _ + 1 => a
 | x :: l, k + 1 => vert x.dst l k
theorem walk_split : ∀ {a b : Int} {l : List Bd} (k : Nat), k ≤ l.length → Walk a b l → Walk a (vert a l k) (l.take k) ∧ Walk (vert a l k) b (l.drop k)
 | a, b, l, 0, _, h => by simp [vert, Walk, h]
 | a, b, [], k + 1, hk, h => by simp at hk
 | a, b, x :: l, k + 1, hk, h => by
   have := walk_split k (by simpa using hk) h.2
   simp only [vert, List.take_succ_cons, List.drop_succ_cons, Walk]
   exact ⟨⟨h.1, this.1⟩, this.2⟩
theorem vert_range {N : Int} {bs : List Bd} (hv : AllValid N bs) : ∀ {a : Int} {l : List Bd} (k : Nat), 0 ≤ a → a < N → Over bs l → 0 ≤ vert a l k ∧ vert a l k < N
 | a, l, 0, h0, h1, _ => by cases l <;> exact ⟨h0, h1⟩
 | a, [], k + 1, h0, h1, _ => ⟨h0, h1⟩
 | a, x :: l, k + 1, h0, h1, ho => by
   have hx := hv x ho.head
   exact vert_range hv k hx.2.2.1 hx.2.2.2.1 ho.tail
theorem vert_take : ∀ (l : List Bd) (a : Int) (i j : Nat), i ≤ j → vert a (l.take j) i = vert a l i
 | l, a, 0, j, _ => by cases l <;> cases j <;> simp [vert]
 | [], a, i + 1, j, _ => by simp
 | x :: l, a, i + 1, 0, h => by omega
 | x :: l, a, i + 1, j + 1, h => by
   simp only [List.take_succ_cons, vert]
   exact vert_take l x.dst i j (by omega)
theorem walk_cycle {N : Nat} {bs : List Bd} (hv : AllValid N bs) {a b : Int} {l : List Bd} (ha0 : 0 ≤ a) (ha1 : a < N) (hw : Walk a b l) (ho : Over bs l) (hl : N ≤ l.length) :
 ∃ p c q x, l = p ++ c ++ q ∧ c ≠ [] ∧ Walk a x p ∧ Walk x x c ∧ Walk x b q := by
 obtain ⟨i, j, hij, hj, e⟩ := pigeon N (fun k => (vert a l k).toNat) (fun k hk => by have := vert_range hv k ha0 ha1 ho; show (vert a l k).toNat < N; omega)
 have ri := vert_range hv i ha0 ha1 ho
 have rj := vert_range hv j ha0 ha1 ho
 have e2 : vert a l i = vert a l j := by
  have e' : (vert a l i).toNat = (vert a l j).toNat := e
  omega
 have sj := walk_split j (by omega) hw
 have si := walk_split (l := l.take j) (k := i) (by simp; omega) sj.1
 rw [vert_take l a i j (by omega)] at si
 refine ⟨(l.take j).take i, (l.take j).drop i, l.drop j, vert a l i, by rw [List.take_append_drop, List.take_append_drop], ?_, si.1, ?_, ?_⟩
 ·intro e3
  have := congrArg List.length e3
  simp at this; omega
 ·have := si.2; rw [← e2] at this; exact this
 ·rw [e2]; exact sj.2
theorem walk_short {N : Nat} {bs : List Bd} (hv : AllValid N bs) (hn : NoNeg bs) : ∀ (n : Nat) {a b : Int} {l : List Bd}, l.length ≤ n → 0 ≤ a → a < N → Walk a b l → Over bs l →
 ∃ l', Walk a b l' ∧ Over bs l' ∧ l'.length < N ∧ wsum l' ≤ wsum l
 | 0, a, b, l, hl, h0, h1, hw, ho => ⟨l, hw, ho, by omega, Int.le_refl _⟩
 | n + 1, a, b, l, hl, h0, h1, hw, ho => by
   by_cases hlt : l.length < N
   ·exact ⟨l, hw, ho, hlt, Int.le_refl _⟩
   ·obtain ⟨p, c, q, x, e, hc, h2, h3, h4⟩ := walk_cycle hv h0 h1 hw ho (by omega)
    subst e
    have hcl : 0 < c.length := List.length_pos_iff.2 hc
    obtain ⟨l', g1, g2, g3, g4⟩ := walk_short hv hn n (l := p ++ q) (by simp at hl ⊢; omega) h0 h1 (h2.trans h4) (ho.left.left.append ho.right)
    have := hn x c h3 ho.left.right
    refine ⟨l', g1, g2, g3, ?_⟩
    rw [wsum_append] at g4
    rw [wsum_append, wsum_append]
    omega
theorem getI_set (h : List Int) (j i v : Int) : getI (h.set j.toNat v) i = if i.toNat = j.toNat ∧ j.toNat < h.length then v else getI h i := by
 unfold getI; rw [getD_set]
theorem relaxC_flag {s : List Int × Bool} (h : s.2 = true) (b : Bd) : (relaxC s b).2 = true := by unfold relaxC; split <;> first | rfl | exact h
theorem fold_flag : ∀ (bs : List Bd) (s : List Int × Bool), s.2 = true → (bs.foldl relaxC s).2 = true
 | [], _, h => h
 | b :: bs, _s, h => fold_flag bs _ (relaxC_flag h b)
theorem fold_still : ∀ (bs : List Bd) (s : List Int × Bool), (bs.foldl relaxC s).2 = false → (bs.foldl relaxC s).1 = s.1 ∧ ∀ b ∈ bs, getI s.1 b.dst ≤ getI s.1 b.src + b.most
 | [], s, _ => ⟨rfl, fun b hb => by cases hb⟩
 | b :: bs, s, h => by
   simp only [List.foldl_cons] at h ⊢
   by_cases hlt : getI s.1 b.src + b.most < getI s.1 b.dst
   ·rw [fold_flag bs _ (by unfold relaxC; rw [if_pos hlt])] at h; cases h
   ·have e : relaxC s b = s := by unfold relaxC; rw [if_neg hlt]
    rw [e] at h ⊢
    obtain ⟨h1, h2⟩ := fold_still bs s h
    refine ⟨h1, fun x hx => ?_⟩
    rcases List.mem_cons.1 hx with rfl | hx
    ·omega
    ·exact h2 x hx
theorem fold_quiet : ∀ (bs : List Bd) (s : List Int × Bool), (∀ b ∈ bs, getI s.1 b.dst ≤ getI s.1 b.src + b.most) → bs.foldl relaxC s = s
 | [], _, _ => rfl
 | b :: bs, s, h => by
   have e : relaxC s b = s := by unfold relaxC; rw [if_neg (by have := h b (List.mem_cons_self ..); omega)]
   rw [List.foldl_cons, e]
   exact fold_quiet bs s (fun x hx => h x (List.mem_cons_of_mem _ hx))
theorem openedGo_pot {bs : List Bd} : ∀ (r : Nat) (h h' : List Int), openedGo bs r h = some h' → Pot h' bs
 | 0, _, _, e => by simp [openedGo] at e
 | r + 1, h, h', e => by
   simp only [openedGo] at e
   split at e
   ·exact openedGo_pot r _ _ e
   ·rename_i hf
    have hf' : (roundP bs h).2 = false := by simpa using hf
    obtain ⟨h1, h2⟩ := fold_still bs (h, false) hf'
    simp only [Option.some.injEq] at e
    have e1 : h' = h := by rw [← e]; exact h1
    subst e1
    intro b hb
    have := h2 b hb
    simp only at this
    omega
theorem openedP_pot {N : Int} {bs : List Bd} {h : List Int} (e : openedP N bs = some h) : Pot h bs := openedGo_pot _ _ _ e
theorem openedP_length {N : Int} {bs : List Bd} {h : List Int} (e : openedP N bs = some h) : h.length = 128 := by
 have := openedGo_length _ _ _ e
 simpa using this
theorem openedP_low {N : Int} {bs : List Bd} {h : List Int} (hv : AllValid N bs) (e : openedP N bs = some h) : LowBy ((N + 1).toNat * bs.length) h := by
 have := openedGo_low hv _ 0 _ _ (lowBy_start 128) e
 simpa using this
def Reach (N : Int) (bs : List Bd) (h : List Int) : Prop := ∀ v, 0 ≤ v → v < N → ∃ a l, 0 ≤ a ∧ a < N ∧ Walk a v l ∧ Over bs l ∧ wsum l = getI h v
def LowR (N : Int) (bs : List Bd) (k : Nat) (h : List Int) : Prop := ∀ a v l, 0 ≤ a → a < N → Walk a v l → Over bs l → l.length ≤ k → getI h v ≤ wsum l
theorem relaxC_le (s : List Int × Bool) (b : Bd) (v : Int) : getI (relaxC s b).1 v ≤ getI s.1 v := by
 unfold relaxC
 split
 ·rename_i hlt
  show getI (s.1.set b.dst.toNat _) v ≤ _
  rw [getI_set]
  split
  ·rename_i e
   have : getI s.1 v = getI s.1 b.dst := by unfold getI; rw [e.1]
   omega
  ·exact Int.le_refl _
 ·exact Int.le_refl _
theorem fold_le : ∀ (bs : List Bd) (s : List Int × Bool) (v : Int), getI (bs.foldl relaxC s).1 v ≤ getI s.1 v
 | [], _, _ => Int.le_refl _
 | b :: bs, s, v => Int.le_trans (fold_le bs _ v) (relaxC_le s b v)
theorem relaxC_step {N : Int} {s : List Int × Bool} {b : Bd} (hb : b.valid N) (hN : N ≤ 128) (hl : s.1.length = 128) : getI (relaxC s b).1 b.dst ≤ getI s.1 b.src + b.most := by
 unfold relaxC
 split
 ·show getI (s.1.set b.dst.toNat _) _ ≤ _
  obtain ⟨_, _, v3, v4, _⟩ := hb
  rw [getI_set, if_pos ⟨rfl, by omega⟩]
  exact Int.le_refl _
 ·omega
theorem fold_step {N : Int} (hN : N ≤ 128) : ∀ (bs : List Bd) (s : List Int × Bool), AllValid N bs → s.1.length = 128 → ∀ b ∈ bs, getI (bs.foldl relaxC s).1 b.dst ≤ getI s.1 b.src + b.most
 | [], _, _, _, b, hb => by cases hb
 | x :: bs, s, hv, hl, b, hb => by
   rw [List.foldl_cons]
   rcases List.mem_cons.1 hb with rfl | hb
   ·exact Int.le_trans (fold_le bs _ _) (relaxC_step (hv b (List.mem_cons_self ..)) hN hl)
   ·have := fold_step hN bs (relaxC s x) (fun y hy => hv y (List.mem_cons_of_mem _ hy)) (by rw [relaxC_length]; exact hl) b hb
    have := relaxC_le s x b.src
    omega
theorem walk_last {a v : Int} {p : List Bd} {x : Bd} (h : Walk a v (p ++ [x])) : Walk a x.src p ∧ v = x.dst := by
 obtain ⟨b, h1, h2⟩ := walk_append.1 h
 simp only [Walk] at h2
 exact ⟨by rw [h2.1]; exact h1, h2.2.symm⟩
theorem lowR_round {N : Int} {bs : List Bd} {k : Nat} {h : List Int} (hN : N ≤ 128) (hv : AllValid N bs) (hl : h.length = 128) (H : LowR N bs k h) : LowR N bs (k + 1) (roundP bs h).1 := by
 intro a v l h0 h1 hw ho hlen
 rcases List.eq_nil_or_concat l with rfl | ⟨p, x, rfl⟩
 ·exact Int.le_trans (fold_le bs (h, false) v) (H a v [] h0 h1 hw ho (by simp))
 ·rw [List.concat_eq_append] at hw ho hlen ⊢
  obtain ⟨w1, rfl⟩ := walk_last hw
  have hx : x ∈ bs := ho x (by simp)
  have s1 := fold_step hN bs (h, false) hv hl x hx
  have s2 := H a x.src p h0 h1 w1 ho.left (by simp at hlen; omega)
  simp only at s1
  rw [wsum_append]
  simp only [wsum]
  show getI (bs.foldl relaxC (h, false)).1 x.dst ≤ _
  omega
theorem relaxC_reach {N : Int} {bs : List Bd} {s : List Int × Bool} {b : Bd} (hv : AllValid N bs) (hb : b ∈ bs) (H : Reach N bs s.1) : Reach N bs (relaxC s b).1 := by
 unfold relaxC
 split
 ·intro v h0 h1
  show ∃ a l, 0 ≤ a ∧ a < N ∧ Walk a v l ∧ Over bs l ∧ wsum l = getI (s.1.set b.dst.toNat _) v
  rw [getI_set]
  obtain ⟨v1, v2, v3, v4, _⟩ := hv b hb
  split
  ·rename_i e
   have e1 : v = b.dst := by omega
   subst e1
   obtain ⟨a, l, a0, a1, hw, ho, hs⟩ := H b.src v1 v2
   refine ⟨a, l ++ [b], a0, a1, hw.trans ⟨rfl, rfl⟩, ho.append (Over.one hb), ?_⟩
   rw [wsum_append, hs]; simp [wsum]
  ·exact H v h0 h1
 ·exact H
theorem fold_reach {N : Int} {bs : List Bd} (hv : AllValid N bs) : ∀ (cs : List Bd) (s : List Int × Bool), (∀ c ∈ cs, c ∈ bs) → Reach N bs s.1 → Reach N bs (cs.foldl relaxC s).1
 | [], _, _, H => H
 | c :: cs, _s, hc, H => fold_reach hv cs _ (fun x hx => hc x (List.mem_cons_of_mem _ hx)) (relaxC_reach hv (hc c (List.mem_cons_self ..)) H)
theorem low_quiet {N : Nat} {bs : List Bd} {k : Nat} {h : List Int} (hv : AllValid N bs) (hn : NoNeg bs) (hk : N ≤ k + 1) (HR : Reach N bs h) (HL : LowR N bs k h) : ∀ b ∈ bs, getI h b.dst ≤ getI h b.src + b.most := by
 intro b hb
 obtain ⟨v1, v2, v3, v4, _⟩ := hv b hb
 obtain ⟨a, l, a0, a1, hw, ho, hs⟩ := HR b.src v1 v2
 obtain ⟨l', g1, g2, g3, g4⟩ := walk_short hv hn (l ++ [b]).length (l := l ++ [b]) (Nat.le_refl _) a0 a1 (hw.trans ⟨rfl, rfl⟩) (ho.append (Over.one hb))
 have := HL a b.dst l' a0 a1 g1 g2 (by omega)
 rw [wsum_append, hs] at g4
 simp only [wsum] at g4
 omega
theorem openedGo_some {N : Nat} {bs : List Bd} (hN : N ≤ 128) (hv : AllValid N bs) (hn : NoNeg bs) : ∀ (r k : Nat) (h : List Int), 1 ≤ r → N ≤ k + r → h.length = 128 → Reach N bs h → LowR N bs k h → ∃ h', openedGo bs r h = some h'
 | 0, _, _, h1, _, _, _, _ => by omega
 | r + 1, k, h, _, hk, hl, HR, HL => by
   simp only [openedGo]
   split
   ·rename_i hf
    by_cases hr : r = 0
    ·have := fold_quiet bs (h, false) (low_quiet hv hn (by omega) HR HL)
     rw [roundP, this] at hf; cases hf
    ·exact openedGo_some hN hv hn r (k + 1) _ (by omega) (by omega) (by unfold roundP; rw [foldl_relaxC_length]; exact hl) (fold_reach hv bs (h, false) (fun _ hc => hc) HR) (lowR_round (by omega) hv hl HL)
   ·exact ⟨_, rfl⟩
theorem getI_rep0 (v : Int) : getI (List.replicate 128 0) v = 0 := by
 unfold getI
 simp only [List.getD_eq_getElem?_getD, List.getElem?_replicate]
 split <;> rfl
theorem openedP_some {N : Nat} {bs : List Bd} (hN : N ≤ 128) (hv : AllValid N bs) (hn : NoNeg bs) : ∃ h, openedP N bs = some h := by
 unfold openedP
 refine openedGo_some hN hv hn _ 0 _ (by omega) (by omega) (by simp) ?_ ?_
 ·intro v h0 h1
  exact ⟨v, [], h0, h1, rfl, Over.nil, by rw [getI_rep0]; rfl⟩
 ·intro a v l h0 h1 hw ho hlen
  have : l = [] := List.length_eq_zero_iff.1 (by omega)
  subst this
  rw [getI_rep0]; simp [wsum]
theorem openedP_iff {N : Nat} {bs : List Bd} (hN : N ≤ 128) (hv : AllValid N bs) : (openedP N bs).isSome = true ↔ NoNeg bs := by
 constructor
 ·intro h
  obtain ⟨t, ht⟩ := Option.isSome_iff_exists.1 h
  exact noNeg_of_pot (openedP_pot ht)
 ·intro h
  obtain ⟨t, ht⟩ := openedP_some hN hv h
  rw [ht]; rfl
def IsDist (l : List Bd) (a b d : Int) : Prop := (∃ p, Walk a b p ∧ Over l p ∧ wsum p = d) ∧ ∀ p, Walk a b p → Over l p → d ≤ wsum p
def NoWalk (l : List Bd) (a b : Int) : Prop := ∀ p, Walk a b p → ¬ Over l p
def DistRow (N : Nat) (l : List Bd) (a : Int) (r : List Int) : Prop :=
 r.length = 128 ∧ ∀ v : Nat, v < N → (r.getD v 0 < farI ∧ IsDist l a v (r.getD v 0)) ∨ (r.getD v 0 = farI ∧ NoWalk l a v)
theorem wsum_bd {N : Int} {bs : List Bd} (hv : AllValid N bs) : ∀ {l : List Bd}, Over bs l → -((l.length : Int) * 1000000) ≤ wsum l ∧ wsum l ≤ (l.length : Int) * 1000000
 | [], _ => by simp [wsum]
 | x :: l, ho => by
   have h1 := wsum_bd hv (l := l) ho.tail
   obtain ⟨_, _, _, _, h2, h3⟩ := hv x ho.head
   simp only [wsum, List.length_cons]
   omega
theorem isDist_bd {N : Nat} {bs : List Bd} (hv : AllValid N bs) (hn : NoNeg bs) {a b d : Int} (h0 : 0 ≤ a) (h1 : a < N) (h : IsDist bs a b d) : -((N : Int) * 1000000) ≤ d ∧ d ≤ (N : Int) * 1000000 := by
 obtain ⟨⟨p, p1, p2, p3⟩, h2⟩ := h
 obtain ⟨q, q1, q2, q3, q4⟩ := walk_short hv hn p.length (Nat.le_refl _) h0 h1 p1 p2
 have := h2 q q1 q2
 have := wsum_bd hv q2
 omega
def rsum (h : List Int) : List Bd → Int
 | [] => 0
 | x :: l => (x.most + getI h x.src - getI h x.dst) + rsum h l
theorem rsum_eq (h : List Int) : ∀ {a b : Int} {l : List Bd}, Walk a b l → rsum h l = wsum l + getI h a - getI h b
 | a, b, [], hw => by simp only [Walk] at hw; subst hw; simp [rsum, wsum]
 | a, b, x :: l, hw => by
   have := rsum_eq h hw.2
   rw [← hw.1]
   simp only [rsum, wsum]
   omega
theorem rsum_append (h : List Int) (p q : List Bd) : rsum h (p ++ q) = rsum h p + rsum h q := by
 induction p with
 | nil => simp [rsum]
 | cons x p ih => simp only [List.cons_append, rsum, ih]; omega
structure DInv (N : Nat) (h : List Int) (l : List Bd) (a : Nat) (out : List Int) (done : List Bool) : Prop where
 ok : OutOk out
 dl : done.length = 128
 here : out.getD a 0 = 0
 path : ∀ v : Nat, v < N → out.getD v 0 < farI → ∃ p, Walk a v p ∧ Over l p ∧ rsum h p = out.getD v 0
 relaxed : ∀ b ∈ l, done.getD b.src.toNat false = true → getI out b.dst ≤ getI out b.src + (b.most + getI h b.src - getI h b.dst)
 first : ∀ p q : Nat, q < N → done.getD p false = true → done.getD q false = false → out.getD p 0 ≤ out.getD q 0
 near : ∀ p : Nat, done.getD p false = true → out.getD p 0 < farI
theorem getD_eq_getI (r : List Int) (v : Nat) : r.getD v 0 = getI r (v : Int) := by unfold getI; rw [Int.toNat_natCast]
theorem pick_least (out : List Int) (done : List Bool) : ∀ (l : List Nat) (pre : List Nat) (at_ : Int),
 (at_ < 0 ∧ (∀ p ∈ pre, done.getD p false = true ∨ farI ≤ out.getD p 0)) ∨ (0 ≤ at_ ∧ ∀ p ∈ pre, done.getD p false = true ∨ farI ≤ out.getD p 0 ∨ getI out at_ ≤ out.getD p 0) →
 (l.foldl (pick1 out done) at_ < 0 ∧ (∀ p ∈ pre ++ l, done.getD p false = true ∨ farI ≤ out.getD p 0)) ∨ (0 ≤ l.foldl (pick1 out done) at_ ∧ ∀ p ∈ pre ++ l, done.getD p false = true ∨ farI ≤ out.getD p 0 ∨ getI out (l.foldl (pick1 out done) at_) ≤ out.getD p 0)
 | [], pre, at_, H => by simpa using H
 | x :: l, pre, at_, H => by
   have key : (pick1 out done at_ x < 0 ∧ (∀ p ∈ pre ++ [x], done.getD p false = true ∨ farI ≤ out.getD p 0)) ∨ (0 ≤ pick1 out done at_ x ∧ ∀ p ∈ pre ++ [x], done.getD p false = true ∨ farI ≤ out.getD p 0 ∨ getI out (pick1 out done at_ x) ≤ out.getD p 0) := by
    unfold pick1
    split
    ·rename_i h
     right
     refine ⟨by omega, fun p hp => ?_⟩
     have e : getI out (x : Int) = out.getD x 0 := (getD_eq_getI out x).symm
     rw [e]
     rcases List.mem_append.1 hp with hp | hp
     ·rcases H with ⟨h1, h2⟩ | ⟨h1, h2⟩
      ·rcases h2 p hp with q | q
       ·exact .inl q
       ·exact .inr (.inl q)
      ·rcases h2 p hp with q | q | q
       ·exact .inl q
       ·exact .inr (.inl q)
       ·right; right
        rcases h.2.2 with h3 | h3 <;> omega
     ·rw [List.mem_singleton.1 hp]; right; right; exact Int.le_refl _
    ·rename_i h
     have hx : done.getD x false = true ∨ farI ≤ out.getD x 0 ∨ (0 ≤ at_ ∧ getI out at_ ≤ out.getD x 0) := by
      by_cases h1 : done.getD x false = true
      ·exact .inl h1
      ·have h1' : done.getD x false = false := by simpa using h1
       by_cases h2 : out.getD x 0 < farI
       ·right; right
        have : ¬ (at_ < 0 ∨ out.getD x 0 < getI out at_) := fun h3 => h ⟨h1', h2, h3⟩
        omega
       ·right; left; omega
     rcases H with ⟨h1, h2⟩ | ⟨h1, h2⟩
     ·left
      refine ⟨h1, fun p hp => ?_⟩
      rcases List.mem_append.1 hp with hp | hp
      ·exact h2 p hp
      ·rw [List.mem_singleton.1 hp]
       rcases hx with q | q | q
       ·exact .inl q
       ·exact .inr q
       ·omega
     ·right
      refine ⟨h1, fun p hp => ?_⟩
      rcases List.mem_append.1 hp with hp | hp
      ·exact h2 p hp
      ·rw [List.mem_singleton.1 hp]
       rcases hx with q | q | q
       ·exact .inl q
       ·exact .inr (.inl q)
       ·exact .inr (.inr q.2)
   have := pick_least out done l (pre ++ [x]) _ key
   simpa [List.append_assoc] using this
theorem pickP_least (N : Nat) (out : List Int) (done : List Bool) :
 (pickP N out done < 0 ∧ ∀ p, p < N → done.getD p false = true ∨ farI ≤ out.getD p 0) ∨ (0 ≤ pickP N out done ∧ ∀ p, p < N → done.getD p false = true ∨ farI ≤ out.getD p 0 ∨ getI out (pickP N out done) ≤ out.getD p 0) := by
 have := pick_least out done (List.range N) [] (-1) (.inl ⟨by omega, fun p hp => by cases hp⟩)
 simpa [pickP] using this
theorem relaxD_get {h : List Int} {at_ : Nat} {out : List Int} {b : Bd} (hl : out.length = 128) (hd0 : 0 ≤ b.dst) (hd1 : b.dst < 128) (v : Nat) :
 (relaxD h at_ out b).getD v 0 = if v = b.dst.toNat then min (out.getD v 0) (out.getD at_ 0 + (b.most + getI h b.src - getI h b.dst)) else out.getD v 0 := by
 unfold relaxD
 rw [getD_set]
 by_cases e : v = b.dst.toNat
 ·subst e
  rw [if_pos ⟨rfl, by omega⟩, if_pos rfl]
  unfold getI
  omega
 ·rw [if_neg (fun h => e h.1), if_neg e]
structure RelInv (N : Nat) (h : List Int) (l : List Bd) (a : Nat) (at_ : Nat) (o0 : List Int) (done : List Bool) (pre : List Bd) (out : List Int) : Prop where
 ok : OutOk out
 le : ∀ v : Nat, out.getD v 0 ≤ o0.getD v 0
 ge : ∀ v : Nat, o0.getD v 0 = out.getD v 0 ∨ o0.getD at_ 0 ≤ out.getD v 0
 path : ∀ v : Nat, v < N → out.getD v 0 < farI → ∃ p, Walk a v p ∧ Over l p ∧ rsum h p = out.getD v 0
 done_ : ∀ b ∈ pre, getI out b.dst ≤ getI out b.src + (b.most + getI h b.src - getI h b.dst)
theorem relInv_fold {N : Nat} {h : List Int} {l : List Bd} {a at_ : Nat} {o0 : List Int} {done : List Bool} (hN : N ≤ 128) (hat : at_ < N) (hv : AllValid N l) (hp : Pot h l) (hfar : o0.getD at_ 0 < farI) :
 ∀ (cs pre : List Bd) (out : List Int), (∀ b ∈ cs, b ∈ l ∧ b.src = at_) → (∀ b ∈ pre, b.src = at_) → RelInv N h l a at_ o0 done pre out → RelInv N h l a at_ o0 done (pre ++ cs) (cs.foldl (relaxD h at_) out)
 | [], pre, out, _, _, H => by simpa using H
 | b :: cs, pre, out, hc, hpre, H => by
   obtain ⟨hb, hs⟩ := hc b (List.mem_cons_self ..)
   obtain ⟨v1, v2, v3, v4, v5, v6⟩ := hv b hb
   have hpb := hp b hb
   have hl := H.ok.1
   have hget := relaxD_get (h := h) (at_ := at_) (b := b) hl v3 (by omega)
   have hat0 : out.getD at_ 0 = o0.getD at_ 0 := by
    have := H.le at_
    rcases H.ge at_ with e | e
    ·exact e.symm
    ·omega
   have hsrc : getI (relaxD h at_ out b) b.src = o0.getD at_ 0 := by
    rw [hs, ← getD_eq_getI, hget]
    split
    ·omega
    ·exact hat0
   have key : RelInv N h l a at_ o0 done (pre ++ [b]) (relaxD h at_ out b) := by
    refine ⟨outOk_relax H.ok hpb, fun v => ?_, fun v => ?_, fun v hvN hlt => ?_, fun x hx => ?_⟩
    ·rw [hget]; have := H.le v; split <;> omega
    ·rw [hget]
     have := H.ge v
     split <;> omega
    ·rw [hget] at hlt ⊢
     split at hlt
     ·rename_i e
      rw [if_pos e]
      by_cases hm : out.getD v 0 ≤ out.getD at_ 0 + (b.most + getI h b.src - getI h b.dst)
      ·rw [Int.min_eq_left hm]
       exact H.path v hvN (by omega)
      ·rw [Int.min_eq_right (by omega)]
       obtain ⟨p, p1, p2, p3⟩ := H.path at_ hat (by omega)
       refine ⟨p ++ [b], p1.trans ⟨hs, by show b.dst = _; omega⟩, p2.append (Over.one hb), ?_⟩
       rw [rsum_append, p3]
       simp [rsum]
     ·rename_i e
      rw [if_neg e]
      exact H.path v hvN hlt
    ·rcases List.mem_append.1 hx with hx | hx
     ·have h1 := H.done_ x hx
      have e1 : getI (relaxD h at_ out b) x.src = getI out x.src := by
       rw [hpre x hx, ← getD_eq_getI, ← getD_eq_getI]
       have := hsrc
       rw [hs, ← getD_eq_getI] at this
       rw [this, hat0]
      have e2 : getI (relaxD h at_ out b) x.dst ≤ getI out x.dst := by
       show (relaxD h at_ out b).getD x.dst.toNat 0 ≤ out.getD x.dst.toNat 0
       rw [hget]; split <;> omega
      omega
     ·rw [List.mem_singleton.1 hx, hsrc]
      show (relaxD h at_ out b).getD b.dst.toNat 0 ≤ _
      rw [hget, if_pos rfl]
      omega
   have := relInv_fold hN hat hv hp hfar cs (pre ++ [b]) _ (fun x hx => hc x (List.mem_cons_of_mem _ hx)) (fun x hx => (List.mem_append.1 hx).elim (hpre x) (fun h => by rw [List.mem_singleton.1 h]; exact hs)) key
   simpa [List.append_assoc] using this
theorem getDB_set (d : List Bool) (j i : Nat) (v : Bool) : (d.set j v).getD i false = if i = j ∧ j < d.length then v else d.getD i false := by
 simp only [List.getD_eq_getElem?_getD, List.getElem?_set]
 by_cases e : j = i
 ·subst e
  by_cases hl : j < d.length
  ·simp [hl]
  ·simp [hl]
 ·simp [e, Ne.symm e]
theorem dInv_step {N : Nat} {h : List Int} {l : List Bd} {a : Nat} {out : List Int} {done : List Bool} (hN : N ≤ 128) (hv : AllValid N l) (hp : Pot h l) (H : DInv N h l a out done) {k : Nat} (hk : pickP N out done = (k : Int)) :
 DInv N h l a ((l.filter fun b => b.src == (k : Int)).foldl (relaxD h k) out) (done.set k true) ∧ k < N ∧ done.getD k false = false := by
 have hr := pickP_range N out done
 have hle := pickP_least N out done
 rw [hk] at hr hle
 rcases hr with hr | ⟨r1, r2, r3⟩
 ·omega
 rw [Int.toNat_natCast] at r1 r2 r3
 rcases hle with ⟨hle, _⟩ | ⟨_, hle⟩
 ·omega
 rw [← getD_eq_getI] at hle
 have R := relInv_fold (a := a) (done := done) hN r1 hv hp r3 (l.filter fun b => b.src == (k : Int)) [] out (fun b hb => by simpa using List.mem_filter.1 hb) (fun b hb => by cases hb)
  ⟨H.ok, fun v => Int.le_refl _, fun v => .inl rfl, H.path, fun b hb => by cases hb⟩
 rw [List.nil_append] at R
 obtain ⟨o, ho⟩ : ∃ o, (l.filter fun b => b.src == (k : Int)).foldl (relaxD h k) out = o := ⟨_, rfl⟩
 rw [ho] at R ⊢
 have same : ∀ p : Nat, done.getD p false = true → o.getD p 0 = out.getD p 0 := by
  intro p hpd
  have h1 := H.first p k r1 hpd r2
  have h2 := R.le p
  rcases R.ge p with e | e <;> omega
 have samek : o.getD k 0 = out.getD k 0 := by
  have h2 := R.le k
  rcases R.ge k with e | e <;> omega
 refine ⟨⟨R.ok, by simpa using H.dl, ?_, R.path, ?_, ?_, ?_⟩, r1, r2⟩
 ·have h1 := R.le a
  have h2 := (R.ok.2 a).1
  rw [H.here] at h1
  omega
 ·intro b hb hd
  obtain ⟨v1, v2, v3, v4, v5, v6⟩ := hv b hb
  by_cases e : b.src = (k : Int)
  ·exact R.done_ b (List.mem_filter.2 ⟨hb, by simpa using e⟩)
  ·have hd' : done.getD b.src.toNat false = true := by
    rw [getDB_set] at hd
    split at hd
    ·omega
    ·exact hd
   have h1 := H.relaxed b hb hd'
   have h2 : getI o b.src = getI out b.src := same _ hd'
   have h3 : getI o b.dst ≤ getI out b.dst := R.le _
   omega
 ·intro p q hqN hpd hqd
  rw [getDB_set] at hpd hqd
  have hkl : k < done.length := by rw [H.dl]; omega
  have hqk : q ≠ k := by
   intro e; rw [if_pos ⟨e, hkl⟩] at hqd; cases hqd
  rw [if_neg (fun e => hqk e.1)] at hqd
  by_cases e : p = k
  ·subst e
   rw [samek]
   rcases R.ge q with e | e
   ·rw [← e]
    rcases hle q hqN with x | x | x
    ·rw [x] at hqd; cases hqd
    ·omega
    ·exact x
   ·exact e
  ·rw [if_neg (fun x => e x.1)] at hpd
   rw [same p hpd]
   rcases R.ge q with e | e
   ·rw [← e]; exact H.first p q hqN hpd hqd
   ·have := H.first p k r1 hpd r2; omega
 ·intro p hpd
  rw [getDB_set] at hpd
  by_cases e : p = k
  ·subst e; rw [samek]; exact r3
  ·rw [if_neg (fun x => e x.1)] at hpd
   rw [same p hpd]; exact H.near p hpd
theorem dijGo_final {N : Nat} {h : List Int} {l : List Bd} {a : Nat} (hN : N ≤ 128) (hv : AllValid N l) (hp : Pot h l) : ∀ (f : Nat) (out : List Int) (done : List Bool), undone N done < f → DInv N h l a out done →
 ∃ done', DInv N h l a (dijGo N h (nearP N l) f out done) done' ∧ pickP N (dijGo N h (nearP N l) f out done) done' < 0
 | 0, _, _, hf, _ => by omega
 | f + 1, out, done, hf, H => by
   simp only [dijGo]
   by_cases hk : pickP N out done < 0
   ·rw [if_pos hk]; exact ⟨done, H, hk⟩
   ·rw [if_neg hk]
    obtain ⟨k, hkk⟩ := Int.eq_ofNat_of_zero_le (Int.not_lt.1 hk)
    obtain ⟨h1, h2, h3⟩ := dInv_step hN hv hp H hkk
    rw [hkk, Int.toNat_natCast, nearP_get h2]
    refine dijGo_final hN hv hp f _ _ ?_ h1
    have := undone_set (N := N) (by rw [H.dl]; omega) h2 h3
    omega
theorem dist_low {N : Nat} {h : List Int} {l : List Bd} {a : Nat} {out : List Int} {done : List Bool} (hv : AllValid N l) (hp : Pot h l) (H : DInv N h l a out done) (hk : pickP N out done < 0) :
 ∀ (n : Nat) (q : List Bd) (v : Int), q.length ≤ n → Walk a v q → Over l q → rsum h q < farI → getI out v ≤ rsum h q
 | n, q, v, hn, hw, ho, hs => by
   rcases List.eq_nil_or_concat q with rfl | ⟨p, b, rfl⟩
   ·simp only [Walk] at hw
    subst hw
    rw [← getD_eq_getI, H.here]; simp [rsum]
   ·rw [List.concat_eq_append] at hw ho hs hn ⊢
    cases n with
    | zero => simp at hn
    | succ n =>
      obtain ⟨w1, rfl⟩ := walk_last hw
      have hb : b ∈ l := ho b (by simp)
      have hpb := hp b hb
      obtain ⟨v1, v2, _⟩ := hv b hb
      rw [rsum_append] at hs ⊢
      simp only [rsum] at hs ⊢
      have ih := dist_low hv hp H hk n p b.src (by simp at hn; omega) w1 ho.left (by omega)
      have hd : done.getD b.src.toNat false = true := by
       rcases pickP_least N out done with ⟨_, h2⟩ | ⟨h2, _⟩
       ·rcases h2 b.src.toNat (by omega) with x | x
        ·exact x
        ·have : getI out b.src = out.getD b.src.toNat 0 := rfl
         omega
       ·omega
      have := H.relaxed b hb hd
      omega
theorem back_get {h : List Int} {a : Int} {out : List Int} (hl : out.length = 128) : ∀ (k : Nat), k ≤ 128 → ((List.range k).foldl (back1 h a) out).length = 128 ∧ ∀ v : Nat, ((List.range k).foldl (back1 h a) out).getD v 0 = if v < k ∧ out.getD v 0 < farI then out.getD v 0 + (h.getD v 0 - getI h a) else out.getD v 0
 | 0, _ => ⟨hl, fun v => by simp⟩
 | k + 1, hk => by
   obtain ⟨ih1, ih2⟩ := back_get hl k (by omega)
   rw [List.range_succ, List.foldl_append]
   simp only [List.foldl_cons, List.foldl_nil]
   obtain ⟨o, ho⟩ : ∃ o, (List.range k).foldl (back1 h a) out = o := ⟨_, rfl⟩
   rw [ho] at ih1 ih2 ⊢
   unfold back1
   have hk0 := ih2 k
   rw [if_neg (by omega)] at hk0
   split
   ·rename_i hlt
    refine ⟨by simpa using ih1, fun v => ?_⟩
    rw [getD_set, ih2 v]
    by_cases e : v = k
    ·subst e
     rw [if_pos ⟨rfl, by omega⟩, if_pos ⟨by omega, by omega⟩, hk0]
    ·rw [if_neg (fun x => e x.1)]
     by_cases hv : v < k
     ·by_cases hf : out.getD v 0 < farI
      ·rw [if_pos ⟨hv, hf⟩, if_pos ⟨by omega, hf⟩]
      ·rw [if_neg (fun x => hf x.2), if_neg (fun x => hf x.2)]
     ·rw [if_neg (fun x => hv x.1), if_neg (by omega)]
   ·rename_i hlt
    refine ⟨ih1, fun v => ?_⟩
    rw [ih2 v]
    by_cases e : v = k
    ·subst e
     rw [if_neg (by omega), if_neg (by omega)]
    ·by_cases hv : v < k
     ·by_cases hf : out.getD v 0 < farI
      ·rw [if_pos ⟨hv, hf⟩, if_pos ⟨by omega, hf⟩]
      ·rw [if_neg (fun x => hf x.2), if_neg (fun x => hf x.2)]
     ·rw [if_neg (fun x => hv x.1), if_neg (by omega)]
theorem distP_row {N : Nat} {h : List Int} {l : List Bd} {a : Nat} (hN : N ≤ 128) (ha : a < N) (hv : AllValid N l) (hp : Pot h l) (hlow : LowBy 520000 h) : DistRow N l a (distP N h l a) := by
 have hn := noNeg_of_pot hp
 have H0 : DInv N h l a ((List.replicate 128 farI).set a 0) (List.replicate 128 false) := by
  have hget : ∀ v : Nat, ((List.replicate 128 farI).set a 0).getD v 0 = if v = a then 0 else if v < 128 then farI else 0 := by
   intro v
   rw [getD_set]
   simp only [List.length_replicate]
   by_cases e : v = a
   ·rw [if_pos ⟨e, by omega⟩, if_pos e]
   ·rw [if_neg (fun x => e x.1), if_neg e]
    simp only [List.getD_eq_getElem?_getD, List.getElem?_replicate]
    split <;> rfl
  have hno : ∀ p : Nat, (List.replicate 128 false).getD p false = false := by
   intro p
   simp only [List.getD_eq_getElem?_getD, List.getElem?_replicate]
   split <;> rfl
  refine ⟨?_, by simp, by rw [hget, if_pos rfl], ?_, ?_, ?_, ?_⟩
  ·have := outOk_start (a := (a : Int)); rwa [Int.toNat_natCast] at this
  ·intro v hvN hlt
   rw [hget] at hlt ⊢
   by_cases e : v = a
   ·subst e; exact ⟨[], rfl, Over.nil, by rw [if_pos rfl]; rfl⟩
   ·rw [if_neg e, if_pos (by omega)] at hlt; omega
  ·intro b _ hd; rw [hno] at hd; cases hd
  ·intro p q _ hd; rw [hno] at hd; cases hd
  ·intro p hd; rw [hno] at hd; cases hd
 obtain ⟨done, H, hk⟩ := dijGo_final (a := a) hN hv hp (N + 1) _ _ (by have := undone_le N (List.replicate 128 false); omega) H0
 unfold distP backP
 rw [Int.toNat_natCast]
 obtain ⟨out, ho⟩ : ∃ o, dijGo N h (nearP N l) (N + 1) ((List.replicate 128 farI).set a 0) (List.replicate 128 false) = o := ⟨_, rfl⟩
 rw [ho] at H hk ⊢
 obtain ⟨b1, b2⟩ := back_get (h := h) (a := (a : Int)) H.ok.1 N hN
 refine ⟨b1, fun v hvN => ?_⟩
 rw [b2 v]
 have la := hlow a
 have lv := hlow v
 have ea : getI h (a : Int) = h.getD a 0 := (getD_eq_getI h a).symm
 have ev : getI h (v : Int) = h.getD v 0 := (getD_eq_getI h v).symm
 have short : ∀ q, Walk a v q → Over l q → ∃ q', Walk a v q' ∧ Over l q' ∧ wsum q' ≤ wsum q ∧ rsum h q' = wsum q' + h.getD a 0 - h.getD v 0 ∧ -((128 : Int) * 1000000) ≤ wsum q' ∧ wsum q' ≤ (128 : Int) * 1000000 := by
  intro q hw ho
  obtain ⟨q', g1, g2, g3, g4⟩ := walk_short hv hn q.length (Nat.le_refl _) (by omega) (by omega) hw ho
  have := wsum_bd hv g2
  have := rsum_eq h g1
  rw [ea, ev] at this
  exact ⟨q', g1, g2, g4, this, by omega, by omega⟩
 have low : ∀ q, Walk a v q → Over l q → ∃ q', Walk a v q' ∧ Over l q' ∧ wsum q' ≤ wsum q ∧ out.getD v 0 ≤ wsum q' + h.getD a 0 - h.getD v 0 ∧ wsum q' + h.getD a 0 - h.getD v 0 < farI := by
  intro q hw ho
  obtain ⟨q', g1, g2, g3, g4, g5, g6⟩ := short q hw ho
  have hb : rsum h q' < farI := by unfold farI; omega
  have := dist_low hv hp H hk q'.length q' v (Nat.le_refl _) g1 g2 hb
  rw [← getD_eq_getI] at this
  exact ⟨q', g1, g2, g3, by omega, by omega⟩
 by_cases hlt : out.getD v 0 < farI
 ·left
  rw [if_pos ⟨hvN, hlt⟩, ea]
  obtain ⟨p, p1, p2, p3⟩ := H.path v hvN hlt
  have e3 := rsum_eq h p1
  rw [ea, ev] at e3
  have hd : IsDist l a v (out.getD v 0 + (h.getD v 0 - h.getD a 0)) := by
   refine ⟨⟨p, p1, p2, by omega⟩, fun q hw ho => ?_⟩
   obtain ⟨q', _, _, g3, g4, _⟩ := low q hw ho
   omega
  refine ⟨?_, hd⟩
  have := isDist_bd hv hn (by omega) (by omega) hd
  unfold farI
  omega
 ·right
  rw [if_neg (fun x => hlt x.2)]
  have := (H.ok.2 v).2
  refine ⟨by omega, fun q hw ho => ?_⟩
  obtain ⟨q', _, _, _, g4, g5⟩ := low q hw ho
  omega
structure Fr where
 s : Int
 ok : Bool
def fr0 : Fr := ⟨0, false⟩
def lesserP (a b : Fr) : Fr := if a.ok = false ∨ (b.ok = true ∧ b.s < a.s) then b else a
def plusP (a : Fr) (n : Int) : Fr := ⟨a.s + n, a.ok⟩
end Go.Proofs.YtkhemfnlflbniaaGreatDoor
