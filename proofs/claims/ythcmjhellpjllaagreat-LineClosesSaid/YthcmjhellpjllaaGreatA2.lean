/- Merged text A2 of the chapter line: Wh, Wi, Wi2, Wj, Wi3. No conditions beyond those stated. -/
import Derived.Test.YthcmjhellpjllaaGreatA1
import Derived.Deep.LoopGhost
import Derived.Deep.WholeRow
import Derived.Deep.OwnRows
import Derived.StillTailTactics
import Derived.Great.Walk
import Derived.Great.BuildSlice
import Derived.Test.YthcmjhellpjllaaGreatP1

/- Walks: (*net).distances. -/
namespace Go.Proofs.YthcmjhellpjllaaGreat
open Go Go.RowKit Go.Shelf
attribute [local go_sem] Oper.semAt_some

theorem Tryz.info22 : (Tryz.prog.info? 22).map (fun i => (i.zero, i.size, i.bytes)) = some (some (.slice none 0 0), 1, 24) := by kernel_rfl
theorem Tryz.info47 : (Tryz.prog.info? 47).map (fun i => (i.zero, i.size, i.bytes)) = some (some (.agg #[.int .i64 0, .int .i64 0, .int .i64 0, .int .i64 0]), 4, 32) := by kernel_rfl

set_option maxRecDepth 100000 in
set_option maxHeartbeats 2000000 in
theorem distances_any (w : World) (bn R : Nat) (a : Option Addr) (cap : Nat) (bs : List Bd) (h : List Int) (ai : Nat) (tf : FuncId) (caps : Array Value) (t : Nat → Bool) (hR0 : 1 ≤ R) (hR1 : R ≤ 128) (hl : bs.length ≤ 4000)
    (hB : BoundsAt w a bs) (hv : ∀ b ∈ bs, b.valid R) (hn : w.heap[bn]? = some (.cells (netA R (.slice a bs.length cap) h) 89 (0,0))) (hh : h.length = 128) (hlow : LowBy 520000 h) (hpot : Pot h bs) (ha : ai < R)
    (hT : TestsIdx Tryz.prog tf caps (· < w.heap.size) w bs.length t) (eg : Enters Tryz.prog tf) :
    Calls Tryz.prog 30 #[.pointer (some ⟨bn, 0, none⟩), .int .i64 ai, .func (.func tf) #[] caps] w fun e w' => e = .returned (.agg (rowA (distP R h (selB bs (passes t bs.length)) ai))) ∧ Below w.heap.size w w' := by
  have i94 : Hid ((Tryz.prog.info? 56).map (·.size) = some 128) := hidE (by kernel_rfl)
  have H := hidE hB
  have HV := hidE hv
  have HN := hidE hn
  have HH := hidE hh
  have HL := hidE hlow
  have HP := hidE hpot
  have HT := hidE hT
  have EG := hidE eg
  clear hB hv hn hh hlow hpot hT eg
  refine (callsIn_wide (n := 8)).1 (callsIn_of_wp_marks Tryz.func30 rfl trivial (wpIn_wide.2 ?_) rfl)
  simp only [Tryz.ntmps30, List.size_toArray, List.length_cons, List.length_nil, Nat.reduceAdd, Nat.reduceSub, Array.replicate_succ, Array.replicate_zero, List.push_toArray, List.append_toArray, List.nil_append, List.cons_append]
  go_wp2_with fail
  refine (filled_any _ _).mono ?_
  rintro e w1 ⟨rfl, hb1⟩
  have hbB := blk_below hb1 (by simp) (heap_alloc_new w (.cells Tryz.zeroCells56 56))
  rw [zc94] at hbB
  have HBB := hidE hbB
  have B1 := hidE (((Below.refl w.heap.size w).alloc (Nat.le_refl _) (.cells Tryz.zeroCells56 56)).trans (hb1.mono (by simp)))
  have hs1 : w.heap.size < w1.heap.size := lt_of_block hbB
  have hN1 := blk_below B1.out (lt_of_block HN.out) HN.out
  have e0 : w1.cell? ⟨bn, 0, none⟩ = some (.int .i64 R) := by rw [cell_of_row _ _ _ _ _ _ hN1]; rfl
  have e1 : w1.cell? ⟨bn, 1, none⟩ = some (.slice a bs.length cap) := by rw [cell_of_row _ _ _ _ _ _ hN1]; rfl
  have hbn := lt_of_block HN.out
  clear hbB hN1 hb1
  have hbn1 : bn < w1.heap.size := by omega
  have hbn2 : bn < w1.heap.size + 1 := by omega
  have hbn3 : bn < w1.heap.size + 1 + 1 := by omega
  have hst : (w1.alloc (.cells Tryz.zeroCells56 56)).heap[w1.heap.size]? = some (.cells (rowA (rep128 0)) 56 (0,0)) := by rw [zc94]; exact heap_alloc_new _ _
  have HST := hidE hst
  clear hst
  have hmk := fun W => run_make_row' (P := Tryz.prog) 97 22 (.slice none 0 0) 24 Tryz.underlying97 Tryz.info22 rfl .i64 .i64 R (by omega) (by omega) W
  go_wp2_with (first
    | (refine wpList_store_row rfl 56 _ _ rfl _ _ rfl rfl 56 _ HST.out (by rw [rowA_size]; simpa [rep128_length] using i94.out) (by rw [rowA_size, rowA_size]; simp [rep128_length]) (intsV_one _) ?_; rw [World.setRow_alloc_new])
    | (go_at_call 62; refine (edges_any _ _ _ _ _ _).mono ?_; rintro e w' ⟨rfl, rfl⟩))
  obtain ⟨W0, hW0⟩ : ∃ W0, W0 = ((((w1.alloc (Obj.cells (rowA (rep128 1125899906842624)) 56)).alloc (Obj.cells (madeCells #[Value.slice none 0 0] R) 22)).alloc (Obj.cells #[Value.slice (some ⟨w1.heap.size + 1, 0, none⟩) R R] 97)).alloc (Obj.cells #[Value.slice a bs.length cap] 22)).alloc (Obj.cells #[Value.func (Fn.func tf) #[] caps] 69) := ⟨_, rfl⟩
  rw [← hW0]
  have z0 : W0.heap.size = w1.heap.size + 5 := by rw [hW0]; simp
  have o7 : W0.heap[w1.heap.size]? = some (.cells (rowA (rep128 farI)) 56 (0,0)) := by rw [hW0, Below.heap_alloc _ _ _ (by simp only [World.size_alloc]; omega), Below.heap_alloc _ _ _ (by simp only [World.size_alloc]; omega), Below.heap_alloc _ _ _ (by simp only [World.size_alloc]; omega), Below.heap_alloc _ _ _ (by simp only [World.size_alloc]; omega), heap_alloc_at _ _ _ (by simp only)]; rfl
  have oN : W0.heap[w1.heap.size + 1]? = some (.cells (List.replicate R (.slice none 0 0)).toArray 22 (0,0)) := by rw [hW0, Below.heap_alloc _ _ _ (by simp only [World.size_alloc]; omega), Below.heap_alloc _ _ _ (by simp only [World.size_alloc]; omega), Below.heap_alloc _ _ _ (by simp only [World.size_alloc]; omega), heap_alloc_at _ _ _ (by simp only [World.size_alloc])]; rw [← toList_madeCells_one]
  have oB : W0.heap[w1.heap.size + 2]? = some (.cells #[.slice (some ⟨w1.heap.size + 1, 0, none⟩) R R] 97 (0,0)) := by rw [hW0, Below.heap_alloc _ _ _ (by simp only [World.size_alloc]; omega), Below.heap_alloc _ _ _ (by simp only [World.size_alloc]; omega), heap_alloc_at _ _ _ (by simp only [World.size_alloc])]
  have o3' : W0.heap[w1.heap.size + 3]? = some (.cells #[.slice a bs.length cap] 22 (0,0)) := by rw [hW0, Below.heap_alloc _ _ _ (by simp only [World.size_alloc]; omega), heap_alloc_at _ _ _ (by simp only [World.size_alloc])]
  have o4' : W0.heap[w1.heap.size + 4]? = some (.cells #[.func (.func tf) #[] caps] 69 (0,0)) := by rw [hW0, heap_alloc_at _ _ _ (by simp only [World.size_alloc])]
  have o3 : W0.cell? ⟨w1.heap.size + 3, 0, none⟩ = some (.slice a bs.length cap) := cell_of_one o3'
  have o4 : W0.cell? ⟨w1.heap.size + 4, 0, none⟩ = some (.func (.func tf) #[] caps) := cell_of_one o4'
  have b01 : Below w1.heap.size w1 W0 := by rw [hW0]; go_grown
  clear hW0 e0 e1 hmk HST
  have b00 : Below w.heap.size w W0 := B1.out.trans (b01.mono (by omega))
  have oR : W0.heap[w.heap.size]? = some (.cells (rowA (rep128 0)) 56 (0,0)) := blk_below b01 hs1 HBB.out
  have hB0 : BoundsAt W0 a bs := H.out.below b00 (Nat.le_refl _)
  have hT0 : TestsIdx Tryz.prog tf caps (fun b => b < w.heap.size ∨ b = w1.heap.size + 3 ∨ b = w1.heap.size + 4) W0 bs.length t :=
    fun k hk W hkp => HT.out k hk W ⟨Nat.le_trans b00.size hkp.size, fun b hb => (hkp.same b (.inl hb)).trans (b00.block b hb)⟩
  refine wp_rangeEdges (w1.heap.size + 3) (w1.heap.size + 4) (fun b => b < w.heap.size ∨ b = w1.heap.size + 3 ∨ b = w1.heap.size + 4) a cap bs tf caps t rfl hl hB0 hT0 EG.out
    (by intro b hb; omega) (.inr (.inl rfl)) (.inr (.inr rfl)) ?fa o3 o4
    (fun pre W => ∃ vs, NearAt W (w1.heap.size + 5) (w1.heap.size + 1) vs (nearP R (selB bs (pre.map (·.1)))) ∧ W.heap[w1.heap.size]? = some (.cells (rowA (rep128 farI)) 56 (0,0)) ∧
      W.heap[w1.heap.size + 2]? = some (.cells #[.slice (some ⟨w1.heap.size + 1, 0, none⟩) R R] 97 (0,0)) ∧ W.heap[w.heap.size]? = some (.cells (rowA (rep128 0)) 56 (0,0)) ∧ Below w.heap.size w W ∧ W0.heap.size ≤ W.heap.size)
    (fun _ _ _ => False) ?own (fun c s W W' row h => h.elim) ?start (fun pre W h => by obtain ⟨_, _, _, _, _, _, h⟩ := h; exact h)
    (fun Bx W => w1.heap.size + 1 < W.heap.size ∧ ∀ vs : Array Value, W.heap[w1.heap.size + 1]? = some (.cells vs 22 (0,0)) → ∀ v ∈ vs, v.ownBlock ≠ some Bx) ?fr ?fr0
    (fun T x Bx => ((T.setIfInBounds 31 (.int .i64 (x.1 : Int))).setIfInBounds 32 (bs[x.1]'x.2.1).val).setIfInBounds 10 (.pointer (some ⟨Bx, 0, none⟩)))
    ?assign ?body ?done (fun _ _ _ _ _ _ h => h.elim)
  case fa => 
    intro x hx h0
    subst hx
    rcases H.out with e | ⟨b, off, e, hbl, _⟩
    · subst e; simp at h0
    · cases e; exact .inl hbl
  case own =>
    rintro pre W W' row ⟨vs, hn, h1, h2, h3, hb, hs⟩ hg hr
    have nb : ∀ (k : Nat) (c : Array Value) (ty : TypeId), W.heap[k]? = some (Obj.cells c ty (0,0)) → W'.heap[k]? = some (Obj.cells c ty (0,0)) := by
      intro k c ty hk
      rw [hg.block k (lt_of_block hk) ?_]
      · exact hk
      · intro e
        obtain ⟨_, o, ho, hi⟩ := hr k e.symm
        rw [hk] at ho
        cases ho
        simp [Obj.isCells] at hi
    exact ⟨vs, hn.keeps hg (fun r e => (hr r e).2), nb _ _ _ h1, nb _ _ _ h2, nb _ _ _ h3, hb.grown hg (by omega) (fun k e => by have := (hr k e).1; omega), Nat.le_trans hs hg.size⟩
  case fr =>
    rintro Bx _ W W' row ⟨hlt, hv⟩ hg hr
    have e : W'.heap[w1.heap.size + 1]? = W.heap[w1.heap.size + 1]? := hg.block _ hlt (fun e => by have := (hr _ e.symm).1; omega)
    exact ⟨Nat.lt_of_lt_of_le hlt hg.size, fun vs hvs => hv vs (by rw [← e]; exact hvs)⟩
  case fr0 =>
    rintro pre W o ⟨vs, hn, h1, h2, h3, hb, hs⟩
    have hl := lt_of_block hn.blk
    refine ⟨by simp; omega, fun vs' hvs v hv => ?_⟩
    rw [Below.heap_alloc _ _ _ hl, hn.blk] at hvs
    cases hvs
    simp only [List.mem_toArray] at hv
    obtain ⟨p, hp, e⟩ := List.getElem_of_mem hv
    have hp' : p < (nearP R (selB bs (pre.map (·.1)))).length := by rw [← hn.len]; exact hp
    have ho := hn.own p hp'
    intro eb
    rw [List.getD_eq_getElem?_getD, List.getElem?_eq_getElem hp, Option.getD_some, e] at ho
    have := (ho.lt _ eb).2
    omega
  case start => exact ⟨_, by rw [List.map_nil, show selB bs [] = [] from rfl, nearP_nil]; exact NearAt.made oN (by omega), o7, oB, oR, b00, Nat.le_refl _⟩
  case assign =>
    intro l x W K hK
    simp only [List.setIfInBounds_toArray, List.set_cons_succ, List.set_cons_zero, Bd.val] at hK ⊢
    gi_wp2
    exact hK
  case body =>
    rintro l pre x Bx W hle ⟨r, hlp⟩ ⟨vs, hn, h1, h2, h3, hb, hs⟩ hBx hc ⟨_, hfr⟩ hlen
    simp only [List.setIfInBounds_toArray, List.set_cons_succ, List.set_cons_zero, Bd.val]
    have hmem : bs[x.1]'x.2.1 ∈ bs := List.getElem_mem _
    have hsel : selB bs ((pre ++ [x]).map (·.1)) = selB bs (pre.map (·.1)) ++ [bs[x.1]'x.2.1] := by
      rw [List.map_append, selB_append]; simp [selB, x.2.1]
    obtain ⟨y, hy⟩ : ∃ y, bs[x.1]'x.2.1 = y := ⟨_, rfl⟩
    rw [hy] at hmem hc hsel ⊢
    obtain ⟨v1, v2, v3, v4, v5, v6⟩ := HV.out y hmem
    obtain ⟨ys, yd, ym, yr⟩ := y
    simp only at v1 v2 v3 v4 v5 v6
    obtain ⟨si, rfl⟩ := Int.eq_ofNat_of_zero_le v1
    obtain ⟨rows, hrows⟩ : ∃ rows, nearP R (selB bs (pre.map (·.1))) = rows := ⟨_, rfl⟩
    have hrl : rows.length = R := by rw [← hrows, nearP_length]
    rw [hrows] at hn
    have hnew : nearP R (selB bs ((pre ++ [x]).map (·.1))) = rows.set si (rows.getD si [] ++ [⟨si, yd, ym, yr⟩]) := by rw [hsel, nearP_snoc rfl (by omega), hrows]
    have HNEW := hidE hnew
    have HSEL := hidE hsel
    have HROWS := hidE hrows
    have HNR := hidE hn
    have HY := hidE hy
    clear hnew hsel hrows hy hmem
    obtain ⟨vv, hvv⟩ : ∃ vv, vs.getD si .nilFunc = vv := ⟨_, rfl⟩
    have hsl : si < rows.length := by omega
    have hown := hn.own si hsl
    have hsv : si < vs.length := by rw [hn.len]; omega
    have hvm : vs[si]? = some vv := by rw [← hvv, List.getD_eq_getElem?_getD, List.getElem?_eq_getElem hsv]; rfl
    have hvBx : vv.ownBlock ≠ some Bx := hfr vs.toArray hn.blk vv (by simp only [List.mem_toArray]; exact List.mem_of_getElem? hvm)
    rw [hvv] at hown
    have hWg : w1.heap.size + 1 < W.heap.size := lt_of_block hn.blk
    have hvg : ∀ b, vv.ownBlock = some b → w1.heap.size + 5 ≤ b := fun b e => (hown.lt b e).1
    obtain ⟨i0, hi, hz0, hz1, hz2⟩ := info_parts Tryz.info47
    have hrn : (rows.getD si []).length ≤ 4000 := by
      rw [← HROWS.out, nearP_get (by omega)]
      have := List.length_filter_le (fun b : Bd => b.src == (si : Int)) (selB bs (pre.map (·.1)))
      simp only [selB, List.length_map] at this
      simp only [selB]
      omega
    have hone : ∀ u ∈ [Value.int .i64 (si : Int), .int .i64 yd, .int .i64 ym, .int .i64 yr], u.oneCell' = true := by intro u hu; simp at hu; rcases hu with rfl | rfl | rfl | rfl <;> rfl
    have hnews : ∀ j u, [Value.int .i64 (si : Int), .int .i64 yd, .int .i64 ym, .int .i64 yr][j]? = some u → ((W.alloc (Obj.cells #[.int .i64 si, .int .i64 yd, .int .i64 ym, .int .i64 yr] 47)).drew).cell? ((⟨W.heap.size, 0, none⟩ : Addr).add j) = some u := by
      intro j u hj
      rw [show ((⟨W.heap.size, 0, none⟩ : Addr).add j) = ⟨W.heap.size, 0 + j, none⟩ from by unfold Addr.add; split <;> simp_all]
      show (W.alloc _).cell? _ = _
      rw [cell_of_row _ _ _ _ _ _ (heap_alloc_new W _), Nat.zero_add]
      simpa using hj
    obtain ⟨v', wa, hrun, hown', hgrow, _, hblk⟩ := run_append_own_at (P := Tryz.prog) ((W.alloc (Obj.cells #[.int .i64 si, .int .i64 yd, .int .i64 ym, .int .i64 yr] 47)).drew) (w1.heap.size + 5) 22 22 47 i0 _ 4 32 Tryz.underlying22 hi hz0 hz1 hz2 rfl (by decide) vv _ _
      ((hown.alloc _).drew) ⟨W.heap.size, 0, none⟩ 1 1 [.int .i64 si, .int .i64 yd, .int .i64 ym, .int .i64 yr] rfl hnews hone (by unfold maxLen; omega) (by omega) (by simp; omega)
    obtain ⟨g', cap', rfl⟩ := ownsRow_succ hown'
    have k0 : W.cell? ⟨w1.heap.size + 1 + 1, 0, none⟩ = some (.slice (some ⟨w1.heap.size + 1, 0, none⟩) R R) := cell_of_one h2
    have k1 : W.cell? ⟨w1.heap.size + 1, si, none⟩ = some vv := by rw [cell_of_row _ _ _ _ _ _ hn.blk]; simpa using hvm
    have y0 : W.cell? ⟨Bx, 0, none⟩ = some (.int .i64 si) := by rw [cell_of_row _ _ _ _ _ _ hc]; rfl
    have y1 : W.cell? ⟨Bx, 1, none⟩ = some (.int .i64 yd) := by rw [cell_of_row _ _ _ _ _ _ hc]; rfl
    have y2 : W.cell? ⟨Bx, 2, none⟩ = some (.int .i64 ym) := by rw [cell_of_row _ _ _ _ _ _ hc]; rfl
    have y3 : W.cell? ⟨Bx, 3, none⟩ = some (.int .i64 yr) := by rw [cell_of_row _ _ _ _ _ _ hc]; rfl
    have hBxW := lt_of_block hc
    have hs2 := lt_of_block h2
    have keep : ∀ k, k < W.heap.size → vv.ownBlock ≠ some k → wa.heap[k]? = W.heap[k]? := fun k hk hne => (hgrow.block k (by simp; omega) (fun e => hne e.symm)).trans (Below.heap_alloc W _ k hk)
    have na := keep (w1.heap.size + 1) hWg (fun e => by have := hvg _ e; omega)
    have nb := keep (w1.heap.size + 2) hs2 (fun e => by have := hvg _ e; omega)
    have nc := keep Bx hBxW hvBx
    have k0a : wa.cell? ⟨w1.heap.size + 1 + 1, 0, none⟩ = some (.slice (some ⟨w1.heap.size + 1, 0, none⟩) R R) := cell_of_one (nb.trans h2)
    have k1a : wa.cell? ⟨w1.heap.size + 1, si, none⟩ = some vv := by rw [cell_of_row _ _ _ _ _ _ (na.trans hn.blk)]; simpa using hvm
    have k1f : wa.frozen? ⟨w1.heap.size + 1, si, none⟩ = false := frozen_of_row _ _ _ _ _ (na.trans hn.blk)
    have y1a : wa.cell? ⟨Bx, 1, none⟩ = some (.int .i64 yd) := by rw [cell_of_row _ _ _ _ _ _ (nc.trans hc)]; rfl
    have y2a : wa.cell? ⟨Bx, 2, none⟩ = some (.int .i64 ym) := by rw [cell_of_row _ _ _ _ _ _ (nc.trans hc)]; rfl
    have y3a : wa.cell? ⟨Bx, 3, none⟩ = some (.int .i64 yr) := by rw [cell_of_row _ _ _ _ _ _ (nc.trans hc)]; rfl
    have y0a : wa.cell? ⟨Bx, 0, none⟩ = some (.int .i64 si) := by rw [cell_of_row _ _ _ _ _ _ (nc.trans hc)]; rfl
    have HHid1 := hidE hn
    have HO := hidE hown'
    have HG := hidE hgrow
    have HK := hidE keep
    have HBK := hidE hblk
    have HV2 := hidE hvg
    have H1 := hidE h1
    have H2 := hidE h2
    have H3 := hidE h3
    have HC := hidE hc
    have HFR := hidE hfr
    have HVM := hidE hvm
    have HVV := hidE hvv
    have HRL := hidE hrl
    have HOWN := hidE hown
    clear hn hown' hgrow keep hblk hvg h1 h2 h3 hc hfr hvm hvv hown na nb nc hvBx hrl
    have hpost : KeepsFrom W0.heap.size W (wa.setCell ⟨w1.heap.size + 1, si, none⟩ (.slice (some ⟨g', 0, none⟩) ((rows.getD si []).length + 1) cap')) ∧ KeepsB (fun b => b < w.heap.size ∨ b = w1.heap.size + 3 ∨ b = w1.heap.size + 4) W (wa.setCell ⟨w1.heap.size + 1, si, none⟩ (.slice (some ⟨g', 0, none⟩) ((rows.getD si []).length + 1) cap')) ∧
        ∃ vs, NearAt (wa.setCell ⟨w1.heap.size + 1, si, none⟩ (.slice (some ⟨g', 0, none⟩) ((rows.getD si []).length + 1) cap')) (w1.heap.size + 5) (w1.heap.size + 1) vs (nearP R (selB bs ((pre ++ [x]).map (·.1)))) ∧ (wa.setCell ⟨w1.heap.size + 1, si, none⟩ (.slice (some ⟨g', 0, none⟩) ((rows.getD si []).length + 1) cap')).heap[w1.heap.size]? = some (.cells (rowA (rep128 farI)) 56 (0,0)) ∧
          (wa.setCell ⟨w1.heap.size + 1, si, none⟩ (.slice (some ⟨g', 0, none⟩) ((rows.getD si []).length + 1) cap')).heap[w1.heap.size + 2]? = some (.cells #[.slice (some ⟨w1.heap.size + 1, 0, none⟩) R R] 97 (0,0)) ∧ (wa.setCell ⟨w1.heap.size + 1, si, none⟩ (.slice (some ⟨g', 0, none⟩) ((rows.getD si []).length + 1) cap')).heap[w.heap.size]? = some (.cells (rowA (rep128 0)) 56 (0,0)) ∧
          Below w.heap.size w (wa.setCell ⟨w1.heap.size + 1, si, none⟩ (.slice (some ⟨g', 0, none⟩) ((rows.getD si []).length + 1) cap')) ∧ W0.heap.size ≤ (wa.setCell ⟨w1.heap.size + 1, si, none⟩ (.slice (some ⟨g', 0, none⟩) ((rows.getD si []).length + 1) cap')).heap.size := by
      obtain ⟨Wal, hWal⟩ : ∃ Wal, Wal = (W.alloc (Obj.cells #[.int .i64 si, .int .i64 yd, .int .i64 ym, .int .i64 yr] 47)).drew := ⟨_, rfl⟩
      have hgr := HG.out
      rw [← hWal] at hgr
      have hbal : Below W.heap.size W Wal := by rw [hWal]; exact ((Below.refl _ _).alloc (Nat.le_refl _) _).drew
      have hbk := HBK.out
      rw [← hWal] at hbk
      have hks : ∀ k, k < W.heap.size → k ≠ w1.heap.size + 1 → vv.ownBlock ≠ some k → (wa.setCell ⟨w1.heap.size + 1, si, none⟩ (.slice (some ⟨g', 0, none⟩) ((rows.getD si []).length + 1) cap')).heap[k]? = W.heap[k]? :=
        fun k h1 h2 h3 => (heap_setCell_other _ _ _ _ h2).trans (HK.out k h1 h3)
      have hno : ∀ k, k < w1.heap.size + 5 → vv.ownBlock ≠ some k := fun k hk e => by have := HV2.out k e; omega
      refine ⟨?_, ⟨?_, ?_⟩, vs.set si (.slice (some ⟨g', 0, none⟩) ((rows.getD si []).length + 1) cap'), ?_, ?_, ?_, ?_, ?_, ?_⟩
      · refine (KeepsOthers.trans (B := Wal) ?_ ((KeepsOthers.of_grownBy hgr ?_).trans (KeepsOthers.setCell _ _ _))).from _
        · rw [hWal]; exact (KeepsOthers.alloc W _).trans (KeepsOthers.drew _)
        · intro j o ej hj
          rcases HOWN.out.2 with ⟨e, _⟩ | ⟨gb, cp, cur, e, _, hh, _⟩
          · rw [e] at ej; simp [Value.ownBlock] at ej
          · rw [e] at ej
            simp only [Value.ownBlock, Option.some.injEq] at ej
            rw [hbal.block j (by rw [← ej]; exact lt_of_block hh), ← ej, hh] at hj
            cases hj
            rfl
      · simp only [World.size_setCell]; exact Nat.le_trans hbal.size hgr.size
      · intro b hb
        exact hks b (by omega) (by omega) (hno b (by omega))
      · rw [HNEW.out]
        exact NearAt.appended (HHid1.out.below hbal (Nat.le_refl _)) hsl (by have := hbal.size; omega) HO.out (by rw [HVV.out]; exact hgr) (by rw [HVV.out]; exact hbk)
      · exact (hks _ (by omega) (by omega) (hno _ (by omega))).trans H1.out
      · exact (hks _ (by omega) (by omega) (hno _ (by omega))).trans H2.out
      · exact (hks _ (by omega) (by omega) (hno _ (by omega))).trans H3.out
      · exact ((hb.trans (hbal.mono (by have := hb.size; omega))).grown hgr (by have := hbal.size; omega) (fun k e => by have := HV2.out k e; omega)).setCell (by simp; omega) _
      · simp only [World.size_setCell]; have := hbal.size; have := hgr.size; omega
    have HPOST := hidE hpost
    clear hpost
    gi_wp2_with fail
    have hmx : Tryz.prog.follows Departure.mixedOrders = true := by kernel_rfl
    refine wpIn_region_held_round (S := fun V => V.cell? ⟨w1.heap.size + 1 + 1, 0, none⟩ = some (.slice (some ⟨w1.heap.size + 1, 0, none⟩) R R) ∧ V.cell? ⟨Bx, 0, none⟩ = some (.int .i64 si) ∧ V.cell? ⟨Bx, 1, none⟩ = some (.int .i64 yd) ∧ V.cell? ⟨Bx, 2, none⟩ = some (.int .i64 ym) ∧ V.cell? ⟨Bx, 3, none⟩ = some (.int .i64 yr)) hmx (by kernel_rfl) ?hout ?_
    case hout => 
      rintro ⟨a, w, h⟩
      exact h
    have hS0 : W.drew.cell? ⟨w1.heap.size + 1 + 1, 0, none⟩ = some (.slice (some ⟨w1.heap.size + 1, 0, none⟩) R R) ∧ W.drew.cell? ⟨Bx, 0, none⟩ = some (.int .i64 si) ∧ W.drew.cell? ⟨Bx, 1, none⟩ = some (.int .i64 yd) ∧ W.drew.cell? ⟨Bx, 2, none⟩ = some (.int .i64 ym) ∧ W.drew.cell? ⟨Bx, 3, none⟩ = some (.int .i64 yr) := ⟨k0, y0, y1, y2, y3⟩
    have sI : (si : Int) < R := by omega
    have sR : si < R := by omega
    refine wpAnyH_take (i := 0) (v := .slice (some ⟨w1.heap.size + 1, 0, none⟩) R R) rfl (by kernel_rfl) (by kernel_rfl) (by kernel_rfl) (by intro c a w h; exact h) (.inl ⟨rfl, fun V hV => ?_⟩) hS0 ?_
    · obtain ⟨q0, q1, q2, q3, q4⟩ := hV
      simp [go_sem, execOp, q0]
    simp only [Act.put, List.setIfInBounds_toArray]
    refine wpAnyH_take (i := 1) (v := .pointer (some ⟨Bx, 0, none⟩)) rfl (by kernel_rfl) (by kernel_rfl) (by kernel_rfl) (by intro c a w h; exact h) (.inl ⟨rfl, fun V hV => ?_⟩) hS0 ?_
    · obtain ⟨q0, q1, q2, q3, q4⟩ := hV
      simp [go_sem, execOp]
    simp only [Act.put]
    refine wpAnyH_take (i := 2) (v := .int .i64 si) rfl (by kernel_rfl) (by kernel_rfl) (by kernel_rfl) (by intro c a w h; exact h) (.inl ⟨rfl, fun V hV => ?_⟩) hS0 ?_
    · obtain ⟨q0, q1, q2, q3, q4⟩ := hV
      simp [go_sem, execOp, q1]
    simp only [Act.put]
    refine wpAnyH_take (i := 3) (v := .slice (some ⟨w1.heap.size + 1, 0, none⟩) R R) rfl (by kernel_rfl) (by kernel_rfl) (by kernel_rfl) (by intro c a w h; exact h) (.inl ⟨rfl, fun V hV => ?_⟩) hS0 ?_
    · obtain ⟨q0, q1, q2, q3, q4⟩ := hV
      simp [go_sem, execOp, q0]
    simp only [Act.put]
    refine wpAnyH_take (i := 4) (v := .pointer (some ⟨Bx, 0, none⟩)) rfl (by kernel_rfl) (by kernel_rfl) (by kernel_rfl) (by intro c a w h; exact h) (.inl ⟨rfl, fun V hV => ?_⟩) hS0 ?_
    · obtain ⟨q0, q1, q2, q3, q4⟩ := hV
      simp [go_sem, execOp]
    simp only [Act.put]
    refine wpAnyH_take (i := 5) (v := .int .i64 si) rfl (by kernel_rfl) (by kernel_rfl) (by kernel_rfl) (by intro c a w h; exact h) (.inl ⟨rfl, fun V hV => ?_⟩) hS0 ?_
    · obtain ⟨q0, q1, q2, q3, q4⟩ := hV
      simp [go_sem, execOp, q1]
    simp only [Act.put]
    refine wpAnyH_take (i := 6) (v := .pointer (some ⟨w1.heap.size + 1, si, none⟩)) rfl (by kernel_rfl) (by kernel_rfl) (by kernel_rfl) (by intro c a w h; exact h) (.inl ⟨rfl, fun V hV => ?_⟩) hS0 ?_
    · obtain ⟨q0, q1, q2, q3, q4⟩ := hV
      simp [go_sem, execOp, sI]
    simp only [Act.put]
    refine wpAnyH_take (i := 8) (v := .agg #[.int .i64 si, .int .i64 yd, .int .i64 ym, .int .i64 yr]) rfl (by kernel_rfl) (by kernel_rfl) (by kernel_rfl) (by intro c a w h; exact h) (.inl ⟨rfl, fun V hV => ?_⟩) hS0 ?_
    · obtain ⟨q0, q1, q2, q3, q4⟩ := hV
      simp [go_sem, execOp, q1, q2, q3, q4]
    simp only [Act.put]
    refine wpAnyH_all (rs := [7, 9]) (by kernel_rfl) (by simp) ?_
    have hWal : ((W.alloc (Obj.cells #[.int .i64 si, .int .i64 yd, .int .i64 ym, .int .i64 yr] 47)).drew).cell? ⟨w1.heap.size + 1, si, none⟩ = some vv := by rw [← k1]; exact Below.cell ((Below.refl W.heap.size W).alloc (Nat.le_refl _) _) (by exact hWg)
    have sal : ∀ p : Addr, p.block < W.heap.size → ((W.alloc (Obj.cells #[.int .i64 si, .int .i64 yd, .int .i64 ym, .int .i64 yr] 47)).drew).cell? p = W.cell? p := fun p hp => Below.cell ((Below.refl W.heap.size W).alloc (Nat.le_refl _) _) hp
    have hS1 := And.intro ((sal ⟨w1.heap.size + 1 + 1, 0, none⟩ (by exact hs2)).trans k0) (And.intro ((sal ⟨Bx, 0, none⟩ hBxW).trans y0) (And.intro ((sal ⟨Bx, 1, none⟩ hBxW).trans y1) (And.intro ((sal ⟨Bx, 2, none⟩ hBxW).trans y2) ((sal ⟨Bx, 3, none⟩ hBxW).trans y3))))
    have hneB : Bx ≠ w1.heap.size + 1 := by omega
    have hS3 : ∀ v, (wa.setCell ⟨w1.heap.size + 1, si, none⟩ v).cell? ⟨w1.heap.size + 1 + 1, 0, none⟩ = some (.slice (some ⟨w1.heap.size + 1, 0, none⟩) R R) ∧ (wa.setCell ⟨w1.heap.size + 1, si, none⟩ v).cell? ⟨Bx, 0, none⟩ = some (.int .i64 si) ∧ (wa.setCell ⟨w1.heap.size + 1, si, none⟩ v).cell? ⟨Bx, 1, none⟩ = some (.int .i64 yd) ∧ (wa.setCell ⟨w1.heap.size + 1, si, none⟩ v).cell? ⟨Bx, 2, none⟩ = some (.int .i64 ym) ∧ (wa.setCell ⟨w1.heap.size + 1, si, none⟩ v).cell? ⟨Bx, 3, none⟩ = some (.int .i64 yr) := by
      intro v
      have e : ∀ p : Addr, p.block ≠ w1.heap.size + 1 → (wa.setCell ⟨w1.heap.size + 1, si, none⟩ v).cell? p = wa.cell? p := fun p hp => World.cell?_of_block (w := wa) (heap_setCell_other _ _ _ _ hp)
      exact ⟨(e _ (by simp)).trans k0a, (e _ hneB).trans y0a, (e _ hneB).trans y1a, (e _ hneB).trans y2a, (e _ hneB).trans y3a⟩
    have HSAL := hidE sal
    clear sal
    intro i hi
    simp only [List.mem_cons, List.not_mem_nil, or_false] at hi
    rcases hi with rfl | rfl
    · refine wpOp_val (v := vv) (w' := W.drew) rfl rfl (by simp [go_sem, execOp, k1]) ⟨hS0, ?_⟩
      simp only [Act.put, List.getElem_toArray, List.getElem_cons_succ, List.getElem_cons_zero, List.setIfInBounds_toArray, List.set_cons_succ, List.set_cons_zero]
      refine wpAnyH_one 9 (by kernel_rfl) (wpOp_val (v := .slice (some ⟨W.heap.size, 0, none⟩) 1 1) (w' := (W.alloc (Obj.cells #[.int .i64 si, .int .i64 yd, .int .i64 ym, .int .i64 yr] 47)).drew) rfl rfl (by simp [go_sem, execOp]) ⟨hS1, ?_⟩)
      simp only [Act.put, List.getElem_toArray, List.getElem_cons_succ, List.getElem_cons_zero, List.setIfInBounds_toArray, List.set_cons_succ, List.set_cons_zero]
      refine wpAnyH_one 10 (by kernel_rfl) (wpOp_val (w' := wa) (v := .slice (some ⟨g', 0, none⟩) ((rows.getD si []).length + 1) cap') rfl rfl (by exact run_op_append (s := .tmp 40) (x := .tmp 42) (t := 22) (vs := vv) (vx := .slice (some ⟨W.heap.size, 0, none⟩) 1 1) rfl rfl rfl hrun) ⟨⟨k0a, y0a, y1a, y2a, y3a⟩, ?_⟩)
      simp only [Act.put, List.getElem_toArray, List.getElem_cons_succ, List.getElem_cons_zero, List.setIfInBounds_toArray, List.set_cons_succ, List.set_cons_zero]
      refine wpAnyH_one 11 (by kernel_rfl) (wpOp_val (v := .pointer (some ⟨w1.heap.size + 1, si, none⟩)) (w' := wa) rfl rfl (by simp [go_sem, execOp, sI]) ⟨⟨k0a, y0a, y1a, y2a, y3a⟩, ?_⟩)
      simp only [Act.put, List.getElem_toArray, List.getElem_cons_succ, List.getElem_cons_zero, List.setIfInBounds_toArray, List.set_cons_succ, List.set_cons_zero]
      refine wpAnyH_one 12 (by kernel_rfl) (wpOp_skip (w' := wa.setCell ⟨w1.heap.size + 1, si, none⟩ (.slice (some ⟨g', 0, none⟩) ((rows.getD si []).length + 1) cap')) rfl rfl (by simp [go_sem, execOp, k1a, k1f]) ⟨hS3 _, ?_⟩)
      refine wpAnyH_done (by kernel_rfl) ?_ _
      exact HPOST.out
    · refine wpOp_val (v := .slice (some ⟨W.heap.size, 0, none⟩) 1 1) (w' := (W.alloc (Obj.cells #[.int .i64 si, .int .i64 yd, .int .i64 ym, .int .i64 yr] 47)).drew) rfl rfl (by simp [go_sem, execOp]) ⟨hS1, ?_⟩
      simp only [Act.put, List.getElem_toArray, List.getElem_cons_succ, List.getElem_cons_zero, List.setIfInBounds_toArray, List.set_cons_succ, List.set_cons_zero]
      refine wpAnyH_one 7 (by kernel_rfl) (wpOp_val (v := vv) (w' := (W.alloc (Obj.cells #[.int .i64 si, .int .i64 yd, .int .i64 ym, .int .i64 yr] 47)).drew) rfl rfl (by simp [go_sem, execOp, hWal]) ⟨hS1, ?_⟩)
      simp only [Act.put, List.getElem_toArray, List.getElem_cons_succ, List.getElem_cons_zero, List.setIfInBounds_toArray, List.set_cons_succ, List.set_cons_zero]
      refine wpAnyH_one 10 (by kernel_rfl) (wpOp_val (w' := wa) (v := .slice (some ⟨g', 0, none⟩) ((rows.getD si []).length + 1) cap') rfl rfl (by exact run_op_append (s := .tmp 40) (x := .tmp 42) (t := 22) (vs := vv) (vx := .slice (some ⟨W.heap.size, 0, none⟩) 1 1) rfl rfl rfl hrun) ⟨⟨k0a, y0a, y1a, y2a, y3a⟩, ?_⟩)
      simp only [Act.put, List.getElem_toArray, List.getElem_cons_succ, List.getElem_cons_zero, List.setIfInBounds_toArray, List.set_cons_succ, List.set_cons_zero]
      refine wpAnyH_one 11 (by kernel_rfl) (wpOp_val (v := .pointer (some ⟨w1.heap.size + 1, si, none⟩)) (w' := wa) rfl rfl (by simp [go_sem, execOp, sI]) ⟨⟨k0a, y0a, y1a, y2a, y3a⟩, ?_⟩)
      simp only [Act.put, List.getElem_toArray, List.getElem_cons_succ, List.getElem_cons_zero, List.setIfInBounds_toArray, List.set_cons_succ, List.set_cons_zero]
      refine wpAnyH_one 12 (by kernel_rfl) (wpOp_skip (w' := wa.setCell ⟨w1.heap.size + 1, si, none⟩ (.slice (some ⟨g', 0, none⟩) ((rows.getD si []).length + 1) cap')) rfl rfl (by simp [go_sem, execOp, k1a, k1f]) ⟨hS3 _, ?_⟩)
      refine wpAnyH_done (by kernel_rfl) ?_ _
      exact HPOST.out
  case done =>
    rintro D xs W hD hxs ⟨vs, hn, h1, h2, h3, hb, hs⟩ hK
    rw [hxs] at hn
    have HNA := hidE hn
    have H1 := hidE h1
    have H2 := hidE h2
    have H3 := hidE h3
    have HKD := hidE hK
    clear hn h1 h2 h3 hK hxs hT0 hB0 o3 o4 o3' o4' oN oB o7 oR
    have hcA : W.cell? ⟨w1.heap.size, ai, none⟩ = some (.int .i64 ((rep128 farI).getD ai 0)) := by rw [cell_of_row _ _ _ _ _ _ H1.out, rowA_get (by rw [rep128_length]; omega)]
    have hfA : W.frozen? ⟨w1.heap.size, ai, none⟩ = false := frozen_of_row _ _ _ _ _ H1.out
    have hsW : w1.heap.size < W.heap.size := lt_of_block H1.out
    have hai : (ai : Int) < 128 := by omega
    go_wp2_with fail
    obtain ⟨out0, hout0⟩ : ∃ o, (rep128 farI).set ai 0 = o := ⟨_, rfl⟩
    have st0 : DSt w ((W.alloc (Obj.cells Tryz.zeroCells100 100)).setCell ⟨w1.heap.size, ai, none⟩ (.int .i64 0)) w1.heap.size W.heap.size D R vs (nearP R (selB bs (passes t bs.length))) out0 repF128 := by
      rw [← hout0]
      refine DSt.setOut ?_ _ _
      have hba : Below W.heap.size W (W.alloc (Obj.cells Tryz.zeroCells100 100)) := (Below.refl _ _).alloc (Nat.le_refl _) _
      exact ⟨blk_below hba hsW H1.out, by rw [zc120]; exact heap_alloc_new _ _, HNA.out.below hba (Nat.le_refl _), blk_below hba (lt_of_block H2.out) H2.out, blk_below hba (lt_of_block H3.out) H3.out, blk_below hba (lt_of_block HKD.out) HKD.out, hb.trans (hba.mono hb.size), by omega, by omega⟩
    obtain ⟨near, hnear⟩ : ∃ n, nearP R (selB bs (passes t bs.length)) = n := ⟨_, rfl⟩
    have hdist : distP R h (selB bs (passes t bs.length)) ai = backP R h ai (dijGo R h near (R + 1) out0 repF128) := by rw [← hout0, ← hnear]; rfl
    have ho0 : OutOk out0 := by rw [← hout0]; exact outOk_start (a := (ai : Int))
    rw [hnear] at st0
    obtain ⟨dr, hdr⟩ : ∃ dr, dijGo R h near (R + 1) out0 repF128 = dr := ⟨_, rfl⟩
    rw [hdr] at hdist
    have HDIST := hidE hdist
    have HDR := hidE hdr
    have HNEAR := hidE hnear
    rw [World.setCell_alloc_past _ _ _ _ hsW] at st0
    have HST0 := hidE st0
    have HO0 := hidE ho0
    have hu0 : undone R repF128 = R := by
      unfold undone repF128
      rw [List.filter_eq_self.2]
      · simp
      · intro p hp
        simp only [List.getD_eq_getElem?_getD, List.getElem?_replicate]
        split <;> rfl
    have HU0 := hidE hu0
    clear hdist hdr hnear st0 ho0 hu0 hout0
    go_loopg [12] R (fun gg at_ wr => ∃ (out : List Int) (done : List Bool), undone R done ≤ gg ∧ Hid (dijGo R h near (undone R done + 1) out done = dr) ∧ Hid (OutOk out) ∧ Hid (done.length = 128) ∧ Hid (DSt w wr w1.heap.size W.heap.size D R vs near out done))
    case atStart => exact ⟨out0, repF128, by rw [HU0.out]; exact Nat.le_refl _, hidE (by rw [HU0.out]; exact HDR.out), HO0, hidE rfl, HST0⟩
    case round =>
      obtain ⟨out, done, hu, hgo, hok, hdl, hst⟩ := hrel
      have hnet := hidE (blk_below hst.out.bl hbn HN.out)
      have nN : wr.cell? ⟨bn, 0, none⟩ = some (.int .i64 R) := by rw [cell_of_row _ _ _ _ _ _ hnet.out]; rfl
      have hdecR : decide ((0 : Int) < (R : Int)) = true := by simp; omega
      go_wp2_with fail
      go_loopw [12, 52] (fun at_ i wr' => ∃ (k nd : Nat), k ≤ R ∧ i = .int .i64 k ∧ wr' = wr.drewN nd ∧ at_ = .int .i64 ((List.range k).foldl (pick1 out done) (-1))) (fun _ i _ => R - (intOf i).toNat)
      case atStart => exact ⟨0, 0, by omega, rfl, rfl, rfl⟩
      case round =>
        obtain ⟨k, nd, hk, rfl, rfl, rfl⟩ := hrel
        obtain ⟨A, hA⟩ : ∃ A, (List.range k).foldl (pick1 out done) (-1) = A := ⟨_, rfl⟩
        rw [hA]
        have HA := hidE hA
        have hArange : A < 0 ∨ (A.toNat < R ∧ done.getD A.toNat false = false ∧ out.getD A.toNat 0 < farI) := by
          rw [← hA]; exact pick_fold out done _ (fun p hp => by have := List.mem_range.1 hp; omega) (-1) (.inl (by omega))
        clear hA
        have nN' : wr.cell? ⟨bn, 0, none⟩ = some (.int .i64 R) := nN
        by_cases hlt : k < R
        · obtain ⟨cd, _⟩ := hst.out.doneCell (i := k) (by rw [hdl.out]; omega)
          obtain ⟨co, _⟩ := hst.out.outCell (i := k) (by rw [hok.out.1]; omega)
          obtain ⟨vk, hvk⟩ : ∃ v, out.getD k 0 = v := ⟨_, rfl⟩
          rw [hvk] at co
          have HVK := hidE hvk
          clear hvk
          have k128 : (k : Int) < 128 := by omega
          have k128' : k < 128 := by omega
          cases hdk : done.getD k false with
          | true =>
            rw [hdk] at cd
            have HDK := hidE hdk
            clear hdk
            go_wp2_with fail
            go_quiet (fail)
            go_wp2_with fail
            go_roundw
            case rel => exact ⟨k + 1, _, by omega, by go_num, rfl, by rw [List.range_succ, List.foldl_append, HA.out]; exact congrArg _ (pick1_done HDK.out).symm⟩
            case measure => simp [intOf]; omega
          | false =>
            rw [hdk] at cd
            have HDK := hidE hdk
            clear hdk
            by_cases hfar : vk < 1125899906842624
            · rcases Int.lt_or_le A 0 with hA0 | hA0
              · go_wp2_with fail
                go_quiet (fail)
                go_wp2_with fail
                go_roundw
                case rel => exact ⟨k + 1, _, by omega, by go_num, rfl, by rw [List.range_succ, List.foldl_append, HA.out]; exact congrArg _ (pick1_first HDK.out HVK.out hfar hA0).symm⟩
                case measure => simp [intOf]; omega
              · obtain ⟨A', rfl⟩ := Int.eq_ofNat_of_zero_le hA0
                obtain ⟨hAR, hAD, hAF⟩ := hArange.resolve_left (by omega)
                simp only [Int.toNat_natCast] at hAR hAD hAF
                obtain ⟨ca, _⟩ := hst.out.outCell (i := A') (by rw [hok.out.1]; omega)
                obtain ⟨va, hva⟩ : ∃ v, out.getD A' 0 = v := ⟨_, rfl⟩
                rw [hva] at ca
                have HVA := hidE hva
                clear hva
                have a128 : (A' : Int) < 128 := by omega
                have a128' : A' < 128 := by omega
                have hA0' : ¬ ((A' : Int) < 0) := by omega
                by_cases hbet : vk < va
                · go_wp2_with fail
                  go_quiet (fail)
                  go_wp2_with fail
                  go_roundw
                  case rel => exact ⟨k + 1, _, by omega, by go_num, rfl, by rw [List.range_succ, List.foldl_append, HA.out]; exact congrArg _ (pick1_less HDK.out HVK.out hfar (by rw [Int.toNat_natCast]; exact HVA.out) hbet).symm⟩
                  case measure => simp [intOf]; omega
                · go_wp2_with fail
                  go_quiet (fail)
                  go_wp2_with fail
                  go_roundw
                  case rel => exact ⟨k + 1, _, by omega, by go_num, rfl, by rw [List.range_succ, List.foldl_append, HA.out]; exact congrArg _ (pick1_far' (u := va) HVK.out (by omega) (by rw [Int.toNat_natCast]; exact HVA.out) (by omega)).symm⟩
                  case measure => simp [intOf]; omega
            · have hfd : decide (vk < 1125899906842624) = false := by simpa using hfar
              go_wp2_with fail
              go_quiet (fail)
              go_wp2_with fail
              go_roundw
              case rel => exact ⟨k + 1, _, by omega, by go_num, rfl, by rw [List.range_succ, List.foldl_append, HA.out]; exact congrArg _ (pick1_far HVK.out (by omega)).symm⟩
              case measure => simp [intOf]; omega
        · have hkR : k = R := by omega
          subst hkR
          have x0 : wr.cell? ⟨w1.heap.size + 1 + 1, 0, none⟩ = some (.slice (some ⟨w1.heap.size + 1, 0, none⟩) k k) := cell_of_one hst.out.bx
          have hsd : w1.heap.size + 5 ≤ W.heap.size := hst.out.ne2
          rcases Int.lt_or_le A 0 with hA0 | hA0
          · have hend : dr = out := by
              rw [← hgo.out, dijGo, if_pos]
              show pickP k out done < 0
              unfold pickP; rw [HA.out]; exact hA0
            have HEND := hidE hend
            clear hend
            go_wp2_with fail
            go_loopw [16, 129] (fun _ i wr2 => ∃ (q : Nat) (out' : List Int), q ≤ k ∧ i = .int .i64 q ∧ Hid ((List.range q).foldl (back1 h ai) out = out') ∧ Hid (DSt w wr2 w1.heap.size W.heap.size D k vs near out' done)) (fun _ i _ => k - (intOf i).toNat)
            case atStart => exact ⟨0, out, by omega, rfl, hidE rfl, hidE (hst.out.drewN _)⟩
            case round =>
              obtain ⟨q, out', hq, rfl, hF, hst2⟩ := hrel
              by_cases hlq : q < k
              · obtain ⟨co, cf⟩ := hst2.out.outCell (i := q) (by rw [← hF.out, back_length, hok.out.1]; omega)
                have hqv : out'.getD q 0 = out.getD q 0 := by rw [← hF.out, back_ge _ _ _ _ _ (Nat.le_refl _)]
                have hqr := hok.out.2 q
                rw [hqv] at co
                obtain ⟨vq, hvq⟩ : ∃ v, out.getD q 0 = v := ⟨_, rfl⟩
                rw [hvq] at co hqr hqv
                have HVQ := hidE hqv
                clear hvq hqv
                obtain ⟨hq0, hq1⟩ := hqr
                unfold farI at hq1
                have q128 : (q : Int) < 128 := by omega
                have q128' : q < 128 := by omega
                have hnet2 := hidE (blk_below hst2.out.bl hbn HN.out)
                have nq0 : wr.cell? ⟨bn, 2 + q, none⟩ = some (.int .i64 (h.getD q 0)) := by rw [cell_of_row _ _ _ _ _ _ hnet2.out, netA_get (by rw [HH.out]; omega)]
                have na0 : wr.cell? ⟨bn, 2 + ai, none⟩ = some (.int .i64 (h.getD ai 0)) := by rw [cell_of_row _ _ _ _ _ _ hnet2.out, netA_get (by rw [HH.out]; omega)]
                have lq := HL.out q
                have la := HL.out ai
                obtain ⟨hvq, ehq⟩ : ∃ v, h.getD q 0 = v := ⟨_, rfl⟩
                obtain ⟨hva, eha⟩ : ∃ v, h.getD ai 0 = v := ⟨_, rfl⟩
                rw [ehq] at nq0 lq
                rw [eha] at na0 la
                have EHQ := hidE ehq
                have EHA := hidE eha
                clear ehq eha
                by_cases hfar : vq < 1125899906842624
                · go_wp2_with fail
                  go_still_tail 18, (by kernel_rfl)
                  change wpList _ _ _ _ _ wr.drew
                  go_wp2_with fail
                  go_roundw
                  case rel => 
                    refine ⟨q + 1, _, by omega, by go_num, hidE rfl, hidE ?_⟩
                    rw [List.range_succ, List.foldl_append, hF.out]
                    simp only [List.foldl_cons, List.foldl_nil]
                    unfold back1; rw [if_pos (by rw [HVQ.out]; exact hfar), HVQ.out, EHQ.out]
                    unfold getI; rw [Int.toNat_natCast, EHA.out]
                    exact (hst2.out.setOut _ _).drew
                  case measure => simp [intOf]; omega
                · go_wp2_with fail
                  go_roundw
                  case rel => 
                    refine ⟨q + 1, out', by omega, by go_num, hidE ?_, hst2⟩
                    rw [List.range_succ, List.foldl_append, hF.out]
                    simp only [List.foldl_cons, List.foldl_nil]
                    unfold back1; rw [if_neg]; rw [HVQ.out]; exact hfar
                  case measure => simp [intOf]; omega
              · have hqk : q = k := by omega
                subst hqk
                have hsz : (rowA out').size = 128 := by rw [rowA_size, ← hF.out, back_length]; exact hok.out.1
                have hsz2 : (rowA (rep128 0)).size = 128 := by rw [rowA_size, rep128_length]
                go_wp2_with (first
                  | (refine wpList_load_row rfl 56 _ rfl _ rfl 56 _ _ _ hst2.out.o Tryz.underlying56 rfl (by rw [hsz]; exact i94.out) ?_)
                  | (refine wpList_store_row rfl 56 _ _ rfl _ (rowA out') rfl rfl 56 _ hst2.out.rs (by rw [hsz]; exact i94.out) (by rw [hsz, hsz2]) (intsV_one _) ?_))
                refine ⟨by simp, .inl ⟨_, _, rfl, run_takeDeferred (by rw [setRow_other _ _ _ _ (by intro e; have := hst2.out.df; rw [e, hst2.out.rs] at this; cases this)]; exact hst2.out.df), ?_⟩⟩
                have hDne : D ≠ w.heap.size := by intro e; have := hst2.out.df; rw [e, hst2.out.rs] at this; cases this
                have hDB : w.heap.size ≤ D := by omega
                show ∃ v, _ ∧ _
                refine ⟨_, results_cell_row Tryz.results30 _ _ _ _ _ _ _ rfl ((World.putObj_heap_other hDne.symm).trans (setRow_heap _ _ _ _ _ _ hst2.out.rs)) Tryz.underlying56 rfl (by rw [hsz]; exact i94.out), ?_, ?_⟩
                · rw [HDIST.out, HEND.out]
                  unfold backP
                  rw [hF.out]
                · exact below_putObj (below_setRow hst2.out.bl (Nat.le_refl _) _) hDB _
          · obtain ⟨A', rfl⟩ := Int.eq_ofNat_of_zero_le hA0
            obtain ⟨hAR, hAD, hAF⟩ := hArange.resolve_left (by omega)
            simp only [Int.toNat_natCast] at hAR hAD hAF
            obtain ⟨ca, fa⟩ := hst.out.doneCell (i := A') (by rw [hdl.out]; omega)
            have a128 : (A' : Int) < 128 := by omega
            have a128' : A' < 128 := by omega
            have hst' := hidE ((hst.out.drewN nd).setDone A')
            have hnl : near.length = k := by rw [← HNEAR.out, nearP_length]
            obtain ⟨ro, rc, hrv⟩ := hst.out.nr.bounds (p := A') (by omega)
            obtain ⟨row, hrow⟩ : ∃ r, near.getD A' [] = r := ⟨_, rfl⟩
            rw [hrow] at hrv
            have hm0 : wr.cell? ⟨w1.heap.size + 1, A', none⟩ = some (.slice ro row.length rc) := by
              rw [cell_of_row _ _ _ _ _ _ hst.out.nr.blk, List.getElem?_toArray, ← hrv, List.getD_eq_getElem?_getD, List.getElem?_eq_getElem (by rw [hst.out.nr.len]; omega)]; rfl
            have HROW := hidE hrow
            have HRV := hidE hrv
            clear hrow hrv
            have HDR2 : Hid (dijGo k h near (undone k (done.set A' true) + 1) (row.foldl (relaxD h A') out) (done.set A' true) = dr) := by
              refine hidE ?_
              have hp : pickP k out done = (A' : Int) := by unfold pickP; exact HA.out
              have this := hgo.out
              rw [dijGo, if_neg (by rw [hp]; omega), hp, Int.toNat_natCast, HROW.out, ← undone_set (by rw [hdl.out]; omega) hAR hAD] at this
              exact this
            have hund := undone_set (N := k) (by rw [hdl.out]; omega) hAR hAD
            have hrowb : ∀ b ∈ row, b ∈ bs ∧ b.valid k := by
              intro b hb
              have h1 := mem_nearP (by rw [HNEAR.out, HROW.out]; exact hb : b ∈ (nearP k (selB bs (passes t bs.length))).getD A' [])
              have h2 := mem_selB (fun q hq => (passes_mem.1 hq).1) h1.1
              exact ⟨h2, HV.out b h2⟩
            have hrow4 : row.length ≤ 4000 := by
              have h1 : (nearP k (selB bs (passes t bs.length))).getD A' [] = row := by rw [HNEAR.out]; exact HROW.out
              rw [nearP_get hAR] at h1
              rw [← h1]
              have h2 := List.length_filter_le (fun b : Bd => b.src == (A' : Int)) (selB bs (passes t bs.length))
              have h3 := passes_len t bs.length
              have h4 : (selB bs (passes t bs.length)).length = (passes t bs.length).length := by simp [selB]
              omega
            have HRB := hidE hrowb
            clear hrowb
            go_wp2_with fail
            go_loopw [89] (fun i wr2 => ∃ (q : Nat) (out' : List Int), q ≤ row.length ∧ i = .int .i64 q ∧ Hid ((row.take q).foldl (relaxD h A') out = out') ∧ Hid (OutOk out') ∧ Hid (DSt w wr2 w1.heap.size W.heap.size D k vs near out' (done.set A' true))) (fun i _ => row.length - (intOf i).toNat)
            case atStart => exact ⟨0, out, by omega, rfl, hidE rfl, hok, hst'⟩
            case round =>
              obtain ⟨q, out', hq, rfl, hF, hok2, hst2⟩ := hrel
              by_cases hlq : q < row.length
              · have hba : BoundsAt wr ro row := by
                  have := hst2.out.nr.boundsAt (p := A') (by omega) HRV.out
                  rw [HROW.out] at this; exact this
                obtain ⟨b, off, rfl, hbl, hcs⟩ := hba.at hlq
                obtain ⟨c0, c1, c2, c3⟩ := hcs
                have hval := (HRB.out row[q] (List.getElem_mem hlq)).2
                have hpo := HP.out row[q] (HRB.out row[q] (List.getElem_mem hlq)).1
                obtain ⟨x, hx⟩ : ∃ x, row[q] = x := ⟨_, rfl⟩
                rw [hx] at c0 c1 c2 c3 hval hpo
                have HX := hidE hx
                have HPO := hidE hpo
                clear hx hpo
                obtain ⟨xs, xd, xm, xr⟩ := x
                obtain ⟨v1, v2, v3, v4, v5, v6⟩ := hval
                simp only at c0 c1 c2 c3 v1 v2 v3 v4 v5 v6
                obtain ⟨si, rfl⟩ := Int.eq_ofNat_of_zero_le v1
                obtain ⟨di, rfl⟩ := Int.eq_ofNat_of_zero_le v3
                have hnet2 := hidE (blk_below hst2.out.bl hbn HN.out)
                have bnw : bn < wr.heap.size := lt_of_block hnet2.out
                have sw : w1.heap.size < wr.heap.size := lt_of_block hst2.out.o
                have ns0 : wr.cell? ⟨bn, 2 + si, none⟩ = some (.int .i64 (h.getD si 0)) := by rw [cell_of_row _ _ _ _ _ _ hnet2.out, netA_get (by rw [HH.out]; omega)]
                have nd0 : wr.cell? ⟨bn, 2 + di, none⟩ = some (.int .i64 (h.getD di 0)) := by rw [cell_of_row _ _ _ _ _ _ hnet2.out, netA_get (by rw [HH.out]; omega)]
                obtain ⟨oa, _⟩ := hst2.out.outCell (i := A') (by rw [hok2.out.1]; omega)
                obtain ⟨od, of⟩ := hst2.out.outCell (i := di) (by rw [hok2.out.1]; omega)
                have ls := HL.out si
                have ld := HL.out di
                have ra := hok2.out.2 A'
                have rd := hok2.out.2 di
                obtain ⟨hs, ehs⟩ : ∃ v, h.getD si 0 = v := ⟨_, rfl⟩
                obtain ⟨hd, ehd⟩ : ∃ v, h.getD di 0 = v := ⟨_, rfl⟩
                obtain ⟨va, eva⟩ : ∃ v, out'.getD A' 0 = v := ⟨_, rfl⟩
                obtain ⟨vd, evd⟩ : ∃ v, out'.getD di 0 = v := ⟨_, rfl⟩
                rw [ehs] at ns0 ls
                rw [ehd] at nd0 ld
                rw [eva] at oa ra
                rw [evd] at od rd
                have EHS := hidE ehs
                have EHD := hidE ehd
                have EVA := hidE eva
                have EVD := hidE evd
                clear ehs ehd eva evd
                unfold farI at ra rd
                obtain ⟨ra0, ra1⟩ := ra
                obtain ⟨rd0, rd1⟩ := rd
                have s128 : (si : Int) < 128 := by omega
                have d128 : (di : Int) < 128 := by omega
                go_wp2_with fail
                obtain ⟨W2, hW2⟩ : ∃ W2, W2 = wr.alloc (Obj.cells #[.int .i64 si, .int .i64 di, .int .i64 xm, .int .i64 xr] 47) := ⟨_, rfl⟩
                rw [← hW2]
                have hst3 := hidE (hst2.out.alloc (Obj.cells #[.int .i64 si, .int .i64 di, .int .i64 xm, .int .i64 xr] 47))
                have hy : W2.heap[wr.heap.size]? = some (.cells #[.int .i64 si, .int .i64 di, .int .i64 xm, .int .i64 xr] 47 (0,0)) := by rw [hW2]; exact heap_alloc_new _ _
                have y0 : W2.cell? ⟨wr.heap.size, 0, none⟩ = some (.int .i64 si) := by rw [cell_of_row _ _ _ _ _ _ hy]; rfl
                have y1 : W2.cell? ⟨wr.heap.size, 1, none⟩ = some (.int .i64 di) := by rw [cell_of_row _ _ _ _ _ _ hy]; rfl
                have y2 : W2.cell? ⟨wr.heap.size, 2, none⟩ = some (.int .i64 xm) := by rw [cell_of_row _ _ _ _ _ _ hy]; rfl
                have hbw : Below wr.heap.size wr W2 := by rw [hW2]; exact (Below.refl _ _).alloc (Nat.le_refl _) _
                rw [← hW2] at hst3
                have HBW := hidE hbw
                clear hW2 hy hbw
                have q0 : W2.cell? ⟨bn, 2 + si, none⟩ = some (.int .i64 hs) := (HBW.out.cell (by exact bnw)).trans ns0
                have q1 : W2.cell? ⟨bn, 2 + di, none⟩ = some (.int .i64 hd) := (HBW.out.cell (by exact bnw)).trans nd0
                have q2 : W2.cell? ⟨w1.heap.size, A', none⟩ = some (.int .i64 va) := (HBW.out.cell (by exact sw)).trans oa
                have q3 : W2.cell? ⟨w1.heap.size, di, none⟩ = some (.int .i64 vd) := (HBW.out.cell (by exact sw)).trans od
                have q4 : W2.frozen? ⟨w1.heap.size, di, none⟩ = false := frozen_of_row _ _ _ _ _ hst3.out.o
                clear ns0 nd0 oa od of c0 c1 c2 c3
                go_still_tail 30, (by kernel_rfl)
                change wpList _ _ _ _ _ W2.drew
                go_wp2_with fail
                go_roundw
                case rel =>
                  refine ⟨q + 1, _, by omega, by go_num, hidE rfl, ?_, ?_⟩
                  · refine hidE ?_
                    rw [foldl_take_succ _ _ _ hlq, hF.out, HX.out]
                    exact outOk_relax hok2.out HPO.out
                  · refine hidE ?_
                    rw [foldl_take_succ _ _ _ hlq, hF.out, HX.out]
                    unfold relaxD getI
                    simp only [Int.toNat_natCast, EHS.out, EHD.out, EVA.out, EVD.out]
                    rw [show min vd (va + xm + hs - hd) = (if va + xm + hs - hd < vd then va + xm + hs - hd else vd) from by split <;> omega]
                    exact (hst3.out.setOut _ _).drew
                case measure => simp [intOf]; omega
              · have hqr : q = row.length := by omega
                subst hqr
                rw [List.take_length] at hF
                rw [hF.out] at HDR2
                have hdl2 : (done.set A' true).length = 128 := by rw [List.length_set]; exact hdl.out
                go_wp2_with fail
                go_roundg (undone k (done.set A' true))
                case measure => omega
                case rel => exact ⟨out', done.set A' true, Nat.le_refl _, HDR2, hok2, hidE hdl2, hst2⟩

end Go.Proofs.YthcmjhellpjllaaGreat

/- A region that draws its order, in a round of a range over a function: its own reads in the text's order, and a forced tail. -/
namespace Go.Proofs.YthcmjhellpjllaaGreat
open Go Go.RowKit Go.Shelf

/-- A walk of the reads, then of the tail, gives every order. -/
theorem wpAny_still {P : Program} {Q : Exit → Act → World → Prop} {a : Act} {w : World} {l : List Oper} (n : Nat) (hB : Region.lexTailB .any l.toArray n = true)
    (h : wpStill P l.toArray w (fun a' => wpList P l.toArray Q (l.drop n) a' w) (l.take n) a) : wpAny P .any l.toArray Q l.toArray.size (Array.replicate l.toArray.size false) a w := by
  simp only [Region.lexTailB, Bool.and_eq_true, decide_eq_true_eq] at hB
  obtain ⟨⟨⟨⟨b1, b2⟩, b3⟩, b4⟩, b5⟩ := hB
  have k1 : (l.take n).length = n := by rw [List.length_take]; have : n < l.length := by simpa using b2
                                        omega
  have k2 : (l.drop n).length = l.toArray.size - n := by simp
  have head : ∀ j, j < (l.take n).length → (l.take n)[j]? = l.toArray[0 + j]? := by
    intro j hj
    rw [List.getElem?_take_of_lt (by omega)]
    simp
  have none0 : HeadInv .any l.toArray n (Array.replicate l.toArray.size false) := by
    refine ⟨by simp, ?_, ?_⟩
    · intro j oj _ e; rw [getD_replicate_false] at e; cases e
    · intro t _ ht; exact getD_in (by simpa using ht) (getD_replicate_false _ _)
  have tail : ∀ (listed : Array Bool) (a' : Act), Region.seqB .any l.toArray (l.toArray.size - n) n listed = true ∧ wpList P l.toArray Q (l.drop n) a' w → wpAny P .any l.toArray Q (l.toArray.size - n) listed a' w := by
    rintro listed a' ⟨e1, e2⟩
    have e3 := wpAny_of_seq (md := .any) (l.drop n) n listed a' w (fun j => by simp [List.getElem?_drop]) (by rw [k2]; exact e1) e2
    rw [k2] at e3
    exact e3
  have all := wpAny_of_head (Q' := Q) (g := l.toArray.size - n) tail _ _ _ (wpAnyL_lex (md := .any) b1 b3 b4 b2 (l.take n) 0 _ a head (by rw [Nat.zero_add]; exact k1) none0 (by rw [k1]; exact b5) h)
  rw [k1, show n + (l.toArray.size - n) = l.toArray.size by omega] at all
  exact all

theorem wpIn_region_still_round {P : Program} {l : List Oper} {Q : Exit → Act → World → Prop} {id m lv : Nat} {a : Act} {w : World} (n : Nat) (hm : P.follows .mixedOrders = true) (hB : Region.lexTailB .any l.toArray n = true) (hnd : noDefer l.toArray = true) (hout : ¬ LetsOut Q)
    (h : wpStill P l.toArray w.drew (fun a' => wpList P l.toArray Q (l.drop n) a' w.drew) (l.take n) a) : (Code.region id l.toArray true).wpIn (Fence.wide.inRound lv) m P Q a w :=
  wpIn_region_any hm (wpAnyIn_of_wpAny lv m (noDefer_spec hnd) hout _ _ _ _ (wpAny_still n hB h))

theorem builtRow {l : List Int} (hl : l.length = 128) : Tryz.prog.builtSlice 56 1 [(0, .agg (rowA l))] = some (rowA l) := by
  have i94 : (Tryz.prog.info? 56).map (·.size) = some 128 := by kernel_rfl
  have z94 : ((Tryz.prog.info? 56).bind (·.zero)).isSome = true := by kernel_rfl
  unfold Program.builtSlice
  cases hi : Tryz.prog.info? 56 with
  | none => rw [hi] at i94; cases i94
  | some ie =>
    rw [hi] at i94 z94
    simp only [Option.map_some, Option.some.injEq, Option.bind_some] at i94 z94
    obtain ⟨z, hz⟩ := Option.isSome_iff_exists.1 z94
    simp only [hz, i94]
    rw [if_neg (by omega)]
    have := Great.fill_whole (s := 128) (by omega) [.agg (rowA l)] ((Array.range (1 * 128)).map (z.cells[· % z.cells.size]!)) (fun v hv => by
      rw [List.mem_singleton.1 hv]
      show (rowA l).size = 128
      rw [rowA_size, hl]) (by simp)
    exact this.trans (by simp [Value.cells])

theorem rep128_get (n : Int) {i : Nat} (h : i < 128) : (rep128 n).getD i 0 = n := by
  unfold rep128
  rw [List.getD_eq_getElem?_getD, List.getElem?_replicate, if_pos h]; rfl

theorem wpList_op_append {P : Program} {ops : Array Oper} {rest : List Oper} {o : Oper} {a : Act} {w : World} {Q : Exit → Act → World → Prop} (hg : o.guard = none) {w' : World} {s x : Operand} {t : TypeId} {vs vx v : Value}
    (hop : o.op = Op.call { callee := Callee.builtin Builtin.append, args := #[s, x], argTypes := #[t, t] }) (hs : a.eval s = vs) (hx : a.eval x = vx) (hrun : (Builtin.append_ #[t, t] o.type #[vs, vx]).run P w = .ok v w')
    (h : wpList P ops Q rest (a.put o.dst v) w') : wpList P ops Q (o :: rest) a w :=
  wpList_plain hg fun K hK => by
    unfold Oper.wp
    rw [run_op_append hop hs hx hrun]
    exact hK _ _ h

/-- Lists of rows, cell by cell. -/
def flatR (rows : List (List Int)) : List Value := rows.flatMap intsV
theorem flatR_append (a b : List (List Int)) : flatR (a ++ b) = flatR a ++ flatR b := by simp [flatR]
theorem flatR_one (r : List Int) : flatR [r] = intsV r := by simp [flatR]
theorem flatR_get : ∀ (rows : List (List Int)) (k : Nat) (_ : ∀ r ∈ rows, r.length = 128) (_ : k < rows.length) (p : Nat), p < 128 → (flatR rows)[k * 128 + p]? = some (.int .i64 ((rows.getD k []).getD p 0))
  | [], k, _, h, _, _ => by simp at h
  | r :: rows, 0, hr, _, p, hp => by
    have h0 := hr r (List.mem_cons_self ..)
    simp only [flatR, List.flatMap_cons]
    rw [List.getElem?_append_left (by simp [intsV]; omega)]
    simp [intsV, List.getD_eq_getElem?_getD, show p < r.length by omega]
  | r :: rows, k + 1, hr, hk, p, hp => by
    have h0 := hr r (List.mem_cons_self ..)
    have ih := flatR_get rows k (fun x hx => hr x (List.mem_cons_of_mem _ hx)) (by simpa using hk) p hp
    simp only [flatR, List.flatMap_cons] at ih ⊢
    rw [List.getElem?_append_right (by simp [intsV]; omega)]
    rw [show (k + 1) * 128 + p - (intsV r).length = k * 128 + p by simp [intsV]; omega]
    simpa using ih
theorem flatR_length : ∀ (rows : List (List Int)) (_ : ∀ r ∈ rows, r.length = 128), (flatR rows).length = rows.length * 128
  | [], _ => rfl
  | r :: rows, hr => by
    have ih := flatR_length rows (fun x hx => hr x (List.mem_cons_of_mem _ hx))
    have h0 := hr r (List.mem_cons_self ..)
    simp only [flatR, List.flatMap_cons, List.length_append, List.length_cons] at ih ⊢
    rw [ih]
    simp only [intsV, List.length_map]
    omega

/-- What later steps of a function with marks keep. -/
structure KeepsD (B : Nat) (W W' : World) : Prop where
  below : Below B W W'
  cells : ∀ (k : Nat) (c : Array Value) (t : TypeId) (f : Nat × Nat), W.heap[k]? = some (.cells c t f) → W'.heap[k]? = some (.cells c t f)
theorem KeepsD.refl (B : Nat) (W : World) : KeepsD B W W := ⟨Below.refl _ _, fun _ _ _ _ h => h⟩

/-- The marks that ranges over functions have left. -/
def Marks (B : Nat) (ds : List Deferred) (W : World) : Prop :=
  ∃ Ds : List Nat, ds = Ds.map (fun D => { target := .collected D, args := #[] }) ∧ Ds.Nodup ∧ ∀ D ∈ Ds, B ≤ D ∧ W.heap[D]? = some (.deferred (some []))

theorem Marks.nil (B : Nat) (W : World) : Marks B [] W := ⟨[], rfl, List.nodup_nil, fun _ h => by cases h⟩
theorem Marks.keep {B : Nat} {ds : List Deferred} {W W' : World} (h : Marks B ds W) (hk : ∀ D, B ≤ D → W.heap[D]? = some (.deferred (some [])) → W'.heap[D]? = some (.deferred (some []))) : Marks B ds W' := by
  obtain ⟨Ds, e, hn, hD⟩ := h
  exact ⟨Ds, e, hn, fun D hm => ⟨(hD D hm).1, hk D (hD D hm).1 (hD D hm).2⟩⟩
theorem Marks.cons {B : Nat} {ds : List Deferred} {W W' : World} {D : Nat} (h : Marks B ds W) (hk : ∀ D, B ≤ D → W.heap[D]? = some (.deferred (some [])) → W'.heap[D]? = some (.deferred (some []))) (hB : B ≤ D) (hf : W.heap.size ≤ D) (hD : W'.heap[D]? = some (.deferred (some []))) :
    Marks B ({ target := .collected D, args := #[] } :: ds) W' := by
  obtain ⟨Ds, e, hn, hDs⟩ := h
  refine ⟨D :: Ds, by rw [e]; rfl, List.nodup_cons.2 ⟨fun hm => ?_, hn⟩, fun D' hm => ?_⟩
  · have := lt_of_block (hDs D hm).2
    omega
  · rcases List.mem_cons.1 hm with rfl | hm
    · exact ⟨hB, hD⟩
    · exact ⟨(hDs D' hm).1, hk D' (hDs D' hm).1 (hDs D' hm).2⟩

theorem leaves_marks {P : Program} {F : Fence} {n : Nat} {fn : Func} {tmps : Array Value} {R : Ending → World → Prop} {B : Nat} : ∀ (ds : List Deferred) (W : World), Marks B ds W →
    (∀ W', KeepsD B W W' → ∃ v, (results fn tmps).run P W' = .ok v W' ∧ R (.returned v) W') → LeavesInM F n P fn tmps R ds .returning W := by
  rintro ds W ⟨Ds, rfl, hn, hD⟩
  induction Ds generalizing W with
  | nil => intro h; exact h W (KeepsD.refl _ _)
  | cons D Ds ih =>
    intro h
    have h0 := hD D (List.mem_cons_self ..)
    have k0 : KeepsD B W (W.putObj D (.deferred none)) := ⟨below_putObj (Below.refl _ _) h0.1 _, fun k c t f hk => by
      rw [World.putObj_heap_other (fun e => by rw [e, h0.2] at hk; cases hk)]; exact hk⟩
    refine ⟨by simp, .inl ⟨_, _, rfl, run_takeDeferred h0.2, ih _ (List.nodup_cons.1 hn).2 (fun D' hm => ⟨(hD D' (List.mem_cons_of_mem _ hm)).1, ?_⟩) (fun W' k1 => h W' ⟨k0.below.trans k1.below, fun k c t f hk => k1.cells k c t f (k0.cells k c t f hk)⟩)⟩⟩
    have hne : D' ≠ D := by intro e; rw [e] at hm; exact (List.nodup_cons.1 hn).1 hm
    rw [World.putObj_heap_other hne]
    exact (hD D' (List.mem_cons_of_mem _ hm)).2

end Go.Proofs.YthcmjhellpjllaaGreat

/- A region in a round of a range over a function, by the laws for lists of operations outside of rounds. -/
namespace Go.Proofs.YthcmjhellpjllaaGreat
open Go Go.RowKit Go.Shelf

theorem operIn_of_oper {P : Program} {Q : Exit → Act → World → Prop} {K : Act → World → Prop} {a : Act} {w : World} {o : Oper} (l n : Nat) (hnd : ∀ c, o.op ≠ .defer c) (hout : ¬ LetsOut Q)
    (h : o.wp P a w K Q ∨ (o.asks P a w ∧ LetsOut Q)) : o.wpIn (Fence.wide.inRound l) n P a w K Q := by
  rcases h with h | h
  · refine ⟨fun _ _ => trivial, ?_⟩
    unfold Oper.wp at h
    rw [show (Fence.wide.inRound l).round = some l from rfl, Oper.semAt_some l _ _ hnd]
    generalize (execOp a.eval o).run P w = r at h ⊢
    cases r with
    | ok x w' =>
      cases x <;> simp only [Oper.upon] at h <;> try exact h
      · exact ⟨fun hd => by simp [Fence.wide] at hd, (callsIn_wide.2 h).inRound l⟩
      · exact ⟨fun hd => by simp [Fence.wide] at hd, fun c cs _ => let ⟨v, w'', r, s⟩ := h c cs; ⟨v, w'', r, stepsIn_wide.2 s⟩⟩
    | halt x w' => cases x <;> simp only [Oper.upon] at h <;> exact h
  · exact absurd h.2 hout

theorem wpListIn_of_wpList {P : Program} {ops : Array Oper} {Q : Exit → Act → World → Prop} (l n : Nat) (hout : ¬ LetsOut Q) : ∀ (ls : List Oper) (_ : ∀ o ∈ ls, ∀ c, o.op ≠ .defer c) (a : Act) (w : World), wpList P ops Q ls a w → wpListIn (Fence.wide.inRound l) n P ops Q ls a w
  | [], _, _, _, h => h
  | o :: rest, hnd, a, w, h => by
    have ih := wpListIn_of_wpList (P := P) (ops := ops) l n hout rest (fun x hx => hnd x (List.mem_cons_of_mem _ hx))
    unfold wpList at h
    unfold wpListIn
    split
    · rename_i hw
      rw [if_pos hw] at h
      refine operIn_of_oper l n (hnd o (List.mem_cons_self ..)) hout ?_
      rcases h with h | h
      · exact .inl (Oper.wp_mono ih h)
      · exact .inr h
    · rename_i hw
      rw [if_neg hw] at h
      exact ⟨fun _ _ => trivial, ih _ _ h⟩

/-- THE LAW. -/
theorem wpIn_region_list_round {P : Program} {Q : Exit → Act → World → Prop} {id n lv : Nat} {l : List Oper} {a : Act} {w : World} (hnd : noDefer l.toArray = true) (hout : ¬ LetsOut Q)
    (h : wpList P l.toArray Q l a w) : (Code.region id l.toArray false).wpIn (Fence.wide.inRound lv) n P Q a w :=
  wpIn_region_lit (wpListIn_of_wpList lv n hout l (fun o ho c => by
    obtain ⟨j, hj, e⟩ := List.getElem_of_mem ho
    exact noDefer_spec hnd j o (by simp [← e]) c) a w h)

theorem wpListIn_op_append {P : Program} {ops : Array Oper} {rest : List Oper} {o : Oper} {a : Act} {w : World} {Q : Exit → Act → World → Prop} {l n : Nat} (hg : o.guard = none) (hout : ¬ LetsOut Q) {w' : World} {s x : Operand} {t : TypeId} {vs vx v : Value}
    (hop : o.op = Op.call { callee := Callee.builtin Builtin.append, args := #[s, x], argTypes := #[t, t] }) (hs : a.eval s = vs) (hx : a.eval x = vx) (hrun : (Builtin.append_ #[t, t] o.type #[vs, vx]).run P w = .ok v w')
    (h : wpListIn (Fence.wide.inRound l) n P ops Q rest (a.put o.dst v) w') : wpListIn (Fence.wide.inRound l) n P ops Q (o :: rest) a w :=
  wpListIn_plain hg fun K hK => operIn_of_oper l n (by intro c e; rw [hop] at e; cases e) hout (.inl (by
    unfold Oper.wp
    rw [run_op_append hop hs hx hrun]
    exact hK _ _ h))

end Go.Proofs.YthcmjhellpjllaaGreat

/- Walks: walks. -/
namespace Go.Proofs.YthcmjhellpjllaaGreat
open Go Go.RowKit Go.Shelf
attribute [local go_sem] Oper.semAt_some

/-- What stands between two rounds of walks. -/
structure WSt (w W : World) (N : Int) (a : Option Addr) (len cap base b9 k : Nat) (rows : List (List Int)) : Prop where
  box : W.heap[w.heap.size]? = some (.cells #[.int .i64 N, .slice a len cap] 24 (0,0))
  var : ∃ g cp, W.heap[b9]? = some (.cells #[.slice (some ⟨g, 0, none⟩) (k + 1) cp] 53 (0,0)) ∧ W.ownsRow base 56 128 (.slice (some ⟨g, 0, none⟩) (k + 1) cp) (k + 1) (flatR rows)
  bl : Below w.heap.size w W

theorem ownsRow_of_block {W W' : World} {base : Nat} {e : TypeId} {size : Nat} {v : Value} {n : Nat} {xs : List Value} (h : W.ownsRow base e size v n xs) (hb : ∀ g, v.ownBlock = some g → W'.heap[g]? = W.heap[g]?) : W'.ownsRow base e size v n xs := by
  refine ⟨h.1, ?_⟩
  rcases h.2 with h0 | ⟨g, cp, cur, e, hg, hh, r⟩
  · exact .inl h0
  · exact .inr ⟨g, cp, cur, e, hg, by rw [hb g (by rw [e]; rfl)]; exact hh, r⟩

theorem rows_cell {W : World} {base g n cp : Nat} {rows : List (List Int)} (h : W.ownsRow base 56 128 (.slice (some ⟨g, 0, none⟩) n cp) n (flatR rows)) (hr : ∀ r ∈ rows, r.length = 128) {k p : Nat} (hk : k < rows.length) (hp : p < 128) :
    W.cell? ⟨g, k * 128 + p, none⟩ = some (.int .i64 ((rows.getD k []).getD p 0)) := by
  rcases h.2 with ⟨e, _⟩ | ⟨g', cp', cur, e, _, hh, _, _, _, htk⟩
  · cases e
  · cases e
    have hlen := h.1
    rw [flatR_length rows hr] at hlen
    rw [cell_of_row _ _ _ _ _ _ hh]
    have := flatR_get rows k hr hk p hp
    rw [← htk, List.getElem?_take_of_lt (by omega)] at this
    simpa using this

theorem walksP_len {N : Int} {l : List Bd} (hv : ∀ b ∈ l, b.valid N) (to k : Nat) : ∀ r ∈ walksP l to k, r.length = 128 := by
  intro r hr
  simp only [walksP, List.mem_map] at hr
  obtain ⟨i, _, rfl⟩ := hr
  exact (walkOk_row hv to i).1

theorem ownsRow_base {W : World} {base base' : Nat} {e : TypeId} {size : Nat} {v : Value} {n : Nat} {xs : List Value} (h : W.ownsRow base e size v n xs) (hb : base' ≤ base) : W.ownsRow base' e size v n xs := by
  refine ⟨h.1, ?_⟩
  rcases h.2 with h0 | ⟨g, cp, cur, e, hg, r⟩
  · exact .inl h0
  · exact .inr ⟨g, cp, cur, e, Nat.le_trans hb hg, r⟩

theorem info94 : (Tryz.prog.info? 56).map (fun i => (i.zero, i.size, i.bytes)) = some (some (.agg Tryz.zeroCells56), 128, 1024) := by kernel_rfl

set_option maxRecDepth 100000 in
set_option maxHeartbeats 2000000 in
theorem walks_any (w : World) (N : Int) (R : Nat) (a : Option Addr) (cap : Nat) (bs : List Bd) (to most : Nat) (tf : FuncId) (caps : Array Value) (t : Nat → Bool) (hR1 : R ≤ 128) (hl : bs.length ≤ 4000)
    (hB : BoundsAt w a bs) (hv : ∀ b ∈ bs, b.valid R) (hto : to < R) (hm : most ≤ 128) (hT : TestsIdx Tryz.prog tf caps (· < w.heap.size) w bs.length t) (eg : Enters Tryz.prog tf) :
    Calls Tryz.prog 32 #[.agg #[.int .i64 N, .slice a bs.length cap], .int .i64 to, .int .i64 most, .func (.func tf) #[] caps] w fun e w' => ∃ g cp, e = .returned (.slice (some ⟨g, 0, none⟩) (most + 1) cp) ∧ Below w.heap.size w w' ∧
      w'.ownsRow w.heap.size 56 128 (.slice (some ⟨g, 0, none⟩) (most + 1) cp) (most + 1) (flatR (walksP (selB bs (passes t bs.length)) to most)) := by
  have i94 : Hid ((Tryz.prog.info? 56).map (·.size) = some 128) := hidE (by kernel_rfl)
  have H := hidE hB
  have HV := hidE hv
  have HT := hidE hT
  have EG := hidE eg
  clear hB hv hT eg
  refine (callsIn_wide (n := 8)).1 (callsIn_of_wp_marks Tryz.func32 rfl trivial (wpIn_wide.2 ?_) rfl)
  simp only [Tryz.ntmps32, List.size_toArray, List.length_cons, List.length_nil, Nat.reduceAdd, Nat.reduceSub, Array.replicate_succ, Array.replicate_zero, List.push_toArray, List.append_toArray, List.nil_append, List.cons_append]
  go_wp2_with fail
  refine (filled_any _ _).mono ?_
  rintro e w1 ⟨rfl, hb1⟩
  have hbr : Hid (Tryz.prog.builtSlice 56 1 [(0, .agg (rowA (rep128 1125899906842624)))] = some (rowA (rep128 1125899906842624))) := hidE (builtRow (rep128_length _))
  have hget : (rowA (rep128 1125899906842624))[to]? = some (.int .i64 1125899906842624) := by rw [rowA_get (by rw [rep128_length]; omega), rep128_get _ (by omega)]
  go_wp2_with (first
    | (refine Great.wpList_buildSliceTo rfl 53 56 1 _ rfl _ rfl _ rfl Tryz.underlying53 _ (by simp [Act.eval]; exact hbr.out) ?_))
  have hs1 : w.heap.size < w1.heap.size := by have := hb1.size; simp at this; omega
  obtain ⟨W1, hW1⟩ : ∃ W1, W1 = (w1.alloc (Obj.cells ((rowA (rep128 1125899906842624)).setIfInBounds to (.int .i64 0)) 56)).alloc (Obj.cells #[.slice (some ⟨w1.heap.size, 0, none⟩) 1 1] 53) := ⟨_, rfl⟩
  rw [← hW1]
  have st0 : WSt w W1 N a bs.length cap w1.heap.size (w1.heap.size + 1) 0 (walksP (selB bs (passes t bs.length)) to 0) := by
    refine ⟨?_, ⟨w1.heap.size, 1, ?_, ?_, ?_⟩, ?_⟩
    · rw [hW1]
      refine blk_below ((Below.refl _ _).alloc (by simp) _) hs1 (blk_below ((Below.refl _ _).alloc (Nat.le_refl _) _) hs1 (blk_below hb1 (by simp) (heap_alloc_new _ _)))
    · rw [hW1, heap_alloc_at _ _ _ (by simp)]
    · show (flatR [walkRow _ to 0]).length = _
      rw [flatR_one]; simp [intsV, walkRow]
    · refine .inr ⟨w1.heap.size, 1, (rowA (rep128 1125899906842624)).setIfInBounds to (.int .i64 0), rfl, Nat.le_refl _, ?_, by omega, by simp [maxLen], ?_, ?_⟩
      · rw [hW1, Below.heap_alloc _ _ _ (by simp)]; exact heap_alloc_new _ _
      · rw [Array.size_setIfInBounds, rowA_size, rep128_length]
      · show _ = flatR [walkRow _ to 0]
        rw [flatR_one, rowA_set]
        simp only [rowA, walkRow]
        rw [List.take_of_length_le (by simp [intsV, rep128_length])]
        rfl
    · rw [hW1]
      exact (((Below.refl w.heap.size w).alloc (Nat.le_refl _) _).trans (hb1.mono (by simp))).trans (((Below.refl _ _).alloc (by omega) _).alloc (by simp; omega) _)
  have hz1 : W1.heap.size = w1.heap.size + 2 := by rw [hW1]; simp
  clear hW1 hget
  have ST0 := hidE st0
  clear st0
  refine wp_loop_ghost_k (fun n a' W => ∃ u10 u11 u13 u14 u22 u23 u24 u25 u26 u27 u28 u29 u30 u31 u32 u33 u34 u35 u36 u37 u38 u39 u40 u41 u42 u43 u44 u45 u46 u47 u48 u49 u50 u51 u52 u53 u54 u55 u56 u57 ds, (∃ k : Nat, k ≤ most ∧ n = most - k ∧ u22 = .int .i64 k ∧ Hid (WSt w W N a bs.length cap w1.heap.size (w1.heap.size + 1) k (walksP (selB bs (passes t bs.length)) to k)) ∧ Hid (Marks w1.heap.size ds W) ∧ w1.heap.size + 2 ≤ W.heap.size) ∧
    a' = { tmps := [.agg #[.int .i64 N, .slice a bs.length cap], .int .i64 to, .int .i64 most, .func (.func tf) #[] caps, .pointer (some ⟨w.heap.size, 0, none⟩), undef, undef, undef, .slice none 0 0, .pointer (some ⟨w1.heap.size + 1, 0, none⟩), u10, u11, undef, u13, u14, .agg (rowA (rep128 1125899906842624)), .slice (some ⟨w1.heap.size, 0, none⟩) 1 1, .slice (some ⟨w1.heap.size, 0, none⟩) 1 1, .int .i64 to, .pointer (some ⟨w1.heap.size, 0, none⟩), .pointer (some ⟨w1.heap.size, to, none⟩), .int .i64 most, u22, u23, u24, u25, u26, u27, u28, u29, u30, u31, u32, u33, u34, u35, u36, u37, u38, u39, u40, u41, u42, u43, u44, u45, u46, u47, u48, u49, u50, u51, u52, u53, u54, u55, u56, u57, undef].toArray, defers := ds }) most ?_ ?_
  · exact ⟨_, _, _, _, _, _, _, _, _, _, _, _, _, _, _, _, _, _, _, _, _, _, _, _, _, _, _, _, _, _, _, _, _, _, _, _, _, _, _, _, _, ⟨0, by omega, rfl, rfl, ST0, hidE (Marks.nil _ _), by omega⟩, rfl⟩
  · rintro n _ wr ⟨u10, u11, u13, u14, u22, u23, u24, u25, u26, u27, u28, u29, u30, u31, u32, u33, u34, u35, u36, u37, u38, u39, u40, u41, u42, u43, u44, u45, u46, u47, u48, u49, u50, u51, u52, u53, u54, u55, u56, u57, ds, ⟨k, hk, rfl, rfl, hst, hmk, hsz⟩, rfl⟩ J K hJ hK
    by_cases hlt : k < most
    · obtain ⟨g, cp, hvar, hown⟩ := hst.out.var
      have cbx : wr.cell? ⟨w.heap.size, 1, none⟩ = some (.slice a bs.length cap) := by rw [cell_of_row _ _ _ _ _ _ hst.out.box]; rfl
      have HVAR := hidE hvar
      have HOWN := hidE hown
      clear hvar hown
      go_wp2_with fail
      refine (filled_any _ _).mono ?_
      rintro e w2 ⟨rfl, hb2⟩
      have hs2 : wr.heap.size < w2.heap.size := by have := hb2.size; simp at this; omega
      have B2 := hidE (((Below.refl wr.heap.size wr).alloc (Nat.le_refl _) (Obj.cells #[.int .i64 (k : Int)] 3)).trans (hb2.mono (by simp)))
      have hbk := blk_below hb2 (by simp) (heap_alloc_new wr (Obj.cells #[.int .i64 (k : Int)] 3))
      have HBK := hidE hbk
      clear hbk
      have c1 : w2.cell? ⟨w.heap.size, 1, none⟩ = some (.slice a bs.length cap) := (B2.out.cell (by show w.heap.size < _; omega)).trans cbx
      have hsw2 : w.heap.size < w2.heap.size := by omega
      have hsw21 : w.heap.size < w2.heap.size + 1 := by omega
      have hst' : (w2.alloc (.cells Tryz.zeroCells56 56)).heap[w2.heap.size]? = some (.cells (rowA (rep128 0)) 56 (0,0)) := by rw [zc94]; exact heap_alloc_new _ _
      have HST := hidE hst'
      clear hst' hb2 cbx
      go_wp2_with (first
        | (refine wpList_store_row rfl 56 _ _ rfl _ _ rfl rfl 56 _ HST.out (by rw [rowA_size]; simpa [rep128_length] using i94.out) (by rw [rowA_size, rowA_size]; simp [rep128_length]) (intsV_one _) ?_; rw [World.setRow_alloc_new])
        | (go_at_call 62; refine (edges_any _ _ _ _ _ _).mono ?_; rintro e w' ⟨rfl, rfl⟩))
      obtain ⟨W0, hW0⟩ : ∃ W0, W0 = ((w2.alloc (Obj.cells (rowA (rep128 1125899906842624)) 56)).alloc (Obj.cells #[Value.slice a bs.length cap] 22)).alloc (Obj.cells #[Value.func (Fn.func tf) #[] caps] 69) := ⟨_, rfl⟩
      rw [← hW0]
      obtain ⟨cur, hcur⟩ : ∃ c, walkRow (selB bs (passes t bs.length)) to k = c := ⟨_, rfl⟩
      have hcok : WalkOk k cur := by
        rw [← hcur]
        exact walkOk_row (N := (R : Int)) (fun b hb => HV.out b (mem_selB (fun q hq => (passes_mem.1 hq).1) hb)) to k
      have HCUR := hidE hcur
      have HCOK := hidE hcok
      clear hcur hcok
      have z0 : W0.heap.size = w2.heap.size + 3 := by rw [hW0]; simp
      have o11 : W0.heap[w2.heap.size]? = some (.cells (rowA (rep128 farI)) 56 (0,0)) := by rw [hW0, Below.heap_alloc _ _ _ (by simp only [World.size_alloc]; omega), Below.heap_alloc _ _ _ (by simp only [World.size_alloc]; omega), heap_alloc_at _ _ _ rfl]; rfl
      have o3' : W0.heap[w2.heap.size + 1]? = some (.cells #[.slice a bs.length cap] 22 (0,0)) := by rw [hW0, Below.heap_alloc _ _ _ (by simp only [World.size_alloc]; omega), heap_alloc_at _ _ _ (by simp only [World.size_alloc])]
      have o4' : W0.heap[w2.heap.size + 2]? = some (.cells #[.func (.func tf) #[] caps] 69 (0,0)) := by rw [hW0, heap_alloc_at _ _ _ (by simp only [World.size_alloc])]
      have o3 : W0.cell? ⟨w2.heap.size + 1, 0, none⟩ = some (.slice a bs.length cap) := cell_of_one o3'
      have o4 : W0.cell? ⟨w2.heap.size + 2, 0, none⟩ = some (.func (.func tf) #[] caps) := cell_of_one o4'
      have b02 : Below w2.heap.size w2 W0 := by rw [hW0]; go_grown
      clear hW0 c1 HST o3' o4'
      have b0r : Below wr.heap.size wr W0 := B2.out.trans (b02.mono (by omega))
      have b00 : Below w.heap.size w W0 := hst.out.bl.trans (b0r.mono (by omega))
      have hB0 : BoundsAt W0 a bs := H.out.below b00 (Nat.le_refl _)
      have hT0 : TestsIdx Tryz.prog tf caps (fun b => b < w.heap.size ∨ b = w2.heap.size + 1 ∨ b = w2.heap.size + 2) W0 bs.length t :=
        fun q hq W hkp => HT.out q hq W ⟨Nat.le_trans b00.size hkp.size, fun b hb => (hkp.same b (.inl hb)).trans (b00.block b hb)⟩
      have v10 : W0.heap[wr.heap.size]? = some (.cells #[.int .i64 (k : Int)] 3 (0,0)) := blk_below b02 hs2 HBK.out
      have v9 : W0.heap[w1.heap.size + 1]? = some (.cells #[.slice (some ⟨g, 0, none⟩) (k + 1) cp] 53 (0,0)) := blk_below b0r (by omega) HVAR.out
      have hg9 : g ≠ w1.heap.size + 1 := by
        rcases HOWN.out.2 with ⟨e, _⟩ | ⟨g', cp', cu, e, hb, hh, _⟩
        · cases e
        · cases e
          intro e2
          rw [e2, HVAR.out] at hh
          cases hh
      have hgw : g < wr.heap.size ∧ w1.heap.size ≤ g := by
        rcases HOWN.out.2 with ⟨e, _⟩ | ⟨g', cp', cu, e, hb, hh, _⟩
        · cases e
        · cases e; exact ⟨lt_of_block hh, hb⟩
      have vown : W0.ownsRow w1.heap.size 56 128 (.slice (some ⟨g, 0, none⟩) (k + 1) cp) (k + 1) (flatR (walksP (selB bs (passes t bs.length)) to k)) :=
        ownsRow_of_block HOWN.out (fun g' e => by simp only [Value.ownBlock, Option.some.injEq] at e; rw [← e]; exact b0r.block _ hgw.1)
      refine wp_rangeEdges (w2.heap.size + 1) (w2.heap.size + 2) (fun b => b < w.heap.size ∨ b = w2.heap.size + 1 ∨ b = w2.heap.size + 2) a cap bs tf caps t rfl hl hB0 hT0 EG.out
        (by intro b hb; omega) (.inr (.inl rfl)) (.inr (.inr rfl)) ?fa o3 o4
        (fun pre W => W.heap[w2.heap.size]? = some (.cells (rowA ((selB bs (pre.map (·.1))).foldl (stepE cur) (rep128 farI))) 56 (0,0)) ∧ (∀ b, b < W0.heap.size → b ≠ w2.heap.size → W.heap[b]? = W0.heap[b]?) ∧ Below w2.heap.size W0 W)
        (fun _ _ _ => False) ?own (fun c s W W' row h => h.elim) ⟨o11, fun _ _ _ => rfl, Below.refl _ _⟩ (fun pre W h => h.2.2.size)
        (fun Bx W => True) (fun _ _ _ _ _ _ _ _ => trivial) (fun _ _ _ _ => trivial)
        (fun T x Bx => ((T.setIfInBounds 30 (.int .i64 (x.1 : Int))).setIfInBounds 31 (bs[x.1]'x.2.1).val).setIfInBounds 13 (.pointer (some ⟨Bx, 0, none⟩)))
        ?assign ?body ?done (fun _ _ _ _ _ _ h => h.elim)
      case fa =>
        intro x hx h0
        subst hx
        rcases H.out with e | ⟨b, off, e, hbl, _⟩
        · subst e; simp at h0
        · cases e; exact .inl hbl
      case own =>
        rintro pre W W' row ⟨h1, h2, h3⟩ hg hr
        refine ⟨?_, fun b hb hne => ?_, h3.grown hg (by have := h3.size; omega) (fun k e => by have := (hr k e).1; omega)⟩
        · rw [hg.block _ (lt_of_block h1) (fun e => by have := (hr _ e.symm).1; omega)]; exact h1
        · rw [hg.block b (by have := h3.size; omega) (fun e => by have := (hr _ e.symm).1; omega)]; exact h2 b hb hne
      case assign =>
        intro l x W K hK
        simp only [List.setIfInBounds_toArray, List.set_cons_succ, List.set_cons_zero, Bd.val] at hK ⊢
        gi_wp2
        exact hK
      case body =>
        rintro l pre x Bx W hle ⟨r, hlp⟩ ⟨h1, h2, h3⟩ hBx hc _ hlen
        simp only [List.setIfInBounds_toArray, List.set_cons_succ, List.set_cons_zero, Bd.val]
        have hmem : bs[x.1]'x.2.1 ∈ bs := List.getElem_mem _
        have hsel : selB bs ((pre ++ [x]).map (·.1)) = selB bs (pre.map (·.1)) ++ [bs[x.1]'x.2.1] := by
          rw [List.map_append, selB_append]; simp [selB, x.2.1]
        obtain ⟨y, hy⟩ : ∃ y, bs[x.1]'x.2.1 = y := ⟨_, rfl⟩
        rw [hy] at hmem hc hsel ⊢
        obtain ⟨v1, v2, v3, v4, v5, v6⟩ := HV.out y hmem
        obtain ⟨ys, yd, ym, yr⟩ := y
        simp only at v1 v2 v3 v4 v5 v6
        obtain ⟨si, rfl⟩ := Int.eq_ofNat_of_zero_le v1
        obtain ⟨di, rfl⟩ := Int.eq_ofNat_of_zero_le v3
        obtain ⟨nx, hnx⟩ : ∃ n, (selB bs (pre.map (·.1))).foldl (stepE cur) (rep128 farI) = n := ⟨_, rfl⟩
        have hnxok : WalkOk (k + 1) nx := by
          rw [← hnx]
          exact walkOk_fold (N := (R : Int)) _ _ (fun b hb => HV.out b (mem_selB (by intro q hq; simp only [List.mem_map] at hq; obtain ⟨z, _, rfl⟩ := hq; exact z.2.1) hb)) HCOK.out (walkOk_far _)
        have hstep : (selB bs ((pre ++ [x]).map (·.1))).foldl (stepE cur) (rep128 farI) = stepE cur nx ⟨si, di, ym, yr⟩ := by rw [hsel, List.foldl_append, hnx]; rfl
        rw [hnx] at h1
        have hlW := h3.size
        have k9 : W.cell? ⟨w1.heap.size + 1, 0, none⟩ = some (.slice (some ⟨g, 0, none⟩) (k + 1) cp) := cell_of_one ((h2 _ (by omega) (by omega)).trans v9)
        have k10 : W.cell? ⟨wr.heap.size, 0, none⟩ = some (.int .i64 (k : Int)) := cell_of_one ((h2 _ (by omega) (by omega)).trans v10)
        have kg : W.cell? ⟨g, k * 128 + di, none⟩ = some (.int .i64 (cur.getD di 0)) := by
          have := rows_cell (ownsRow_of_block vown (W' := W) (fun g' e => by simp only [Value.ownBlock, Option.some.injEq] at e; rw [← e]; exact h2 _ (by show g < _; omega) (by show g ≠ _; omega)))
            (walksP_len (N := (R : Int)) (fun b hb => HV.out b (mem_selB (fun q hq => (passes_mem.1 hq).1) hb)) to k) (k := k) (p := di) (by rw [walksP_length]; omega) (by omega)
          rw [walksP_get _ _ _ (Nat.le_refl _), HCUR.out] at this
          exact this
        have y0 : W.cell? ⟨Bx, 0, none⟩ = some (.int .i64 si) := by rw [cell_of_row _ _ _ _ _ _ hc]; rfl
        have y1 : W.cell? ⟨Bx, 1, none⟩ = some (.int .i64 di) := by rw [cell_of_row _ _ _ _ _ _ hc]; rfl
        have y2 : W.cell? ⟨Bx, 2, none⟩ = some (.int .i64 ym) := by rw [cell_of_row _ _ _ _ _ _ hc]; rfl
        have n0 : W.cell? ⟨w2.heap.size, si, none⟩ = some (.int .i64 (nx.getD si 0)) := by rw [cell_of_row _ _ _ _ _ _ h1, rowA_get (by rw [hnxok.1]; omega)]
        have n1 : W.frozen? ⟨w2.heap.size, si, none⟩ = false := frozen_of_row _ _ _ _ _ h1
        have hsd := hnxok.2 si
        have hcd := HCOK.out.2 di
        obtain ⟨vd, hvd⟩ : ∃ v, cur.getD di 0 = v := ⟨_, rfl⟩
        obtain ⟨vs, hvs⟩ : ∃ v, nx.getD si 0 = v := ⟨_, rfl⟩
        rw [hvd] at kg hcd
        rw [hvs] at n0 hsd
        unfold farI at hcd hsd
        have H1 := hidE h1
        have H2 := hidE h2
        have H3 := hidE h3
        have HSTEP := hidE hstep
        have HVD := hidE hvd
        have HVS := hidE hvs
        have hBW := lt_of_block hc
        clear h1 h2 h3 hstep hvd hvs hnx hc hy hsel hmem hnxok hlp
        have k128 : (k : Int) < 128 := by omega
        have kk1 : (k : Int) < (k : Int) + 1 := by omega
        have s128 : (si : Int) < 128 := by omega
        have d128 : (di : Int) < 128 := by omega
        have hmx : Tryz.prog.follows Departure.mixedOrders = true := by kernel_rfl
        gi_wp2_with fail
        refine wpIn_region_still_round 7 hmx (by kernel_rfl) (by kernel_rfl) ?hout ?_
        case hout =>
          rintro ⟨a, w, h⟩
          exact h
        simp only [List.take_succ_cons, List.take_zero, List.drop_succ_cons, List.drop_zero]
        repeat still_step
        refine wpStill_nil ?_
        by_cases hfar : vd < 1125899906842624
        · go_wp2_with fail
          gi_wp2_with fail
          refine wpIn_region_still_round 12 hmx (by kernel_rfl) (by kernel_rfl) ?hout ?_
          case hout =>
            rintro ⟨a, w, h⟩
            exact h
          simp only [List.take_succ_cons, List.take_zero, List.drop_succ_cons, List.drop_zero]
          repeat still_step
          refine wpStill_nil ?_
          go_wp2_with fail
          refine ⟨(((KeepsOthers.drew W).trans (KeepsOthers.drew _)).trans (KeepsOthers.setCell _ _ _)).from _, ⟨?_, fun b hb => ?_⟩, ?_, fun b hb hne => ?_, ?_⟩
          · simp
          · exact heap_setCell_other _ _ _ _ (by simp; omega)
          · rw [HSTEP.out]
            refine (heap_setCell_same _ _ _ _ _ _ H1.out).trans ?_
            rw [rowA_set]
            unfold stepE getI
            simp only [Int.toNat_natCast, HVD.out, HVS.out]
            rw [if_pos (by unfold farI; exact hfar), show min vs (vd + ym) = (if vd + ym < vs then vd + ym else vs) from by split <;> omega]
          · exact (heap_setCell_other _ _ _ _ hne).trans (H2.out b hb hne)
          · exact (H3.out.trans ((Below.refl _ _).drew.drew)).setCell (by exact Nat.le_refl _) _
        · go_wp2_with fail
          gi_wp2_with fail
          refine ⟨(KeepsOthers.drew W).from _, ⟨?_, fun b hb => ?_⟩, ?_, fun b hb hne => ?_, ?_⟩
          · exact Nat.le_refl _
          · rfl
          · rw [HSTEP.out]
            unfold stepE getI
            simp only [Int.toNat_natCast, HVD.out]
            rw [if_neg (by unfold farI; omega)]
            exact H1.out
          · exact H2.out b hb hne
          · exact H3.out.drew
      case done =>
        rintro D xs W hD hxs ⟨h1, h2, h3⟩ hKD
        rw [hxs] at h1
        obtain ⟨nr, hnr⟩ : ∃ n, (selB bs (passes t bs.length)).foldl (stepE cur) (rep128 farI) = n := ⟨_, rfl⟩
        have hnr2 : stepW (selB bs (passes t bs.length)) (walkRow (selB bs (passes t bs.length)) to k) = nr := by rw [HCUR.out, ← hnr]; rfl
        rw [hnr] at h1
        have hnl : nr.length = 128 := by
          rw [← hnr2]
          exact (walkOk_row (N := (R : Int)) (fun b hb => HV.out b (mem_selB (fun q hq => (passes_mem.1 hq).1) hb)) to (k + 1)).1
        have hsz94 : (rowA nr).size = 128 := by rw [rowA_size, hnl]
        have hlW := h3.size
        have hbrn : Hid (Tryz.prog.builtSlice 56 1 [(0, .agg (rowA nr))] = some (rowA nr)) := hidE (builtRow hnl)
        have h9 := (h2 _ (by omega) (by omega)).trans v9
        have k9 : W.cell? ⟨w1.heap.size + 1, 0, none⟩ = some (.slice (some ⟨g, 0, none⟩) (k + 1) cp) := cell_of_one h9
        obtain ⟨i0, hi, hz0, hz1, hz2⟩ := info_parts info94
        obtain ⟨v', wa, hrun, hown', hgrow, hnil, hblk⟩ := run_append_own_at (P := Tryz.prog) (W.alloc (Obj.cells (rowA nr) 56)) w1.heap.size 53 53 56 i0 _ 128 1024 Tryz.underlying53 hi hz0 hz1 hz2 rfl (by decide)
          (.slice (some ⟨g, 0, none⟩) (k + 1) cp) _ _
          (ownsRow_of_block vown (fun g' e => by
            simp only [Value.ownBlock, Option.some.injEq] at e; rw [← e]
            exact (Below.heap_alloc _ _ _ (by show g < _; omega)).trans (h2 _ (by show g < _; omega) (by show g ≠ _; omega))))
          ⟨W.heap.size, 0, none⟩ 1 1 (intsV nr) (by simp [intsV, hnl]) (by
            intro j u hj
            rw [show ((⟨W.heap.size, 0, none⟩ : Addr).add j) = ⟨W.heap.size, 0 + j, none⟩ from by unfold Addr.add; split <;> simp_all]
            rw [cell_of_row _ _ _ _ _ _ (heap_alloc_new W _), Nat.zero_add]
            simpa [rowA] using hj) (by intro u hu; simp [intsV] at hu; obtain ⟨q, _, rfl⟩ := hu; rfl) (by unfold maxLen; omega) (by omega) (by simp; omega)
        obtain ⟨g2, cp2, rfl⟩ := ownsRow_succ hown'
        have H9 := hidE ((hgrow.block (w1.heap.size + 1) (by simp; omega) (by simp only [Value.ownBlock, ne_eq, Option.some.injEq]; omega)).trans ((Below.heap_alloc _ _ _ (by omega)).trans h9))
        have ca9 : wa.cell? ⟨w1.heap.size + 1, 0, none⟩ = some (.slice (some ⟨g, 0, none⟩) (k + 1) cp) := cell_of_one H9.out
        have fa9 : wa.frozen? ⟨w1.heap.size + 1, 0, none⟩ = false := frozen_of_row _ _ _ _ _ H9.out
        have H1 := hidE h1
        have H2 := hidE h2
        have H3 := hidE h3
        have HNR := hidE hnr2
        have HKD := hidE hKD
        have HOWN2 := hidE hown'
        have HGROW := hidE hgrow
        have HRUN := hidE hrun
        have HBLK := hidE hblk
        clear h1 h2 h3 hnr hnr2 hKD hown' hgrow hrun hblk hnil h9
        go_wp2_with (first
          | (refine wpList_load_row rfl 56 _ rfl _ rfl 56 _ _ _ H1.out Tryz.underlying56 rfl (by rw [hsz94]; exact i94.out) ?_)
          | (refine Great.wpList_buildSliceTo rfl 53 56 1 _ rfl _ rfl _ rfl Tryz.underlying53 _ (by simp [Act.eval]; exact hbrn.out) ?_)
          | (at_builtin; refine wpList_op_append rfl (s := .tmp 53) (x := .tmp 55) (t := 53) rfl rfl rfl HRUN.out ?_))
        have hW' : ∀ q, q < W.heap.size → q ≠ w1.heap.size + 1 → q ≠ g → (wa.setCell ⟨w1.heap.size + 1, 0, none⟩ (.slice (some ⟨g2, 0, none⟩) (k + 1 + 1) cp2)).heap[q]? = W.heap[q]? := fun q h1 h2 h3 =>
          (heap_setCell_other _ _ _ _ h2).trans ((HGROW.out.block q (by simp; omega) (by simp only [Value.ownBlock, ne_eq, Option.some.injEq]; omega)).trans (Below.heap_alloc _ _ _ h1))
        have hgd : ∀ d, wr.heap[g]? = some (.deferred d) → False := by
          intro d hd
          rcases HOWN.out.2 with ⟨e, _⟩ | ⟨g', cp', cu, e, hb, hh, _⟩
          · cases e
          · cases e; rw [hh] at hd; cases hd
        refine Handed.intro (most - (k + 1)) (by omega) (hJ _ _ _ ?_)
        refine ⟨_, _, _, _, _, _, _, _, _, _, _, _, _, _, _, _, _, _, _, _, _, _, _, _, _, _, _, _, _, _, _, _, _, _, _, _, _, _, _, _, _, ⟨k + 1, by omega, rfl, ?_, ?_, ?_, ?_⟩, rfl⟩
        · go_num
        · refine hidE ⟨?_, ⟨g2, cp2, ?_, ?_⟩, ?_⟩
          · exact (hW' _ (by omega) (by omega) (by omega)).trans ((H2.out _ (by omega) (by omega)).trans (blk_below b0r (by omega) hst.out.box))
          · exact heap_setCell_same _ _ _ _ _ _ H9.out
          · rw [walksP_succ, flatR_append, flatR_one, HNR.out]
            refine ownsRow_of_block HOWN2.out (fun g' e => heap_setCell_other _ _ _ _ ?_)
            show g' ≠ w1.heap.size + 1
            rcases HBLK.out with e2 | e2
            · rw [e2] at e; simp only [Value.ownBlock, Option.some.injEq] at e; omega
            · rw [e2] at e; simp only [Option.some.injEq, World.size_alloc] at e; omega
          · exact ((((hst.out.bl.trans (b0r.mono (by omega))).trans (H3.out.mono (by omega))).alloc (by omega) _).grown HGROW.out (by simp; omega) (fun q e => by simp only [Value.ownBlock, Option.some.injEq] at e; omega)).setCell (by show w.heap.size ≤ w1.heap.size + 1; omega) _
        · refine hidE (Marks.cons hmk.out (fun D' hD' hd => ?_) (by omega) (by omega) ?_)
          · have hlt' := lt_of_block hd
            exact (hW' _ (by omega) (by intro e; rw [e, HVAR.out] at hd; cases hd) (by intro e; rw [e] at hd; exact hgd _ hd)).trans ((H2.out _ (by omega) (by omega)).trans (blk_below b0r hlt' hd))
          · exact (hW' _ (lt_of_block HKD.out) (by omega) (by omega)).trans HKD.out
        · have := HGROW.out.size
          simp only [World.size_setCell, World.size_alloc] at this ⊢
          omega
    · obtain ⟨g, cp, hvar, hown⟩ := hst.out.var
      have hkm : k = most := by omega
      subst hkm
      have cb9 : wr.cell? ⟨w1.heap.size + 1, 0, none⟩ = some (.slice (some ⟨g, 0, none⟩) (k + 1) cp) := cell_of_one hvar
      have HVAR := hidE hvar
      have HOWN := hidE hown
      clear hvar hown
      go_wp2_with fail
      refine leaves_marks ds wr hmk.out (fun W' hk' => ?_)
      refine ⟨_, results_tmp Tryz.results32 _ _ _, g, cp, rfl, hst.out.bl.trans (hk'.below.mono (by omega)), ?_⟩
      refine ownsRow_of_block (ownsRow_base HOWN.out (by omega)) (fun g' e => ?_)
      simp only [Value.ownBlock, Option.some.injEq] at e
      subst e
      rcases HOWN.out.2 with ⟨e, _⟩ | ⟨g', cp', cu, e, hb, hh, _⟩
      · cases e
      · cases e
        exact (hk'.cells _ _ _ _ hh).trans hh.symm

end Go.Proofs.YthcmjhellpjllaaGreat

/- A region that draws its order whose last operation waits for all others: what the loads ask must hold up to that one only. -/
namespace Go.Proofs.YthcmjhellpjllaaGreat
open Go Go.RowKit Go.Shelf

section
variable {P : Program} {ops : Array Oper} {Q : Exit → Act → World → Prop} {md : Region.Mode} {S : World → Prop} {last : Nat}

/-- The last one waits for all. -/
def waitsAll (md : Region.Mode) (ops : Array Oper) (last : Nat) : Bool :=
  match ops[last]? with
  | none => false
  | some o => (List.range ops.size).all fun k => k == last || o.after.any fun e => Region.binds md e && e.on == k

/-- Whatever order is picked: behind each operation but the last S holds. -/
def wpAnyF (P : Program) (md : Region.Mode) (ops : Array Oper) (Q : Exit → Act → World → Prop) (S : World → Prop) (last : Nat) : Nat → Array Bool → Act → World → Prop
  | 0, listed, a, w => Region.ready md ops listed = [] ∧ Q .normal a w
  | fuel + 1, listed, a, w => (Region.ready md ops listed = [] → Q .normal a w) ∧
    ∀ i ∈ Region.ready md ops listed, wpOp P ops Q i (fun a' w' => (i = last ∨ S w') ∧ wpAnyF P md ops Q S last fuel (listed.setIfInBounds i true) a' w') a w

theorem wpAny_of_F : ∀ (fuel : Nat) (listed : Array Bool) (a : Act) (w : World), wpAnyF P md ops Q S last fuel listed a w → wpAny P md ops Q fuel listed a w
  | 0, _, _, _, h => h
  | fuel + 1, _, _, _, h => ⟨h.1, fun i hi => wpOp_mono (fun a' w' h' => wpAny_of_F fuel _ a' w' h'.2) (h.2 i hi)⟩

theorem last_waits (hl : waitsAll md ops last = true) {listed : Array Bool} (hr : last ∈ Region.ready md ops listed) {k : Nat} (hk : k ≠ last) (hks : k < ops.size) : listed.getD k false = true := by
  obtain ⟨_, o, ho, hall⟩ := mem_ready.1 hr
  unfold waitsAll at hl
  simp only [ho, List.all_eq_true, List.mem_range] at hl
  have := hl k hks
  simp only [Bool.or_eq_true, beq_iff_eq] at this
  rcases this with h | h
  · exact absurd h hk
  · obtain ⟨e, he, hb⟩ := Array.any_eq_true'.1 h
    simp only [Bool.and_eq_true, beq_iff_eq] at hb
    rw [← hb.2]
    exact hall e he hb.1

theorem wpAnyF_first {i : Nat} {oi : Oper} {v : Value} (hl : waitsAll md ops last = true) (hil : i ≠ last) (hi : ops[i]? = some oi) (hsel : ∀ (j : Nat) (o : Oper) cs b, ops[j]? = some o → o.op ≠ .select cs b)
    (hQ : ∀ c a w, Q (.panic c) (a.put oi.dst v) w → Q (.panic c) a w) :
    ∀ (fuel : Nat) (listed : Array Bool) (a : Act) (w : World),
      (∀ j oj, ops[j]? = some oj → j ≠ i → listed.getD j true = false → (∀ e ∈ oj.after, Region.binds md e = true → e.on ≠ i) → oi.apart ops oj = true) →
      i ∈ Region.ready md ops listed → YieldsIf P ops S oi v a → S w →
      wpAnyF P md ops Q S last fuel (listed.setIfInBounds i true) (a.put oi.dst v) w → wpAnyF P md ops Q S last (fuel + 1) listed a w := by
  have his : i < ops.size := (Array.getElem?_eq_some_iff.1 hi).1
  intro fuel
  induction fuel with
  | zero =>
    intro listed a w _ hr hy hS H
    refine ⟨fun h => (by rw [h] at hr; cases hr), fun j hj => ?_⟩
    by_cases hji : j = i
    · subst hji; exact hy.wpOp hi hS ⟨.inr hS, H⟩
    · have := ready_mono hj hji
      rw [H.1] at this
      cases this
  | succ fuel ih =>
    intro listed a w hfree hr hy hS H
    refine ⟨fun h => (by rw [h] at hr; cases hr), fun j hj => ?_⟩
    by_cases hji : j = i
    · subst hji; exact hy.wpOp hi hS ⟨.inr hS, H⟩
    · have hjl : j ≠ last := by
        intro e
        subst e
        have h1 := last_waits hl hj hil his
        have h0 := (mem_ready.1 hr).1
        rcases Nat.lt_or_ge i listed.size with h' | h'
        · simp [h'] at h0 h1; rw [h0] at h1; cases h1
        · simp [Array.getElem?_eq_none h'] at h1
      have h1 := H.2 j (ready_mono hj hji)
      obtain ⟨hjun, oj, hoj, hall⟩ := mem_ready.1 hj
      have hnot : ∀ e ∈ oj.after, Region.binds md e = true → e.on ≠ i := fun e he hb heq => by
        have h1 := hall e he hb
        have h0 := (mem_ready.1 hr).1
        rw [heq] at h1
        rcases Nat.lt_or_ge i listed.size with h' | h'
        · simp [h'] at h0 h1; rw [h0] at h1; cases h1
        · simp [Array.getElem?_eq_none h'] at h1
      have h2 := wpOp_putIf hoj (hfree j oj hoj hji hjun hnot) (fun cs b => hsel i oi cs b hi) (fun cs b => hsel j oj cs b hoj) hQ hy h1
      have hfree' : ∀ k ok, ops[k]? = some ok → k ≠ i → (listed.setIfInBounds j true).getD k true = false →
          (∀ e ∈ ok.after, Region.binds md e = true → e.on ≠ i) → oi.apart ops ok = true := fun k ok hk hki hun hno => by
        refine hfree k ok hk hki ?_ hno
        by_cases hjk : j = k
        · subst hjk; exact hjun
        · rw [getD_set_ne true hjk] at hun; exact hun
      refine wpOp_mono (fun a' w' h3 => ?_) h2
      have hSw : S w' := h3.2.1.resolve_left hjl
      refine ⟨.inr hSw, ih (listed.setIfInBounds j true) a' w' hfree' (ready_mono hr (Ne.symm hji)) h3.1 hSw ?_⟩
      rw [Array.setIfInBounds_comm _ _ hji]
      exact h3.2.2

theorem wpAnyF_take {i : Nat} {oi : Oper} {v : Value} {fuel : Nat} {listed : Array Bool} {a : Act} {w : World} (hl : waitsAll md ops last = true) (hil : i ≠ last) (hi : ops[i]? = some oi)
    (hs : Region.noSelect ops = true) (hf : Region.free md ops listed i = true) (hr : (Region.ready md ops listed).contains i = true)
    (hQ : ∀ c a w, Q (.panic c) (a.put oi.dst v) w → Q (.panic c) a w) (hy : YieldsIf P ops S oi v a) (hS : S w)
    (h : wpAnyF P md ops Q S last fuel (listed.setIfInBounds i true) (a.put oi.dst v) w) : wpAnyF P md ops Q S last (fuel + 1) listed a w :=
  wpAnyF_first hl hil hi (Region.noSelect_spec hs) hQ fuel listed a w (Region.free_spec hi hf) (by simpa using hr) hy hS h

theorem wpAnyF_one {fuel : Nat} {listed : Array Bool} {a : Act} {w : World} (i : Nat) (hr : Region.ready md ops listed = [i])
    (h : wpOp P ops Q i (fun a' w' => (i = last ∨ S w') ∧ wpAnyF P md ops Q S last fuel (listed.setIfInBounds i true) a' w') a w) : wpAnyF P md ops Q S last (fuel + 1) listed a w :=
  ⟨fun h0 => (by rw [hr] at h0; cases h0), fun j hj => (by rw [hr, List.mem_singleton] at hj; rw [hj]; exact h)⟩

theorem wpAnyF_done {listed : Array Bool} {a : Act} {w : World} (hr : Region.ready md ops listed = []) (h : Q .normal a w) : ∀ fuel, wpAnyF P md ops Q S last fuel listed a w
  | 0 => ⟨hr, h⟩
  | _ + 1 => ⟨fun _ => h, by rw [hr]; simp⟩

/-- THE LAW, in a round. -/
theorem wpIn_region_F_round {id n l : Nat} {a : Act} {w : World} (hm : P.follows .mixedOrders = true) (hnd : noDefer ops = true) (hout : ¬ LetsOut Q)
    (h : wpAnyF P .any ops Q S last ops.size (Array.replicate ops.size false) a w.drew) : (Code.region id ops true).wpIn (Fence.wide.inRound l) n P Q a w :=
  wpIn_region_any hm (wpAnyIn_of_wpAny l n (noDefer_spec hnd) hout _ _ _ _ (wpAny_of_F _ _ _ _ h))

/-- THE LAW, outside of rounds. -/
theorem wp_region_F {id : Nat} {a : Act} {w : World} (hm : P.follows .mixedOrders = true)
    (h : wpAnyF P .any ops Q S last ops.size (Array.replicate ops.size false) a w.drew) : (Code.region id ops true).wp P Q a w :=
  wp_region_any hm (wpAny_of_F _ _ _ _ h)

end
end Go.Proofs.YthcmjhellpjllaaGreat
