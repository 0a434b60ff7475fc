/- Merged text 13 of the base: Ls, Nh, Ni, Fl, Av0. No conditions beyond those stated. -/
import Derived.Test.YthjmkmjojlfejaaGreatB07
import Derived.Test.YthjmkmjojlfejaaGreatB12
import Derived.Test.YthjmkmjojlfejaaGreatB05
import Derived.Scope
import Derived.Test.YthjmkmjojlfejaaGreatB03
import Derived.Test.YthjmkmjojlfejaaGreatB02
import Derived.Test.YthjmkmjojlfejaaGreatB09
import Derived.Test.YthjmkmjojlfejaaGreatB10
namespace Go.Proofs.YthjmkmjojlfejaaGreat
open Go Go.RowKit Go.Shelf
def AliveOk : Prop := ∀ W : World, Calls Tryz.prog 22 #[] W fun e w' => e = .returned (.bool true) ∧ Below W.heap.size W w'
def BestPost (R : Option BestR) (base : Nat) (e : Ending) (w' : World) : Prop :=
 match R with
 | none => e = .returned (.tuple #[.int .i64 0, .slice none 0 0, .slice none 0 0, .int .i64 50])
 | some r => ∃ gy gF : Nat, e = .returned (.tuple #[.int .i64 r.n, .slice (some ⟨gy, 0, none⟩) r.y.length r.y.length, .slice (some ⟨gF, 0, none⟩) r.flow.length r.flow.length, .int .i64 0]) ∧ base ≤ gy ∧ base ≤ gF ∧ gy ≠ gF ∧
  w'.heap[gy]? = some (.cells (rowA r.y) 3 (0,0)) ∧ w'.heap[gF]? = some (.cells (rowA r.flow) 3 (0,0))
theorem net155 (N : Int) (sB sF : Value) : ((Tryz.zeroCells155.setIfInBounds 0 (.int .i64 N)).setIfInBounds 1 sB).setIfInBounds 2 sF = netF N sB sF (rep128 0) := by kernel_rfl
structure BSt (w W : World) (N : Nat) (a : Option Addr) (n cap : Nat) (need flow : List Int) : Prop where
 box : W.heap[w.heap.size]? = some (.cells #[.int .i64 (N : Int), .slice a n cap] 24 (0,0))
 fl : W.heap[w.heap.size + 1]? = some (.cells (rowA flow) 3 (0,0))
 net : W.heap[w.heap.size + 1 + 1]? = some (.cells (netF N (.slice a n cap) (.slice (some ⟨w.heap.size + 1, 0, none⟩) n n) need) 155 (0,0))
 bl : Below w.heap.size w W
theorem BSt.below {w W W' : World} {N : Nat} {a : Option Addr} {n cap : Nat} {need flow : List Int} (h : BSt w W N a n cap need flow) (hb : Below W.heap.size W W') : BSt w W' N a n cap need flow := by
 have hk : ∀ (k : Nat) (o : Obj), W.heap[k]? = some o → W'.heap[k]? = some o := fun k o hk => blk_below hb (lt_of_block hk) hk
 exact ⟨hk _ _ h.box, hk _ _ h.fl, hk _ _ h.net, h.bl.trans (hb.mono h.bl.size)⟩
theorem needTo_bd {wt : List Int} (hw : ∀ v, -1000000 ≤ wt.getD v 0 ∧ wt.getD v 0 ≤ 1000000) (k : Nat) (hk : k < 128) (v : Nat) : -128000000 ≤ (needTo wt k).getD v 0 ∧ (needTo wt k).getD v 0 ≤ 128000000 := by
 rw [needTo_get wt k hk v]
 have h1 := sumN_bd (f := fun i => wt.getD (i + 1) 0) (c := 1000000) (n := k) fun i _ => hw (i + 1)
 have h2 := hw v
 split
 ·omega
 ·split <;> omega
theorem built155 (N : Int) (sB sF : Value) (hB : ∃ a n c, sB = .slice a n c) (hF : ∃ a n c, sF = .slice a n c) : Tryz.prog.built 155 [(0, .agg #[.int .i64 N, sB]), (1, sF)] = some (netF N sB sF (rep128 0)) := by
 obtain ⟨a, n, c, rfl⟩ := hB
 obtain ⟨a2, n2, c2, rfl⟩ := hF
 kernel_rfl
set_option maxRecDepth 100000 in
set_option maxHeartbeats 8000000 in
theorem best_any (w : World) (N : Nat) (a : Option Addr) (cap : Nat) (bs : List Bd) (a2 : Option Addr) (cap2 : Nat) (wt : List Int) (f : Nat) (R : Option BestR) (h1 : 1 ≤ N) (hN : N ≤ 128) (hl : bs.length ≤ 4000) (hv : AllValid N bs)
 (hB : BoundsAt w a bs) (hW : IntsAt w a2 wt) (hwl : wt.length = N) (hwb : ∀ v ∈ wt, -1000000 ≤ v ∧ v ≤ 1000000) (hrun : BestRun N bs wt f R) :
 Calls Tryz.prog 75 #[.agg #[.int .i64 (N : Int), .slice a bs.length cap], .slice a2 N cap2] w fun e w' => BestPost R w.heap.size e w' ∧ Below w.heap.size w w' := by
 have HB := hidE hB
 have HW := hidE hW
 have HV := hidE hv
 have HWB := hidE hwb
 have HWL := hidE hwl
 obtain ⟨R0, hr0, hr1⟩ := hrun.ex
 have HR0 := hidE hr0
 have HR1 := hidE hr1
 clear hB hW hv hwb hwl hrun hr0 hr1
 obtain ⟨S, hS⟩ : ∃ S, S = w.heap.size := ⟨_, rfl⟩
 obtain ⟨n, hn⟩ : ∃ n, bs.length = n := ⟨_, rfl⟩
 have hn4 : n ≤ 4000 := by omega
 have HN := hidE hn
 rw [hn]
 clear hn hl
 have hmk3 := fun W => run_make_row' (P := Tryz.prog) 25 3 (.int .i64 0) 8 Tryz.underlying25 Tryz.info3' rfl .i64 .i64 n (by omega) (by omega) W
 go_enter Tryz.func75, Tryz.ntmps75
 go_upto_region 1 with fail
 obtain ⟨W0, hW0⟩ : ∃ W0, W0 = w.alloc (.cells #[.int .i64 (N : Int), .slice a n cap] 24) := ⟨_, rfl⟩
 rw [← hW0]
 have x0 : W0.heap[w.heap.size]? = some (.cells #[.int .i64 (N : Int), .slice a n cap] 24 (0,0)) := by rw [hW0]; exact heap_alloc_new _ _
 have b0 : Below w.heap.size w W0 := by rw [hW0]; exact (Below.refl _ _).alloc (Nat.le_refl _) _
 have z0 : W0.heap.size = w.heap.size + 1 := by rw [hW0]; simp
 have c0 : W0.cell? ⟨w.heap.size, 0, none⟩ = some (.int .i64 (N : Int)) := c_e x0 rfl
 have c1 : W0.cell? ⟨w.heap.size, 1, none⟩ = some (.slice a n cap) := c_e x0 rfl
 have X0 := hidE x0
 have B0 := hidE b0
 clear hW0 x0 b0
 refine wp_scope_straight ?_
 go_upto_region 1 with fail
 refine wp_region_F (S := fun V => V.cell? ⟨w.heap.size, 0, none⟩ = some (.int .i64 (N : Int)) ∧ V.cell? ⟨w.heap.size, 1, none⟩ = some (.slice a n cap) ∧ True) (last := 100) (by kernel_rfl) ?_
 have hS0 : W0.drew.cell? ⟨w.heap.size, 0, none⟩ = some (.int .i64 (N : Int)) ∧ W0.drew.cell? ⟨w.heap.size, 1, none⟩ = some (.slice a n cap) ∧ True := ⟨c0, c1, trivial⟩
 refine t_n 0 16 (.agg #[.int .i64 (N : Int), .slice a n cap]) rfl (by kernel_rfl) rfl (fun _ _ _ h => h) (fun V hV => ?_) hS0 ?_
 ·obtain ⟨q0, q1, q2⟩ := hV
  simp [go_sem, execOp, q0, q1]
 try simp only [s_a, s_b, s_c]
 refine t_n 1 17 (.pointer (some ⟨w.heap.size, 1, none⟩)) rfl (by kernel_rfl) rfl (fun _ _ _ h => h) (fun V hV => ?_) hS0 ?_
 ·obtain ⟨q0, q1, q2⟩ := hV
  simp [go_sem, execOp]
 try simp only [s_a, s_b, s_c]
 refine t_n 2 18 (.slice a n cap) rfl (by kernel_rfl) rfl (fun _ _ _ h => h) (fun V hV => ?_) hS0 ?_
 ·obtain ⟨q0, q1, q2⟩ := hV
  simp [go_sem, execOp, q1]
 try simp only [s_a, s_b, s_c]
 refine t_n 3 19 (.int .i64 (n : Int)) rfl (by kernel_rfl) rfl (fun _ _ _ h => h) (fun V hV => ?_) hS0 ?_
 ·obtain ⟨q0, q1, q2⟩ := hV
  simp [go_sem, execOp]
 try simp only [s_a, s_b, s_c]
 refine wpAnyF_step 4 rfl (by kernel_rfl) (fun K hK => ?_)
 go_simp
 have bx : Below W0.heap.size W0 (W0.alloc (.cells (madeCells #[.int .i64 0] n) 3)).drew := ((Below.refl _ _).alloc (Nat.le_refl _) _).drew
 refine hK.out _ _ (.inr ⟨(bx.cell (p := ⟨w.heap.size, 0, none⟩) (by show w.heap.size < _; omega)).trans c0, (bx.cell (p := ⟨w.heap.size, 1, none⟩) (by show w.heap.size < _; omega)).trans c1, trivial⟩) ?_
 clear hK K
 try simp only [Act.put, s_a, s_b, s_c]
 have hb155 := built155 (N : Int) (.slice a n cap) (.slice (some ⟨w.heap.size + 1, 0, none⟩) n n) ⟨_, _, _, rfl⟩ ⟨_, _, _, rfl⟩
 refine wpAnyF_step 5 rfl (by kernel_rfl) (fun K hK => ?_)
 go_simp
 refine hK.out _ _ (.inr ⟨(bx.cell (p := ⟨w.heap.size, 0, none⟩) (by show w.heap.size < _; omega)).trans c0, (bx.cell (p := ⟨w.heap.size, 1, none⟩) (by show w.heap.size < _; omega)).trans c1, trivial⟩) ?_
 clear hK K
 try simp only [Act.put, s_a, s_b, s_c]
 rw [net155]
 refine wpAnyF_step 6 rfl (by kernel_rfl) (fun K hK => ?_)
 go_simp
 obtain ⟨W1, hW1⟩ : ∃ W1, W1 = ((W0.alloc (.cells (madeCells #[.int .i64 0] n) 3)).alloc (.cells (netF N (.slice a n cap) (.slice (some ⟨w.heap.size + 1, 0, none⟩) n n) (rep128 0)) 155)).drew := ⟨_, rfl⟩
 have b1 : Below W0.heap.size W0 W1 := by rw [hW1]; exact (((Below.refl _ _).alloc (Nat.le_refl _) _).alloc (by simp) _).drew
 first | rw [← hW1] | skip
 refine hK.out _ _ (.inr ⟨(b1.cell (p := ⟨w.heap.size, 0, none⟩) (by show w.heap.size < _; omega)).trans c0, (b1.cell (p := ⟨w.heap.size, 1, none⟩) (by show w.heap.size < _; omega)).trans c1, trivial⟩) ?_
 clear hK K
 try simp only [Act.put, s_a, s_b, s_c]
 have b1h := hidE b1
 have st1 : BSt w W1 N a n cap (rep128 0) (List.replicate n 0) := by
  refine ⟨?_, ?_, ?_, B0.out.trans (b1.mono (by omega))⟩
  ·exact blk_below b1 (by omega) X0.out
  ·rw [hW1, ← madeInts, ← z0]; exact (Below.heap_alloc _ _ _ (by simp)).trans (heap_alloc_new _ _)
  ·rw [hW1, ← z0, show W0.heap.size + 1 = (W0.alloc (.cells (madeCells #[.int .i64 0] n) 3)).heap.size by simp]; exact heap_alloc_new _ _
 have ST1 := hidE st1
 clear hW1 b1 st1 bx c0 c1 hS0 hmk3 hb155
 refine wpAnyF_step 7 rfl (by kernel_rfl) (fun K hK => ?_)
 go_simp
 refine hK.out _ _ (.inr ⟨by rw [cell_of_row _ _ _ _ _ _ ST1.out.box]; rfl, by rw [cell_of_row _ _ _ _ _ _ ST1.out.box]; rfl, trivial⟩) ?_
 clear hK K
 try simp only [Act.put, s_a, s_b, s_c]
 refine wpAnyF_done (by kernel_rfl) ?_ _
 go_wp2_with fail
 have hwt : ∀ v, -1000000 ≤ wt.getD v 0 ∧ wt.getD v 0 ≤ 1000000 := fun v => by
  by_cases hvv : v < wt.length
  ·exact HWB.out _ (by rw [List.getD_eq_getElem?_getD, List.getElem?_eq_getElem hvv]; exact List.getElem_mem _)
  ·rw [List.getD_eq_getElem?_getD, List.getElem?_eq_none (by omega)]; simp
 have HWT := hidE hwt
 clear hwt
 go_loopw [9] (fun t wr => ∃ k : Nat, 1 ≤ k ∧ k ≤ N ∧ t = .int .i64 (k : Int) ∧ Hid (BSt w wr N a n cap (needTo wt (k - 1)) (List.replicate n 0))) (fun t _ => N - (intOf t).toNat)
 case atStart => exact ⟨1, Nat.le_refl _, h1, rfl, ST1⟩
 case round =>
  obtain ⟨k, k1, kN, rfl, hst⟩ := hrel
  have d0 : wr.cell? ⟨w.heap.size, 0, none⟩ = some (.int .i64 (N : Int)) := c_e hst.out.box rfl
  by_cases hlt : k < N
  ·obtain ⟨b, off, rfl, hbl, hc⟩ := HW.out.at (k := k) (by rw [HWL.out]; exact hlt)
   have hc2 : wr.cell? ⟨b, off + k, none⟩ = some (.int .i64 (wt.getD k 0)) := by rw [hst.out.bl.cell (by exact hbl), hc, List.getD_eq_getElem?_getD, List.getElem?_eq_getElem (by rw [HWL.out]; exact hlt)]; rfl
   have hwv := HWT.out k
   obtain ⟨v, hv⟩ : ∃ v, wt.getD k 0 = v := ⟨_, rfl⟩
   rw [hv] at hc2 hwv
   have hln := needTo_len wt (k - 1)
   have hnb := needTo_bd HWT.out (k - 1) (by omega) 0
   obtain ⟨nd, hnd⟩ : ∃ nd, needTo wt (k - 1) = nd := ⟨_, rfl⟩
   rw [hnd] at hst hln hnb
   have hnew := hidE (show needTo wt (k + 1 - 1) = (nd.set k v).set 0 (nd.getD 0 0 - v) by
    obtain ⟨j, rfl⟩ : ∃ j, k = j + 1 := ⟨k - 1, by omega⟩
    simp only [Nat.add_sub_cancel] at hnd ⊢
    rw [needTo_succ, hnd, hv]
    unfold addAt
    rw [getD_set0, if_neg (by omega)]
    rfl)
   have i1 : (k : Int) < 128 := by omega
   have i2 : k < 128 := by omega
   have i3 : (k : Int) < N := by omega
   have wk : IntKind.i64.wrap ((k : Int) + 1) = (k : Int) + 1 := IntWalk.i64_in _ (by omega)
   have f0 : wr.frozen? ⟨w.heap.size + 1 + 1, 3 + k, none⟩ = false := frozen_of_row _ _ _ _ _ hst.out.net
   have o0 : wr.cell? ⟨w.heap.size + 1 + 1, 3 + k, none⟩ = some (.int .i64 (nd.getD k 0)) := by rw [cell_of_row _ _ _ _ _ _ hst.out.net, netF_get (by omega)]
   obtain ⟨z0', hz0⟩ : ∃ z, nd.getD 0 0 = z := ⟨_, rfl⟩
   rw [hz0] at hnb
   have ww : IntKind.i64.wrap (z0' - v) = z0' - v := IntWalk.i64_in _ (by omega)
   have HZ0 := hidE hz0
   have HND := hidE hnd
   have HVV := hidE hv
   have HLN := hidE hln
   clear hz0 hnd hv hln
   go_upto_region 5 with fail
   refine wp_region_K (S2 := fun _ => True) (S := fun V => V.cell? ⟨b, off + k, none⟩ = some (.int .i64 v)) (T := fun t => t == 9) (by kernel_rfl) ?_
   obtain ⟨V1, hV1⟩ : ∃ V1, V1 = wr.drew := ⟨_, rfl⟩
   rw [← hV1]
   have hS : V1.cell? ⟨b, off + k, none⟩ = some (.int .i64 v) := by rw [hV1]; exact hc2
   have c14 : V1.cell? ⟨w.heap.size + 1 + 1, 3 + k, none⟩ = some (.int .i64 (nd.getD k 0)) := by rw [hV1]; exact o0
   have g14 : V1.frozen? ⟨w.heap.size + 1 + 1, 3 + k, none⟩ = false := by rw [hV1]; exact f0
   have HV1 := hidE hV1
   clear hV1
   refine t_k 0 29 (.pointer (some ⟨w.heap.size + 1 + 1, 0, none⟩)) rfl (by kernel_rfl) rfl (fun _ _ _ h => h) (fun V hV => ?_) ⟨trivial, .inr hS⟩ ?_
   ·simp [go_sem, execOp]
   try simp only [s_a, s_b, s_c]
   refine t_k 1 30 (.int .i64 (k : Int)) rfl (by kernel_rfl) rfl (fun _ _ _ h => h) (fun V hV => ?_) ⟨trivial, .inr hS⟩ ?_
   ·simp [go_sem, execOp]
   try simp only [s_a, s_b, s_c]
   refine t_k 2 31 (.slice (some ⟨b, off, none⟩) N cap2) rfl (by kernel_rfl) rfl (fun _ _ _ h => h) (fun V hV => ?_) ⟨trivial, .inr hS⟩ ?_
   ·simp [go_sem, execOp]
   try simp only [s_a, s_b, s_c]
   refine t_k 3 32 (.int .i64 (k : Int)) rfl (by kernel_rfl) rfl (fun _ _ _ h => h) (fun V hV => ?_) ⟨trivial, .inr hS⟩ ?_
   ·simp [go_sem, execOp]
   try simp only [s_a, s_b, s_c]
   refine t_k 4 33 (.pointer (some ⟨b, off + k, none⟩)) rfl (by kernel_rfl) rfl (fun _ _ _ h => h) (fun V hV => ?_) ⟨trivial, .inr hS⟩ ?_
   ·simp [go_sem, execOp, i3]
   try simp only [s_a, s_b, s_c]
   refine wpAnyK_load (i := 5) (d := 34) (v := .int .i64 v) rfl rfl rfl (by kernel_rfl) (by kernel_rfl) (by kernel_rfl) (by kernel_rfl) (by kernel_rfl) (fun _ _ _ h => h) (.inl ⟨rfl, fun V hV => ?_⟩) hS trivial ?_
   ·simp [go_sem, execOp, hV]
   try simp only [s_a, s_b, s_c]
   refine t_k 6 35 (.pointer (some ⟨w.heap.size + 1 + 1, 0, none⟩)) rfl (by kernel_rfl) rfl (fun _ _ _ h => h) (fun V hV => ?_) ⟨trivial, .inr hS⟩ ?_
   ·simp [go_sem, execOp]
   try simp only [s_a, s_b, s_c]
   refine t_k 7 36 (.pointer (some ⟨w.heap.size + 1 + 1, 3, none⟩)) rfl (by kernel_rfl) rfl (fun _ _ _ h => h) (fun V hV => ?_) ⟨trivial, .inr hS⟩ ?_
   ·simp [go_sem, execOp]
   try simp only [s_a, s_b, s_c]
   refine t_k 8 37 (.pointer (some ⟨w.heap.size + 1 + 1, 3 + k, none⟩)) rfl (by kernel_rfl) rfl (fun _ _ _ h => h) (fun V hV => ?_) ⟨trivial, .inr hS⟩ ?_
   ·simp [go_sem, execOp, i1]
   try simp only [s_a, s_b, s_c]
   refine wpAnyK_step 9 rfl (by kernel_rfl) (fun K hK => ?_)
   go_simp
   refine hK.out _ _ ⟨trivial, .inl ⟨9, rfl, by kernel_rfl⟩⟩ ?_
   clear hK K
   try simp only [Act.put, s_a, s_b, s_c]
   refine wpAnyK_done (by kernel_rfl) ?_ _
   clear hS c14 g14
   go_upto_region 6 with fail
   obtain ⟨W5, hW5⟩ : ∃ W5, W5 = V1.setCell ⟨w.heap.size + 1 + 1, 3 + k, none⟩ (.int .i64 v) := ⟨_, rfl⟩
   rw [← hW5]
   have o5 : ∀ x : Nat, x ≠ w.heap.size + 1 + 1 → W5.heap[x]? = wr.heap[x]? := fun x hx => by rw [hW5, heap_setCell_other _ _ _ _ hx, HV1.out]; rfl
   have st5 : BSt w W5 N a n cap (nd.set k v) (List.replicate n 0) := by
    refine ⟨(o5 _ (by omega)).trans hst.out.box, (o5 _ (by omega)).trans hst.out.fl, ?_, ?_⟩
    ·rw [hW5, ← netF_set]; exact heap_setCell_same _ _ _ _ _ _ (by rw [HV1.out]; exact hst.out.net)
    ·rw [hW5, HV1.out]; exact hst.out.bl.drew.setCell (p := ⟨w.heap.size + 1 + 1, 3 + k, none⟩) (by show w.heap.size ≤ w.heap.size + 1 + 1; omega) _
   have h5c : W5.cell? ⟨b, off + k, none⟩ = some (.int .i64 v) := (World.cell?_of_block (w := wr) (a := ⟨b, off + k, none⟩) (o5 b (by omega))).trans hc2
   have n5 : W5.cell? ⟨w.heap.size + 1 + 1, 3, none⟩ = some (.int .i64 z0') := by
    rw [cell_of_row _ _ _ _ _ _ st5.net]
    have := netF_get (N := (N : Int)) (sB := .slice a n cap) (sF := .slice (some ⟨w.heap.size + 1, 0, none⟩) n n) (need := nd.set k v) (i := 0) (by rw [List.length_set, HLN.out]; omega)
    rw [Nat.add_zero] at this
    rw [this, getD_set0, if_neg (by omega), HZ0.out]
   have f5 : W5.frozen? ⟨w.heap.size + 1 + 1, 3, none⟩ = false := frozen_of_row _ _ _ _ _ st5.net
   have ST5 := hidE st5
   clear hW5 o5 st5 f0 o0 HV1 hst
   refine wp_region_K (S2 := fun _ => True) (S := fun V => V.cell? ⟨w.heap.size + 1 + 1, 3, none⟩ = some (.int .i64 z0') ∧ V.cell? ⟨b, off + k, none⟩ = some (.int .i64 v)) (T := fun t => t == 13) (by kernel_rfl) ?_
   obtain ⟨V1, hV1⟩ : ∃ V1, V1 = W5.drew := ⟨_, rfl⟩
   rw [← hV1]
   have hS : V1.cell? ⟨w.heap.size + 1 + 1, 3, none⟩ = some (.int .i64 z0') ∧ V1.cell? ⟨b, off + k, none⟩ = some (.int .i64 v) := by rw [hV1]; exact ⟨n5, h5c⟩
   have c14 : V1.cell? ⟨w.heap.size + 1 + 1, 3, none⟩ = some (.int .i64 z0') := hS.1
   have g14 : V1.frozen? ⟨w.heap.size + 1 + 1, 3, none⟩ = false := by rw [hV1]; exact f5
   have HV1 := hidE hV1
   clear hV1
   refine t_k 0 38 (.pointer (some ⟨w.heap.size + 1 + 1, 0, none⟩)) rfl (by kernel_rfl) rfl (fun _ _ _ h => h) (fun V hV => ?_) ⟨trivial, .inr hS⟩ ?_
   ·simp [go_sem, execOp]
   try simp only [s_a, s_b, s_c]
   refine t_k 1 39 (.pointer (some ⟨w.heap.size + 1 + 1, 0, none⟩)) rfl (by kernel_rfl) rfl (fun _ _ _ h => h) (fun V hV => ?_) ⟨trivial, .inr hS⟩ ?_
   ·simp [go_sem, execOp]
   try simp only [s_a, s_b, s_c]
   refine t_k 2 40 (.pointer (some ⟨w.heap.size + 1 + 1, 3, none⟩)) rfl (by kernel_rfl) rfl (fun _ _ _ h => h) (fun V hV => ?_) ⟨trivial, .inr hS⟩ ?_
   ·simp [go_sem, execOp]
   try simp only [s_a, s_b, s_c]
   refine t_k 3 41 (.pointer (some ⟨w.heap.size + 1 + 1, 3, none⟩)) rfl (by kernel_rfl) rfl (fun _ _ _ h => h) (fun V hV => ?_) ⟨trivial, .inr hS⟩ ?_
   ·simp [go_sem, execOp]
   try simp only [s_a, s_b, s_c]
   refine wpAnyK_load (i := 4) (d := 42) (v := .int .i64 z0') rfl rfl rfl (by kernel_rfl) (by kernel_rfl) (by kernel_rfl) (by kernel_rfl) (by kernel_rfl) (fun _ _ _ h => h) (.inl ⟨rfl, fun V hV => ?_⟩) hS trivial ?_
   ·obtain ⟨r0, r1⟩ := hV; simp [go_sem, execOp, r0]
   try simp only [s_a, s_b, s_c]
   refine t_k 5 43 (.slice (some ⟨b, off, none⟩) N cap2) rfl (by kernel_rfl) rfl (fun _ _ _ h => h) (fun V hV => ?_) ⟨trivial, .inr hS⟩ ?_
   ·simp [go_sem, execOp]
   try simp only [s_a, s_b, s_c]
   refine t_k 6 44 (.int .i64 (k : Int)) rfl (by kernel_rfl) rfl (fun _ _ _ h => h) (fun V hV => ?_) ⟨trivial, .inr hS⟩ ?_
   ·simp [go_sem, execOp]
   try simp only [s_a, s_b, s_c]
   refine t_k 7 45 (.pointer (some ⟨b, off + k, none⟩)) rfl (by kernel_rfl) rfl (fun _ _ _ h => h) (fun V hV => ?_) ⟨trivial, .inr hS⟩ ?_
   ·simp [go_sem, execOp, i3]
   try simp only [s_a, s_b, s_c]
   refine wpAnyK_load (i := 8) (d := 46) (v := .int .i64 v) rfl rfl rfl (by kernel_rfl) (by kernel_rfl) (by kernel_rfl) (by kernel_rfl) (by kernel_rfl) (fun _ _ _ h => h) (.inl ⟨rfl, fun V hV => ?_⟩) hS trivial ?_
   ·obtain ⟨r0, r1⟩ := hV; simp [go_sem, execOp, r1]
   try simp only [s_a, s_b, s_c]
   refine t_k 9 47 (.int .i64 (z0' - v)) rfl (by kernel_rfl) rfl (fun _ _ _ h => h) (fun V hV => ?_) ⟨trivial, .inr hS⟩ ?_
   ·simp [go_sem, execOp, ww]
   try simp only [s_a, s_b, s_c]
   refine t_k 10 48 (.pointer (some ⟨w.heap.size + 1 + 1, 0, none⟩)) rfl (by kernel_rfl) rfl (fun _ _ _ h => h) (fun V hV => ?_) ⟨trivial, .inr hS⟩ ?_
   ·simp [go_sem, execOp]
   try simp only [s_a, s_b, s_c]
   refine t_k 11 49 (.pointer (some ⟨w.heap.size + 1 + 1, 3, none⟩)) rfl (by kernel_rfl) rfl (fun _ _ _ h => h) (fun V hV => ?_) ⟨trivial, .inr hS⟩ ?_
   ·simp [go_sem, execOp]
   try simp only [s_a, s_b, s_c]
   refine t_k 12 50 (.pointer (some ⟨w.heap.size + 1 + 1, 3, none⟩)) rfl (by kernel_rfl) rfl (fun _ _ _ h => h) (fun V hV => ?_) ⟨trivial, .inr hS⟩ ?_
   ·simp [go_sem, execOp]
   try simp only [s_a, s_b, s_c]
   refine wpAnyK_step 13 rfl (by kernel_rfl) (fun K hK => ?_)
   go_simp
   refine hK.out _ _ ⟨trivial, .inl ⟨13, rfl, by kernel_rfl⟩⟩ ?_
   clear hK K
   try simp only [Act.put, s_a, s_b, s_c]
   refine wpAnyK_done (by kernel_rfl) ?_ _
   clear hS c14 g14 n5 h5c f5
   obtain ⟨W6, hW6⟩ : ∃ W6, W6 = V1.setCell ⟨w.heap.size + 1 + 1, 3, none⟩ (.int .i64 (z0' - v)) := ⟨_, rfl⟩
   rw [← hW6]
   have st6 : BSt w W6 N a n cap (needTo wt (k + 1 - 1)) (List.replicate n 0) := by
    have o6 : ∀ x : Nat, x ≠ w.heap.size + 1 + 1 → W6.heap[x]? = W5.heap[x]? := fun x hx => by rw [hW6, heap_setCell_other _ _ _ _ hx, HV1.out]; rfl
    refine ⟨(o6 _ (by omega)).trans ST5.out.box, (o6 _ (by omega)).trans ST5.out.fl, ?_, ?_⟩
    ·rw [hnew.out, HZ0.out, hW6, ← netF_set]; exact heap_setCell_same _ _ _ _ _ _ (by rw [HV1.out]; exact ST5.out.net)
    ·rw [hW6, HV1.out]; exact ST5.out.bl.drew.setCell (p := ⟨w.heap.size + 1 + 1, 3, none⟩) (by show w.heap.size ≤ w.heap.size + 1 + 1; omega) _
   have ST6 := hidE st6
   clear st6 hW6
   go_wp2_with fail
   go_roundw
   case rel => exact ⟨k + 1, by omega, by omega, by go_num, ST6⟩
   case measure => simp [intOf]; omega
  ·have e9 : N = k := by omega
   subst e9
   go_wp2_with fail
   have hst0 := hidE (show BSt w wr N a n cap (start N bs wt).need (start N bs wt).flow by unfold start; rw [need0_eq, HN.out]; exact hst.out)
   obtain ⟨W7, rfl⟩ : ∃ x : World, x = wr := ⟨wr, rfl⟩
   clear hst d0
   refine wp_label ?_
   go_wp2_with fail
   go_loopg [] f (fun gg wr => ∃ F : Fl, Hid (runsB N bs gg F = some R0) ∧ Hid (BSt w wr N a n cap F.need F.flow))
   case atStart => exact ⟨_, HR0, hst0⟩
   case round =>
    obtain ⟨F, hrn, hst⟩ := hrel
    obtain ⟨g', rfl, ok, hcase⟩ := runsB_cases hN HV.out hrn.out
    obtain ⟨Wo, rfl⟩ : ∃ x : World, x = wr := ⟨wr, rfl⟩
    have d0 : Wo.cell? ⟨w.heap.size, 0, none⟩ = some (.int .i64 (N : Int)) := c_e hst.out.box rfl
    have hnl := ok.nl
    have HOK := hidE ok
    have HCASE := hidE hcase
    clear ok hcase hrn
    go_wp2_with fail
    go_loopw [53] (fun i wq => ∃ k : Nat, k ≤ N ∧ i = .int .i64 (k : Int) ∧ wq = Wo ∧ Hid (∀ r, r < k → ¬ F.need.getD r 0 < 0)) (fun i _ => N - (intOf i).toNat)
    case atStart => exact ⟨0, Nat.zero_le _, rfl, rfl, hidE (fun r hr => by omega)⟩
    case round =>
     obtain ⟨k, hkN, rfl, rfl, hall⟩ := hrel
     by_cases hlt : k < N
     ·have j1 : (k : Int) < 128 := by omega
      have j2 : k < 128 := by omega
      have j3 : decide ((k : Int) < (N : Int)) = true := by simp; omega
      have j3' : decide (k < N) = true := by simp; omega
      have n0 : wr.cell? ⟨w.heap.size + 1 + 1, 3 + k, none⟩ = some (.int .i64 (F.need.getD k 0)) := by rw [cell_of_row _ _ _ _ _ _ hst.out.net, netF_get (by omega)]
      obtain ⟨z, hz⟩ : ∃ z, F.need.getD k 0 = z := ⟨_, rfl⟩
      rw [hz] at n0
      have HZ := hidE hz
      clear hz
      by_cases hz0 : 0 ≤ z
      ·have d1 : decide (0 ≤ z) = true := by simpa using hz0
       have HALL := hidE (show ∀ r, r < k + 1 → ¬ F.need.getD r 0 < 0 from fun r hr => by
        by_cases e : r = k
        ·subst e; rw [HZ.out]; omega
        ·exact hall.out r (by omega))
       go_wp2_with fail
       go_roundw
       case rel => first | exact ⟨k + 1, by omega, by go_num, rfl, HALL⟩ | exact ⟨k + 1, by omega, by go_num, trivial, HALL⟩
       case measure => simp [intOf]; omega
      ·have d1 : decide (0 ≤ z) = false := by simpa using hz0
       have hfp := firstP_some hlt (by rw [HZ.out]; omega) hall.out
       rcases HCASE.out with ⟨e, _⟩ | ⟨p, e, hc⟩
       ·rw [hfp] at e; cases e
       ·rw [hfp] at e
        obtain rfl := Option.some.inj e
        have hbA : ∀ x, a = some x → 0 < bs.length → x.block < w.heap.size := fun x hx h0 => by
         rcases HB.out with h | ⟨b, off, e2, hl2, _⟩
         ·rw [h] at h0; simp at h0
         ·rw [hx] at e2; cases e2; exact hl2
        have hwr := hst.out.bl.size
        have hlb := lt_of_block hst.out.net
        have HPU := fun (R1 : Option Fl) (hgo : pushP N bs F k = some R1) => push_any wr w.heap.size (w.heap.size + 1 + 1) (w.heap.size + 1) N a cap bs F k R1 hN (by rw [HN.out]; exact hn4) HV.out HOK.out hlt (by rw [HZ.out]; omega)
         (HB.out.below hst.out.bl (Nat.le_refl _)) (by omega) (by omega) (by omega) (fun x hx h0 => by have := hbA x hx h0; exact ⟨by omega, by omega, by omega⟩) (by rw [HN.out]; exact hst.out.net) hst.out.fl hgo
        rw [HN.out] at HPU
        rcases hc with ⟨hpu, hR0⟩ | ⟨F', hpu, hrn'⟩
        ·have H9 := hidE (HPU none hpu)
         have HR := hidE hR0
         clear HPU hfp hbA
         go_wp2_with fail
         refine H9.out.mono ?_
         rintro e w1 ⟨rfl, p1, p2, p3, p4⟩
         have HB4 := hidE (hst.out.bl.trans p4)
         clear p1 p2 p3 p4 H9
         simp only [Option.isSome_none]
         go_wp2_with fail
         have hRn : R = none := by
          rcases HR1.out with ⟨_, h⟩ | ⟨F1, s, h1', _⟩
          ·exact h
          ·rw [HR.out] at h1'; cases h1'
         simp only [Exit.noGoto]
         refine bodyPost_ret (v := .tuple #[.int .i64 0, .slice none 0 0, .slice none 0 0, .int .i64 50]) (by simp [results, Tryz.results75, go_sem]) rfl ⟨by rw [hRn]; rfl, HB4.out⟩
        ·have H9 := hidE (HPU (some F') hpu)
         have HRN := hidE hrn'
         clear HPU hfp hbA
         go_wp2_with fail
         refine H9.out.mono ?_
         rintro e w1 ⟨rfl, p1, p2, p3, p4⟩
         have st1 := hidE (show BSt w w1 N a n cap F'.need F'.flow from ⟨(p3 _ (by omega) (by omega) (by omega)).trans hst.out.box, p2, p1, hst.out.bl.trans p4⟩)
         clear p1 p2 p3 p4 H9
         simp only [Option.isSome_some]
         go_wp2_with fail
         go_roundg g'
         case rel => exact ⟨F', HRN, st1⟩
         case measure => omega
     ·have e9 : N = k := by omega
      subst e9
      have hfp := firstP_none hall.out
      have hR0 : R0 = some F := by
       rcases HCASE.out with ⟨_, e⟩ | ⟨p, e, _⟩
       ·exact e
       ·rw [hfp] at e; cases e
      clear HCASE
      go_upto_region 16 with fail
      obtain ⟨Wl, rfl⟩ : ∃ x : World, x = wr := ⟨wr, rfl⟩
      obtain ⟨W8, hW8⟩ : ∃ W8, W8 = (Wl.alloc (.cells Tryz.zeroCells153 153)).alloc (.cells Tryz.zeroCells156 156) := ⟨_, rfl⟩
      rw [← hW8]
      have bb8 : Below Wl.heap.size Wl W8 := by rw [hW8]; exact ((Below.refl _ _).alloc (Nat.le_refl _) _).alloc (by simp) _
      have st8 := hst.out.below bb8
      have y1 : W8.heap[Wl.heap.size]? = some (.cells (rowA (rep128 0)) 153 (0,0)) := by rw [hW8, zc153]; simp only [heap_alloc_get, World.size_alloc]; rw [if_neg (by omega), if_pos trivial]
      have y2 : W8.heap[Wl.heap.size + 1]? = some (.cells (boolA repF128) 156 (0,0)) := by rw [hW8, zc120]; simp only [heap_alloc_get, World.size_alloc]; rw [if_pos trivial]
      have z8 : W8.heap.size = Wl.heap.size + 2 := by rw [hW8]; simp
      have d8 : W8.cell? ⟨w.heap.size, 0, none⟩ = some (.int .i64 (N : Int)) := c_e st8.box rfl
      have hAs : w.heap.size + 3 ≤ Wl.heap.size := by have := lt_of_block hst.out.net; omega
      obtain ⟨A, hA⟩ : ∃ A, Wl.heap.size = A := ⟨_, rfl⟩
      rw [hA] at bb8 y1 y2 z8 hAs ⊢
      have ST8 := hidE st8
      have Y1 := hidE y1
      have Y2 := hidE y2
      have Z8 := hidE z8
      clear hW8 st8 y1 y2 z8 bb8 d0 hA hst hall hlt hst0 hkN
      go_wp2_with fail
      go_loopw [70] (fun i wq => ∃ k : Nat, k ≤ N ∧ i = .int .i64 (k : Int) ∧ Hid (wq.heap[A + 1]? = some (.cells (boolA (List.replicate k true ++ List.replicate (128 - k) false)) 156 (0,0))) ∧ Hid (∀ x : Nat, x ≠ A + 1 → wq.heap[x]? = W8.heap[x]?) ∧ Hid (wq.heap.size = A + 2) ∧ Hid (Below A W8 wq)) (fun i _ => N - (intOf i).toNat)
      case atStart => exact ⟨0, Nat.zero_le _, rfl, Y2, hidE (fun _ _ => rfl), Z8, hidE (Below.refl _ _)⟩
      case round =>
       obtain ⟨k, hkN, rfl, hkn, hoth, hsz, hbl⟩ := hrel
       by_cases hlt : k < N
       ·have j1 : (k : Int) < 128 := by omega
        have j2 : k < 128 := by omega
        have j3 : decide ((k : Int) < (N : Int)) = true := by simp; omega
        have j3' : decide (k < N) = true := by simp; omega
        have k0 : wr.cell? ⟨A + 1, k, none⟩ = some (.bool (getK (List.replicate k true ++ List.replicate (128 - k) false) (k : Int))) := by rw [cell_of_row _ _ _ _ _ _ hkn.out, getK_at (by simp; omega)]
        have f0 : wr.frozen? ⟨A + 1, k, none⟩ = false := frozen_of_row _ _ _ _ _ hkn.out
        have HK1 := hidE (show (wr.setCell ⟨A + 1, k, none⟩ (.bool true)).heap[A + 1]? = some (.cells (boolA (List.replicate (k + 1) true ++ List.replicate (128 - (k + 1)) false)) 156 (0,0)) by
         rw [heap_setCell_same _ _ _ _ _ _ hkn.out]
         congr 2
         have e : (List.replicate k true ++ List.replicate (128 - k) false).set k true = List.replicate (k + 1) true ++ List.replicate (128 - (k + 1)) false := by
          rw [List.set_append_right _ _ (by simp), List.length_replicate, Nat.sub_self, show 128 - k = (128 - (k + 1)) + 1 by omega, List.replicate_succ, List.set_cons_zero, List.replicate_succ']
          simp
         rw [← e]
         simp [boolA, boolsV, List.map_set])
        have HO1 := hidE (show ∀ x : Nat, x ≠ A + 1 → (wr.setCell ⟨A + 1, k, none⟩ (.bool true)).heap[x]? = W8.heap[x]? from fun x hx => (heap_setCell_other _ _ _ _ hx).trans (hoth.out x hx))
        have HB1 := hidE (hbl.out.setCell (p := ⟨A + 1, k, none⟩) (by show A ≤ A + 1; omega) (.bool true))
        go_wp2_with fail
        go_roundw
        case rel => exact ⟨k + 1, by omega, by go_num, HK1, HO1, hidE (by simp; exact hsz.out), HB1⟩
        case measure => simp [intOf]; omega
       ·have e9 : N = k := by omega
        subst e9
        have st9 : BSt w wr N a n cap F.need F.flow := by
         have s8 := ST8.out
         refine ⟨(hoth.out _ (by omega)).trans s8.box, (hoth.out _ (by omega)).trans s8.fl, (hoth.out _ (by omega)).trans s8.net, s8.bl.trans (hbl.out.mono (by omega))⟩
        subst hR0
        obtain ⟨F1, s, hF1, hsh, hRr⟩ : ∃ F1 s, some F = some F1 ∧ shortGo (arcsP bs F1.flow) 1000 (shAll N) = some s ∧ R = some ⟨formP wt (valsOf N s), valsOf N s, F1.flow⟩ := by
         rcases HR1.out with ⟨h, _⟩ | ⟨F1, s, h1', h2, h3⟩
         ·cases h
         ·exact ⟨F1, s, h1', h2, h3⟩
        obtain rfl := Option.some.inj hF1
        have HRr := hidE hRr
        clear hRr
        have hbA : ∀ x, a = some x → 0 < bs.length → x.block < w.heap.size := fun x hx h0 => by
         rcases HB.out with h | ⟨b, off, e2, hl2, _⟩
         ·rw [h] at h0; simp at h0
         ·rw [hx] at e2; cases e2; exact hl2
        have e1 : wr.cell? ⟨w.heap.size + 1 + 1, 1, none⟩ = some (.slice a n cap) := c_e st9.net rfl
        have e2 : wr.cell? ⟨w.heap.size + 1 + 1, 2, none⟩ = some (.slice (some ⟨w.heap.size + 1, 0, none⟩) n n) := c_e st9.net rfl
        have hszO := hsz.out
        have HSHT := shortened_any wr A A (A + 1) (w.heap.size + 1 + 1) N a cap bs (some ⟨w.heap.size + 1, 0, none⟩) n F.flow 1000 (shAll N) s hN (by rw [HN.out]; exact hn4) HV.out HOK.out.fl (HB.out.below st9.bl (Nat.le_refl _)) (ints_row st9.fl) (by omega) (Nat.le_refl _) (by omega) (by omega) (by omega) (by omega) (by omega)
         (fun x hx h0 => by have := hbA x hx h0; omega) (fun x hx _ => by cases hx; show w.heap.size + 1 < _; omega) (by rw [HN.out]; exact e1) (by rw [HN.out]; exact e2) ((hoth.out A (by omega)).trans (by rw [Y1.out]; rfl)) (by rw [hkn.out]; rfl) (shAll_whole hN) rfl (shAll_mid hN HV.out HOK.out.neg) hsh
        have HSH := hidE HSHT
        have hmb := shAll_small (bs := bs) (flow := F.flow) hN HV.out HOK.out.neg s (short_mid (s0 := shAll N) 1000 _ _ MidA.start hsh)
        have HCB := hidE (show ∀ v : Nat, v < N → -127000000 ≤ getI s.c (v : Int) ∧ getI s.c (v : Int) ≤ 128000000 from fun v hvN => hmb v (by omega) (by omega))
        have ST9 := hidE st9
        have HWR : A + 1 < wr.heap.size := by omega
        clear e1 e2 hmb st9 hsh hbA hkn hoth hsz hbl hszO HSHT hlt
        go_upto_region 21 with fail
        go_wp2_with fail
        refine HSH.out.mono ?_
        rintro e w9 ⟨rfl, hc9, hk9, hb9, hwh9, ho9⟩
        have hsz9 : A + 2 ≤ w9.heap.size := by have := lt_of_block hk9; omega
        have hszwr := lt_of_block ST9.out.net
        have hlt9 : A + 1 < wr.heap.size := HWR
        have st10 : BSt w w9 N a n cap F.need F.flow := by
         have s8 := ST9.out
         exact ⟨(ho9 _ (by omega) (by omega) (by omega)).trans s8.box, (ho9 _ (by omega) (by omega) (by omega)).trans s8.fl, (ho9 _ (by omega) (by omega) (by omega)).trans s8.net, s8.bl.trans (hb9.mono (by omega))⟩
        have d9 : w9.cell? ⟨w.heap.size, 0, none⟩ = some (.int .i64 (N : Int)) := c_e st10.box rfl
        have hmkN := fun W => run_make_row' (P := Tryz.prog) 25 3 (.int .i64 0) 8 Tryz.underlying25 Tryz.info3' rfl .i64 .i64 N (by omega) (by omega) W
        have ST10 := hidE st10
        have HC9 := hidE hc9
        have hcl := hwh9.1
        clear HSH st10 hc9 hk9 hb9 ho9 ST9
        go_upto_region 23 with fail
        obtain ⟨gy, hgy⟩ : ∃ gy, w9.heap.size = gy := ⟨_, rfl⟩
        obtain ⟨W10, hW10⟩ : ∃ W10, W10 = w9.alloc (.cells (madeCells #[.int .i64 0] N) 3) := ⟨_, rfl⟩
        rw [← hW10]
        have bb10 : Below gy w9 W10 := by rw [hW10, ← hgy]; exact (Below.refl _ _).alloc (Nat.le_refl _) _
        have x10 : W10.heap[gy]? = some (.cells (rowA (List.replicate N 0)) 3 (0,0)) := by rw [hW10, ← hgy, ← madeInts]; exact heap_alloc_new _ _
        have z10 : W10.heap.size = gy + 1 := by rw [hW10, ← hgy]; simp
        have st11 := ST10.out.below (by rw [hgy]; exact bb10)
        have hc11 := blk_below bb10 (by omega) HC9.out
        rw [hgy] at hsz9 ⊢
        have ST11 := hidE st11
        have HC11 := hidE hc11
        have X10 := hidE x10
        have Z10 := hidE z10
        clear hW10 bb10 x10 z10 st11 hc11 ST10 HC9 hmkN d9 hgy
        go_wp2_with fail
        go_loopw [83] (fun i wq => ∃ k : Nat, k ≤ N ∧ i = .int .i64 (k : Int) ∧ Hid (wq.heap[gy]? = some (.cells (rowA ((List.range k).map (fun p => getI s.c (p : Nat) - getI s.c 0) ++ List.replicate (N - k) 0)) 3 (0,0))) ∧ Hid (∀ x : Nat, x ≠ gy → wq.heap[x]? = W10.heap[x]?) ∧ Hid (wq.heap.size = gy + 1) ∧ Hid (Below gy W10 wq)) (fun i _ => N - (intOf i).toNat)
        case atStart => exact ⟨0, Nat.zero_le _, rfl, X10, hidE (fun _ _ => rfl), Z10, hidE (Below.refl _ _)⟩
        case round =>
         obtain ⟨k, hkN, rfl, hgr, hoth, hsz, hbl⟩ := hrel
         by_cases hlt : k < N
         ·have j1 : (k : Int) < 128 := by omega
          have j2 : k < 128 := by omega
          have j4 : (k : Int) < (N : Int) := by omega
          have j3 : decide ((k : Int) < (N : Int)) = true := by simp; omega
          have j3' : decide (k < N) = true := by simp; omega
          have ca := (hoth.out A (by omega)).trans HC11.out
          have ck : wr.cell? ⟨A, k, none⟩ = some (.int .i64 (getI s.c (k : Int))) := by rw [cell_of_row _ _ _ _ _ _ ca, getI_at (by omega)]
          have c0 : wr.cell? ⟨A, 0, none⟩ = some (.int .i64 (getI s.c 0)) := by rw [cell_of_row _ _ _ _ _ _ ca]; exact getI_at (i := 0) (by omega)
          have hb1 := HCB.out k hlt
          have hb2 := HCB.out 0 (by omega)
          have old : wr.cell? ⟨gy, k, none⟩ = some (.int .i64 (((List.range k).map (fun p => getI s.c (p : Nat) - getI s.c 0) ++ List.replicate (N - k) 0).getD k 0)) := by rw [cell_of_row _ _ _ _ _ _ hgr.out, rowA_get (by simp; omega)]
          have fro : wr.frozen? ⟨gy, k, none⟩ = false := frozen_of_row _ _ _ _ _ hgr.out
          have hset := valsTo_get N s.c k hlt
          obtain ⟨vk, hvk⟩ : ∃ z, getI s.c (k : Int) = z := ⟨_, rfl⟩
          obtain ⟨v0, hv0⟩ : ∃ z, getI s.c 0 = z := ⟨_, rfl⟩
          rw [show getI s.c ((0 : Nat) : Int) = v0 from hv0] at hb2
          rw [hvk] at ck hb1
          rw [hv0] at c0
          rw [hvk, hv0] at hset
          obtain ⟨oldv, hold⟩ : ∃ z, ((List.range k).map (fun p => getI s.c (p : Nat) - getI s.c 0) ++ List.replicate (N - k) 0).getD k 0 = z := ⟨_, rfl⟩
          rw [hold] at old
          have wsub : IntKind.i64.wrap (vk - v0) = vk - v0 := IntWalk.i64_in _ (by omega)
          have HSET := hidE hset
          have HV0 := hidE hv0
          clear hset hvk hv0 hold ca
          go_upto_region 26 with fail
          refine wp_region_K (S2 := fun _ => True) (S := fun V => V.cell? ⟨A, k, none⟩ = some (.int .i64 vk) ∧ V.cell? ⟨A, 0, none⟩ = some (.int .i64 v0)) (T := fun t => t == 9) (by kernel_rfl) ?_
          obtain ⟨V1, hV1⟩ : ∃ V1, V1 = wr.drew := ⟨_, rfl⟩
          rw [← hV1]
          have hS : V1.cell? ⟨A, k, none⟩ = some (.int .i64 vk) ∧ V1.cell? ⟨A, 0, none⟩ = some (.int .i64 v0) := by rw [hV1]; exact ⟨ck, c0⟩
          have c14 : V1.cell? ⟨gy, k, none⟩ = some (.int .i64 oldv) := by rw [hV1]; exact old
          have g14 : V1.frozen? ⟨gy, k, none⟩ = false := by rw [hV1]; exact fro
          have HV1 := hidE hV1
          clear hV1
          refine t_k 0 86 (.slice (some ⟨gy, 0, none⟩) N N) rfl (by kernel_rfl) rfl (fun _ _ _ h => h) (fun V hV => ?_) ⟨trivial, .inr hS⟩ ?_
          ·simp [go_sem, execOp]
          try simp only [s_a, s_b, s_c]
          refine t_k 1 87 (.int .i64 (k : Int)) rfl (by kernel_rfl) rfl (fun _ _ _ h => h) (fun V hV => ?_) ⟨trivial, .inr hS⟩ ?_
          ·simp [go_sem, execOp]
          try simp only [s_a, s_b, s_c]
          refine t_k 2 88 (.int .i64 (k : Int)) rfl (by kernel_rfl) rfl (fun _ _ _ h => h) (fun V hV => ?_) ⟨trivial, .inr hS⟩ ?_
          ·simp [go_sem, execOp]
          try simp only [s_a, s_b, s_c]
          refine t_k 3 89 (.pointer (some ⟨A, k, none⟩)) rfl (by kernel_rfl) rfl (fun _ _ _ h => h) (fun V hV => ?_) ⟨trivial, .inr hS⟩ ?_
          ·simp [go_sem, execOp, j1]
          try simp only [s_a, s_b, s_c]
          refine wpAnyK_load (i := 4) (d := 90) (v := .int .i64 vk) rfl rfl rfl (by kernel_rfl) (by kernel_rfl) (by kernel_rfl) (by kernel_rfl) (by kernel_rfl) (fun _ _ _ h => h) (.inl ⟨rfl, fun V hV => ?_⟩) hS trivial ?_
          ·obtain ⟨r0, r1⟩ := hV; simp [go_sem, execOp, r0]
          try simp only [s_a, s_b, s_c]
          refine t_k 5 91 (.pointer (some ⟨A, 0, none⟩)) rfl (by kernel_rfl) rfl (fun _ _ _ h => h) (fun V hV => ?_) ⟨trivial, .inr hS⟩ ?_
          ·simp [go_sem, execOp]
          try simp only [s_a, s_b, s_c]
          refine wpAnyK_load (i := 6) (d := 92) (v := .int .i64 v0) rfl rfl rfl (by kernel_rfl) (by kernel_rfl) (by kernel_rfl) (by kernel_rfl) (by kernel_rfl) (fun _ _ _ h => h) (.inl ⟨rfl, fun V hV => ?_⟩) hS trivial ?_
          ·obtain ⟨r0, r1⟩ := hV; simp [go_sem, execOp, r1]
          try simp only [s_a, s_b, s_c]
          refine t_k 7 93 (.int .i64 (vk - v0)) rfl (by kernel_rfl) rfl (fun _ _ _ h => h) (fun V hV => ?_) ⟨trivial, .inr hS⟩ ?_
          ·simp [go_sem, execOp, wsub]
          try simp only [s_a, s_b, s_c]
          refine t_k 8 94 (.pointer (some ⟨gy, k, none⟩)) rfl (by kernel_rfl) rfl (fun _ _ _ h => h) (fun V hV => ?_) ⟨trivial, .inr hS⟩ ?_
          ·simp [go_sem, execOp, j4]
          try simp only [s_a, s_b, s_c]
          refine wpAnyK_step 9 rfl (by kernel_rfl) (fun K hK => ?_)
          go_simp
          refine hK.out _ _ ⟨trivial, .inl ⟨9, rfl, by kernel_rfl⟩⟩ ?_
          clear hK K
          try simp only [Act.put, s_a, s_b, s_c]
          refine wpAnyK_done (by kernel_rfl) ?_ _
          clear hS c14 g14 old fro ck c0
          have HK1 := hidE (show (V1.setCell ⟨gy, k, none⟩ (.int .i64 (vk - v0))).heap[gy]? = some (.cells (rowA ((List.range (k + 1)).map (fun p => getI s.c (p : Nat) - getI s.c 0) ++ List.replicate (N - (k + 1)) 0)) 3 (0,0)) by
           have hgr2 := hgr.out
           rw [HV0.out] at hgr2 ⊢
           rw [← HSET.out, ← rowA_set]
           exact heap_setCell_same _ _ _ _ _ _ (by rw [HV1.out]; exact hgr2))
          have HO1 := hidE (show ∀ x : Nat, x ≠ gy → (V1.setCell ⟨gy, k, none⟩ (.int .i64 (vk - v0))).heap[x]? = W10.heap[x]? from fun x hx => (heap_setCell_other _ _ _ _ hx).trans (by rw [HV1.out]; exact hoth.out x hx))
          have HB1 := hidE (show Below gy W10 (V1.setCell ⟨gy, k, none⟩ (.int .i64 (vk - v0))) by rw [HV1.out]; exact hbl.out.drew.setCell (p := ⟨gy, k, none⟩) (Nat.le_refl _) _)
          have HZ1 := hidE (show (V1.setCell ⟨gy, k, none⟩ (.int .i64 (vk - v0))).heap.size = gy + 1 by rw [HV1.out]; simp; exact hsz.out)
          go_wp2_with fail
          go_roundw
          case rel => exact ⟨k + 1, by omega, by go_num, HK1, HO1, HZ1, HB1⟩
          case measure => simp [intOf]; omega
         ·have e9 : N = k := by omega
          subst e9
          have hvl : (valsOf N s).length = N := by simp [valsOf]
          have hgv : wr.heap[gy]? = some (.cells (rowA (valsOf N s)) 3 (0,0)) := by
           have := hgr.out
           rw [Nat.sub_self, List.replicate_zero, List.append_nil] at this
           exact this
          have st12 : BSt w wr N a n cap F.need F.flow := by
           have s8 := ST11.out
           exact ⟨(hoth.out _ (by omega)).trans s8.box, (hoth.out _ (by omega)).trans s8.fl, (hoth.out _ (by omega)).trans s8.net, s8.bl.trans (hbl.out.mono (by omega))⟩
          have hform := form_any wr.drew a2 cap2 wt (some ⟨gy, 0, none⟩) N (valsOf N s) (by rw [HWL.out]; exact hN) (by rw [HWL.out, hvl]; exact Nat.le_refl _) (HW.out.below st12.bl.drew (Nat.le_refl _)) (ints_row (W := wr.drew) hgv) HWB.out (fun v hv => by
           unfold valsOf at hv
           obtain ⟨p, hp, rfl⟩ := List.mem_map.1 hv
           have h1 := HCB.out p (List.mem_range.1 hp)
           have h2 := HCB.out 0 (by omega)
           simp only [Int.natCast_zero] at h2
           omega)
          rw [HWL.out, hvl] at hform
          have q0 : wr.cell? ⟨w.heap.size + 1 + 1, 2, none⟩ = some (.slice (some ⟨w.heap.size + 1, 0, none⟩) n n) := c_e st12.net rfl
          have HGV := hidE hgv
          have ST12 := hidE st12
          have HFO := hidE hform
          clear hgr hgv st12 hform hoth hsz hbl hlt
          go_upto_region 28 with fail
          refine wp_region_F (S := fun V => V.cell? ⟨w.heap.size + 1 + 1, 2, none⟩ = some (.slice (some ⟨w.heap.size + 1, 0, none⟩) n n) ∧ True ∧ True) (last := 100) (by kernel_rfl) ?_
          have hS0 : wr.drew.cell? ⟨w.heap.size + 1 + 1, 2, none⟩ = some (.slice (some ⟨w.heap.size + 1, 0, none⟩) n n) ∧ True ∧ True := ⟨q0, trivial, trivial⟩
          refine t_n 0 96 (.slice a2 N cap2) rfl (by kernel_rfl) rfl (fun _ _ _ h => h) (fun V hV => ?_) hS0 ?_
          ·obtain ⟨q0, q1, q2⟩ := hV
           simp [go_sem, execOp]
          try simp only [s_a, s_b, s_c]
          refine t_n 1 97 (.slice (some ⟨gy, 0, none⟩) N N) rfl (by kernel_rfl) rfl (fun _ _ _ h => h) (fun V hV => ?_) hS0 ?_
          ·obtain ⟨q0, q1, q2⟩ := hV
           simp [go_sem, execOp]
          try simp only [s_a, s_b, s_c]
          refine t_n 3 99 (.slice (some ⟨gy, 0, none⟩) N N) rfl (by kernel_rfl) rfl (fun _ _ _ h => h) (fun V hV => ?_) hS0 ?_
          ·obtain ⟨q0, q1, q2⟩ := hV
           simp [go_sem, execOp]
          try simp only [s_a, s_b, s_c]
          refine t_n 4 100 (.pointer (some ⟨w.heap.size + 1 + 1, 0, none⟩)) rfl (by kernel_rfl) rfl (fun _ _ _ h => h) (fun V hV => ?_) hS0 ?_
          ·obtain ⟨q0, q1, q2⟩ := hV
           simp [go_sem, execOp]
          try simp only [s_a, s_b, s_c]
          refine t_n 5 101 (.pointer (some ⟨w.heap.size + 1 + 1, 0, none⟩)) rfl (by kernel_rfl) rfl (fun _ _ _ h => h) (fun V hV => ?_) hS0 ?_
          ·obtain ⟨q0, q1, q2⟩ := hV
           simp [go_sem, execOp]
          try simp only [s_a, s_b, s_c]
          refine t_n 6 102 (.pointer (some ⟨w.heap.size + 1 + 1, 2, none⟩)) rfl (by kernel_rfl) rfl (fun _ _ _ h => h) (fun V hV => ?_) hS0 ?_
          ·obtain ⟨q0, q1, q2⟩ := hV
           simp [go_sem, execOp]
          try simp only [s_a, s_b, s_c]
          refine t_n 7 103 (.slice (some ⟨w.heap.size + 1, 0, none⟩) n n) rfl (by kernel_rfl) rfl (fun _ _ _ h => h) (fun V hV => ?_) hS0 ?_
          ·obtain ⟨q0, q1, q2⟩ := hV
           simp [go_sem, execOp, q0]
          try simp only [s_a, s_b, s_c]
          refine wpAnyF_step 2 rfl (by kernel_rfl) (fun K hK => ?_)
          go_simp
          go_at_call 107
          refine HFO.out.mono ?_
          rintro e w' ⟨rfl, rfl⟩
          go_wp2_with fail
          refine hK.out _ _ (.inr hS0) ?_
          clear hK K
          try simp only [Act.put, s_a, s_b, s_c]
          refine t_n 8 4 (.int .i64 (formP wt (valsOf N s))) rfl (by kernel_rfl) rfl (fun _ _ _ h => h) (fun V hV => ?_) hS0 ?_
          ·obtain ⟨q0, q1, q2⟩ := hV
           simp [go_sem, execOp]
          try simp only [s_a, s_b, s_c]
          refine t_n 9 5 (.slice (some ⟨gy, 0, none⟩) N N) rfl (by kernel_rfl) rfl (fun _ _ _ h => h) (fun V hV => ?_) hS0 ?_
          ·obtain ⟨q0, q1, q2⟩ := hV
           simp [go_sem, execOp]
          try simp only [s_a, s_b, s_c]
          refine t_n 10 6 (.slice (some ⟨w.heap.size + 1, 0, none⟩) n n) rfl (by kernel_rfl) rfl (fun _ _ _ h => h) (fun V hV => ?_) hS0 ?_
          ·obtain ⟨q0, q1, q2⟩ := hV
           simp [go_sem, execOp]
          try simp only [s_a, s_b, s_c]
          refine t_n 11 7 (.int .i64 0) rfl (by kernel_rfl) rfl (fun _ _ _ h => h) (fun V hV => ?_) hS0 ?_
          ·obtain ⟨q0, q1, q2⟩ := hV
           simp [go_sem, execOp]
          try simp only [s_a, s_b, s_c]
          refine wpAnyF_done (by kernel_rfl) ?_ _
          go_wp2_with fail
          have hst12 := ST12.out
          simp only [Exit.noGoto]
          refine bodyPost_ret (v := .tuple #[.int .i64 (formP wt (valsOf N s)), .slice (some ⟨gy, 0, none⟩) N N, .slice (some ⟨w.heap.size + 1, 0, none⟩) n n, .int .i64 0]) (by simp [results, Tryz.results75, go_sem]) rfl ⟨?_, hst12.bl.drew⟩
          rw [HRr.out]
          refine ⟨gy, w.heap.size + 1, ?_, by omega, by omega, by omega, HGV.out, hst12.fl⟩
          show Ending.returned _ = Ending.returned (.tuple #[.int .i64 (formP wt (valsOf N s)), .slice (some ⟨gy, 0, none⟩) (valsOf N s).length (valsOf N s).length, .slice (some ⟨w.heap.size + 1, 0, none⟩) F.flow.length F.flow.length, .int .i64 0])
          rw [hvl, HOK.out.fl, HN.out]
theorem asked0_parts {N : Int} {bs : List Bd} {wt : List Int} (h : askedA N bs wt = 0) : ∃ n : Nat, N = n ∧ 1 ≤ n ∧ n ≤ 128 ∧ bs.length ≤ 2000 ∧ AllValid n bs ∧ wt.length = n ∧ ∀ v ∈ wt, -1000000 ≤ v ∧ v ≤ 1000000 := by
 unfold askedA at h
 split at h
 ·rename_i h1; exact absurd h h1
 ·rename_i h1
  split at h
  ·cases h
  ·rename_i h2
   simp only [ne_eq, Decidable.not_not] at h1
   obtain ⟨n, rfl, a1, a2, a3, a4⟩ := allOk_of h1
   refine ⟨n, rfl, a1, a2, a3, fun b hb => (a4 b hb).1, ?_, ?_⟩
   ·unfold weighedB at h2; simp at h2; omega
   ·intro v hv
    unfold weighedB at h2
    simp only [Bool.and_eq_false_iff, not_or, Bool.not_eq_false] at h2
    have := List.all_eq_true.1 h2.2 v hv
    unfold inR at this
    simp at this
    exact this
def GreatPost (err : Int) (R : Option BestR) (base : Nat) (e : Ending) (w' : World) : Prop :=
 if err ≠ 0 then e = .returned (.tuple #[.int .i64 0, .slice none 0 0, .slice none 0 0, .int .i64 err]) else BestPost R base e w'
def LeastPost (err : Int) (R : Option BestR) (base : Nat) (e : Ending) (w' : World) : Prop :=
 if err ≠ 0 then e = .returned (.tuple #[.int .i64 0, .slice none 0 0, .slice none 0 0, .int .i64 err]) else BestPost (R.map fun r => ⟨-r.n, r.y, r.flow⟩) base e w'
set_option maxRecDepth 100000 in
set_option maxHeartbeats 2000000 in
theorem greatest_any (w : World) (N : Int) (a : Option Addr) (cap : Nat) (bs : List Bd) (a2 : Option Addr) (cap2 : Nat) (wt : List Int) (f : Nat) (R : Option BestR) (hN : i64ok N) (hl : bs.length ≤ 9223372036854775807) (hl2 : wt.length ≤ 9223372036854775807)
 (h : BoundsAt w a bs) (h2 : IntsAt w a2 wt) (hrun : askedA N bs wt = 0 → BestRun N.toNat bs wt f R) :
 Calls Tryz.prog 23 #[.agg #[.int .i64 N, .slice a bs.length cap], .slice a2 wt.length cap2] w fun e w' => GreatPost (askedA N bs wt) R w.heap.size e w' ∧ Below w.heap.size w w' := by
 obtain ⟨W0, hW0⟩ : ∃ W0, W0 = w.alloc (.cells #[.int .i64 N, .slice a bs.length cap] 24) := ⟨_, rfl⟩
 have b0 : Below w.heap.size w W0 := by rw [hW0]; exact (Below.refl _ _).alloc (Nat.le_refl _) _
 have x0 : W0.heap[w.heap.size]? = some (.cells #[.int .i64 N, .slice a bs.length cap] 24 (0,0)) := by rw [hW0]; exact heap_alloc_new _ _
 have l0 := lt_of_block x0
 have hask := askedA_any W0 N a cap bs a2 cap2 wt hN hl hl2 (h.below b0 (Nat.le_refl _)) (h2.below b0 (Nat.le_refl _))
 have c0 : W0.cell? ⟨w.heap.size, 0, none⟩ = some (.int .i64 N) := c_e x0 rfl
 have c1 : W0.cell? ⟨w.heap.size, 1, none⟩ = some (.slice a bs.length cap) := c_e x0 rfl
 have HASK := hidE hask
 have B0 := hidE b0
 have X0 := hidE x0
 have H := hidE h
 have H2 := hidE h2
 have HW0 := hidE hW0
 clear hask b0 x0 h h2 hN
 obtain ⟨E, hE⟩ : ∃ E, askedA N bs wt = E := ⟨_, rfl⟩
 rw [hE] at HASK hrun ⊢
 have HE := hidE hE
 clear hE
 by_cases z : E = 0
 ·subst z
  have hrn := hrun rfl
  obtain ⟨n, m1, m2, m3, m4, m5, m6, m7⟩ := asked0_parts HE.out
  subst m1
  have HRN := hidE (show BestRun n bs wt f R from hrn)
  have HV := hidE m5
  have HWL := hidE m6
  have HWB := hidE m7
  clear hrun hrn m5 m6 m7
  go_enter Tryz.func23, Tryz.ntmps23
  go_upto_region 1 with fail
  rw [← hW0]
  clear hW0
  go_wp2_with fail
  refine HASK.out.mono ?_
  rintro e w1 ⟨rfl, hb1⟩
  have B1 := hidE (B0.out.trans (hb1.mono B0.out.size))
  have x1 := blk_below hb1 l0 X0.out
  have d0 : w1.cell? ⟨w.heap.size, 0, none⟩ = some (.int .i64 (n : Int)) := c_e x1 rfl
  have d1 : w1.cell? ⟨w.heap.size, 1, none⟩ = some (.slice a bs.length cap) := c_e x1 rfl
  have HB10 := hidE hb1
  clear hb1 c0 c1 x1 HASK
  have HB := hidE (best_any w1 n a cap bs a2 cap2 wt f R m2 m3 (by omega) HV.out (H.out.below B1.out (Nat.le_refl _)) (H2.out.below B1.out (Nat.le_refl _)) HWL.out HWB.out HRN.out)
  rw [← HWL.out] at HB
  rw [HWL.out] at HB
  have hwl := HWL.out
  obtain ⟨L, hL⟩ : ∃ L, wt.length = L := ⟨_, rfl⟩
  rw [hL] at hwl ⊢
  subst hwl
  go_wp2_with fail
  refine HB.out.mono ?_
  rintro e w2 ⟨hp, hb2⟩
  have BB := hidE (B1.out.trans (hb2.mono B1.out.size))
  cases R with
  | none =>
    obtain rfl := hp
    go_wp2_with fail
    refine bodyPost_ret (v := .tuple #[.int .i64 0, .slice none 0 0, .slice none 0 0, .int .i64 50]) (by simp [results, Tryz.results23, go_sem]) rfl ⟨rfl, BB.out⟩
  | some r =>
    obtain ⟨gy, gF, rfl, p1, p2, p3, p4, p5⟩ := hp
    have hbs := B1.out.size
    have P4 := hidE p4
    have P5 := hidE p5
    clear p4 p5
    go_wp2_with fail
    refine bodyPost_ret (v := .tuple #[.int .i64 r.n, .slice (some ⟨gy, 0, none⟩) r.y.length r.y.length, .slice (some ⟨gF, 0, none⟩) r.flow.length r.flow.length, .int .i64 0]) (by simp [results, Tryz.results23, go_sem]) rfl ⟨⟨gy, gF, rfl, by omega, by omega, p3, P4.out, P5.out⟩, BB.out⟩
 ·have zb : (E != 0) = true := by simpa using z
  clear hrun
  go_enter Tryz.func23, Tryz.ntmps23
  go_upto_region 1 with fail
  rw [← hW0]
  clear hW0
  go_wp2_with fail
  refine HASK.out.mono ?_
  rintro e w1 ⟨rfl, hb1⟩
  have B1 := hidE (B0.out.trans (hb1.mono B0.out.size))
  clear hb1 c0 c1
  go_wp2_with fail
  refine bodyPost_ret (v := .tuple #[.int .i64 0, .slice none 0 0, .slice none 0 0, .int .i64 E]) (by simp [results, Tryz.results23, go_sem]) rfl ⟨?_, B1.out⟩
  unfold GreatPost
  rw [if_pos z]
theorem best_n_bd {N : Nat} {bs : List Bd} {w : List Int} {f : Nat} {R : Option BestR} (h1 : 1 ≤ N) (hN : N ≤ 128) (hv : AllValid N bs) (h : BestRun N bs w f R) (hl : w.length = N) (hw : ∀ v ∈ w, -1000000 ≤ v ∧ v ≤ 1000000) : ∀ r, R = some r → -100000000000000000 ≤ r.n ∧ r.n ≤ 100000000000000000 := by
 intro r hr
 obtain ⟨R0, e, h | ⟨F, s, e1, e2, e3⟩⟩ := h.ex
 ·rw [h.2] at hr; cases hr
 ·rw [e3] at hr
  cases hr
  rw [e1] at e
  have ok := (runsB_ok hN hv f _ _ e).last F rfl
  have hs := shAll_small hN hv ok.neg s (short_mid (s0 := shAll N) 1000 _ _ MidA.start e2)
  have hb := sumN_bd (f := fun i => w.getD i 0 * (valsOf N s).getD i 0) (c := 300000000000000) (n := w.length) fun i hi => by
   have a1 : -1000000 ≤ w.getD i 0 ∧ w.getD i 0 ≤ 1000000 := hw _ (by rw [List.getD_eq_getElem?_getD, List.getElem?_eq_getElem hi]; exact List.getElem_mem _)
   have a2 : -300000000 ≤ (valsOf N s).getD i 0 ∧ (valsOf N s).getD i 0 ≤ 300000000 := by
    rw [vals_get N s i (by omega)]
    have q1 := hs i (by omega) (by omega)
    have q2 := hs 0 (by omega) (by omega)
    omega
   have m := mul_bd a1.1 a1.2 a2.1 a2.2
   omega
  show -100000000000000000 ≤ formP w (valsOf N s) ∧ formP w (valsOf N s) ≤ 100000000000000000
  unfold formP
  omega
set_option maxRecDepth 100000 in
set_option maxHeartbeats 2000000 in
theorem least_any (w : World) (N : Int) (a : Option Addr) (cap : Nat) (bs : List Bd) (a2 : Option Addr) (cap2 : Nat) (wt : List Int) (f : Nat) (R : Option BestR) (hN : i64ok N) (hl : bs.length ≤ 9223372036854775807) (hl2 : wt.length ≤ 9223372036854775807)
 (h : BoundsAt w a bs) (h2 : IntsAt w a2 wt) (hrun : askedA N bs wt = 0 → BestRun N.toNat bs (wt.map (-·)) f R) :
 Calls Tryz.prog 25 #[.agg #[.int .i64 N, .slice a bs.length cap], .slice a2 wt.length cap2] w fun e w' => LeastPost (askedA N bs wt) R w.heap.size e w' ∧ Below w.heap.size w w' := by
 obtain ⟨W0, hW0⟩ : ∃ W0, W0 = w.alloc (.cells #[.int .i64 N, .slice a bs.length cap] 24) := ⟨_, rfl⟩
 have b0 : Below w.heap.size w W0 := by rw [hW0]; exact (Below.refl _ _).alloc (Nat.le_refl _) _
 have x0 : W0.heap[w.heap.size]? = some (.cells #[.int .i64 N, .slice a bs.length cap] 24 (0,0)) := by rw [hW0]; exact heap_alloc_new _ _
 have l0 := lt_of_block x0
 have hask := askedA_any W0 N a cap bs a2 cap2 wt hN hl hl2 (h.below b0 (Nat.le_refl _)) (h2.below b0 (Nat.le_refl _))
 have c0 : W0.cell? ⟨w.heap.size, 0, none⟩ = some (.int .i64 N) := c_e x0 rfl
 have c1 : W0.cell? ⟨w.heap.size, 1, none⟩ = some (.slice a bs.length cap) := c_e x0 rfl
 have HASK := hidE hask
 have B0 := hidE b0
 have X0 := hidE x0
 have H := hidE h
 have H2 := hidE h2
 have HW0 := hidE hW0
 clear hask b0 x0 h h2 hN
 obtain ⟨E, hE⟩ : ∃ E, askedA N bs wt = E := ⟨_, rfl⟩
 rw [hE] at HASK hrun ⊢
 have HE := hidE hE
 clear hE
 by_cases z : E = 0
 ·subst z
  have hrn := hrun rfl
  obtain ⟨n, m1, m2, m3, m4, m5, m6, m7⟩ := asked0_parts HE.out
  subst m1
  have HRN := hidE (show BestRun n bs (wt.map (-·)) f R from hrn)
  have HV := hidE m5
  have HWL := hidE m6
  have HWB := hidE m7
  clear hrun hrn m5 m6 m7
  go_enter Tryz.func25, Tryz.ntmps25
  go_upto_region 1 with fail
  rw [← hW0]
  clear hW0
  go_wp2_with fail
  refine HASK.out.mono ?_
  rintro e w1 ⟨rfl, hb1⟩
  have B1 := hidE (B0.out.trans (hb1.mono B0.out.size))
  have x1 := blk_below hb1 l0 X0.out
  have d0 : w1.cell? ⟨w.heap.size, 0, none⟩ = some (.int .i64 (n : Int)) := c_e x1 rfl
  have d1 : w1.cell? ⟨w.heap.size, 1, none⟩ = some (.slice a bs.length cap) := c_e x1 rfl
  have HB10 := hidE hb1
  clear hb1 c0 c1 x1 HASK
  have hwl := HWL.out
  have HOPP := hidE (fun (W : World) (hW : IntsAt W a2 wt) => opposite_any W a2 cap2 wt (by omega) hW HWB.out)
  have HBW := hidE (fun (W : World) (A : Option Addr) (hb : Below w.heap.size w W) (hA : IntsAt W A (wt.map (-·))) => best_any W n a cap bs A n (wt.map (-·)) f R m2 m3 (by omega) HV.out (H.out.below hb (Nat.le_refl _)) hA (by rw [List.length_map]; exact hwl)
   (fun v hv => by obtain ⟨x, hx, rfl⟩ := List.mem_map.1 hv; have := HWB.out x hx; omega) HRN.out)
  have hnb := hidE (fun r (hr : R = some r) => best_n_bd m2 m3 HV.out HRN.out (by rw [List.length_map]; exact hwl) (fun v hv => by obtain ⟨x, hx, rfl⟩ := List.mem_map.1 hv; have := HWB.out x hx; omega) r hr)
  obtain ⟨L, hL⟩ : ∃ L, wt.length = L := ⟨_, rfl⟩
  rw [hL] at hwl HOPP ⊢
  subst hwl
  go_upto_region 4 with fail
  have l1 : w.heap.size < w1.heap.size := by have := B0.out.size; have := lt_of_block X0.out; have := HB10.out.size; omega
  refine wp_region_F (S := fun V => V.cell? ⟨w.heap.size, 0, none⟩ = some (.int .i64 (L : Int)) ∧ V.cell? ⟨w.heap.size, 1, none⟩ = some (.slice a bs.length cap)) (last := 100) (by kernel_rfl) ?_
  have hS0 : w1.drew.cell? ⟨w.heap.size, 0, none⟩ = some (.int .i64 (L : Int)) ∧ w1.drew.cell? ⟨w.heap.size, 1, none⟩ = some (.slice a bs.length cap) := ⟨d0, d1⟩
  refine t_n 0 20 (.agg #[.int .i64 (L : Int), .slice a bs.length cap]) rfl (by kernel_rfl) rfl (fun _ _ _ h => h) (fun V hV => ?_) hS0 ?_
  ·obtain ⟨q0, q1⟩ := hV
   simp [go_sem, execOp, q0, q1]
  try simp only [s_a, s_b, s_c]
  refine t_n 1 21 (.slice a2 L cap2) rfl (by kernel_rfl) rfl (fun _ _ _ h => h) (fun V hV => ?_) hS0 ?_
  ·obtain ⟨q0, q1⟩ := hV
   simp [go_sem, execOp]
  try simp only [s_a, s_b, s_c]
  refine wpAnyF_step 2 rfl (by kernel_rfl) (fun K hK => ?_)
  go_simp
  go_at_call 79
  refine (HOPP.out _ (H2.out.below B1.out.drew (Nat.le_refl _))).mono ?_
  rintro e w2 ⟨rfl, ho2, hb2⟩
  go_wp2_with fail
  have hS1 : w2.cell? ⟨w.heap.size, 0, none⟩ = some (.int .i64 (L : Int)) ∧ w2.cell? ⟨w.heap.size, 1, none⟩ = some (.slice a bs.length cap) := ⟨(hb2.cell (p := ⟨w.heap.size, 0, none⟩) l1).trans d0, (hb2.cell (p := ⟨w.heap.size, 1, none⟩) l1).trans d1⟩
  refine hK.out _ _ (.inr hS1) ?_
  clear hK K
  try simp only [Act.put, s_a, s_b, s_c]
  have l2 : w.heap.size < w2.heap.size := Nat.lt_of_lt_of_le l1 hb2.size
  have BB2 := hidE (B1.out.trans ((show Below w1.heap.size w1 w2 from (Below.refl _ _).drew.trans hb2).mono B1.out.size))
  have hints : IntsAt w2 (some ⟨w1.heap.size, 0, none⟩) (wt.map (-·)) := ints_row ho2
  have H75 := hidE (HBW.out w2 _ BB2.out hints)
  clear hb2 ho2 hints HOPP HBW hS0
  refine wpAnyF_step 3 rfl (by kernel_rfl) (fun K hK => ?_)
  go_simp
  go_at_call 75
  refine H75.out.mono ?_
  rintro e w3 ⟨hp, hb3⟩
  have BB := hidE (BB2.out.trans (hb3.mono BB2.out.size))
  have hS2 : w3.cell? ⟨w.heap.size, 0, none⟩ = some (.int .i64 (L : Int)) ∧ w3.cell? ⟨w.heap.size, 1, none⟩ = some (.slice a bs.length cap) := ⟨(hb3.cell (p := ⟨w.heap.size, 0, none⟩) l2).trans hS1.1, (hb3.cell (p := ⟨w.heap.size, 1, none⟩) l2).trans hS1.2⟩
  have hs23 := hb3.size
  have hbs := BB2.out.size
  clear hb3 hS1 H75 d0 d1
  cases hR : R with
  | none =>
    rw [hR] at hp
    obtain rfl := hp
    go_wp2_with fail
    refine hK.out _ _ (.inr hS2) ?_
    clear hK K
    try simp only [Act.put, s_a, s_b, s_c]
    refine t_n 4 19 (.tuple #[.int .i64 0, .slice none 0 0, .slice none 0 0, .int .i64 50]) rfl (by kernel_rfl) rfl (fun _ _ _ h => h) (fun V hV => ?_) hS2 ?_
    ·obtain ⟨q0, q1⟩ := hV
     simp [go_sem, execOp]
    try simp only [s_a, s_b, s_c]
    refine t_n 5 24 (.int .i64 0) rfl (by kernel_rfl) rfl (fun _ _ _ h => h) (fun V hV => ?_) hS2 ?_
    ·obtain ⟨q0, q1⟩ := hV
     simp [go_sem, execOp]
    try simp only [s_a, s_b, s_c]
    refine t_n 6 25 (.slice none 0 0) rfl (by kernel_rfl) rfl (fun _ _ _ h => h) (fun V hV => ?_) hS2 ?_
    ·obtain ⟨q0, q1⟩ := hV
     simp [go_sem, execOp]
    try simp only [s_a, s_b, s_c]
    refine t_n 7 26 (.slice none 0 0) rfl (by kernel_rfl) rfl (fun _ _ _ h => h) (fun V hV => ?_) hS2 ?_
    ·obtain ⟨q0, q1⟩ := hV
     simp [go_sem, execOp]
    try simp only [s_a, s_b, s_c]
    refine t_n 8 27 (.int .i64 50) rfl (by kernel_rfl) rfl (fun _ _ _ h => h) (fun V hV => ?_) hS2 ?_
    ·obtain ⟨q0, q1⟩ := hV
     simp [go_sem, execOp]
    try simp only [s_a, s_b, s_c]
    refine t_n 9 9 (.int .i64 0) rfl (by kernel_rfl) rfl (fun _ _ _ h => h) (fun V hV => ?_) hS2 ?_
    ·obtain ⟨q0, q1⟩ := hV
     simp [go_sem, execOp]
    try simp only [s_a, s_b, s_c]
    refine t_n 10 10 (.slice none 0 0) rfl (by kernel_rfl) rfl (fun _ _ _ h => h) (fun V hV => ?_) hS2 ?_
    ·obtain ⟨q0, q1⟩ := hV
     simp [go_sem, execOp]
    try simp only [s_a, s_b, s_c]
    refine t_n 11 11 (.slice none 0 0) rfl (by kernel_rfl) rfl (fun _ _ _ h => h) (fun V hV => ?_) hS2 ?_
    ·obtain ⟨q0, q1⟩ := hV
     simp [go_sem, execOp]
    try simp only [s_a, s_b, s_c]
    refine t_n 12 12 (.int .i64 50) rfl (by kernel_rfl) rfl (fun _ _ _ h => h) (fun V hV => ?_) hS2 ?_
    ·obtain ⟨q0, q1⟩ := hV
     simp [go_sem, execOp]
    try simp only [s_a, s_b, s_c]
    refine wpAnyF_done (by kernel_rfl) ?_ _
    go_wp2_with fail
    refine bodyPost_ret (v := .tuple #[.int .i64 0, .slice none 0 0, .slice none 0 0, .int .i64 50]) (by simp [results, Tryz.results25, go_sem]) rfl ⟨by first | rfl | (rw [hR]; rfl), BB.out⟩
  | some r =>
    rw [hR] at hp
    obtain ⟨gy, gF, rfl, p1, p2, p3, p4, p5⟩ := hp
    have hrb := hnb.out r hR
    have wneg : IntKind.i64.wrap (-r.n) = -r.n := IntWalk.i64_in _ (by omega)
    have P4 := hidE p4
    have P5 := hidE p5
    clear p4 p5
    go_wp2_with fail
    refine hK.out _ _ (.inr hS2) ?_
    clear hK K
    try simp only [Act.put, s_a, s_b, s_c]
    refine t_n 4 19 (.tuple #[.int .i64 r.n, .slice (some ⟨gy, 0, none⟩) r.y.length r.y.length, .slice (some ⟨gF, 0, none⟩) r.flow.length r.flow.length, .int .i64 0]) rfl (by kernel_rfl) rfl (fun _ _ _ h => h) (fun V hV => ?_) hS2 ?_
    ·obtain ⟨q0, q1⟩ := hV
     simp [go_sem, execOp]
    try simp only [s_a, s_b, s_c]
    refine t_n 5 24 (.int .i64 r.n) rfl (by kernel_rfl) rfl (fun _ _ _ h => h) (fun V hV => ?_) hS2 ?_
    ·obtain ⟨q0, q1⟩ := hV
     simp [go_sem, execOp]
    try simp only [s_a, s_b, s_c]
    refine t_n 6 25 (.slice (some ⟨gy, 0, none⟩) r.y.length r.y.length) rfl (by kernel_rfl) rfl (fun _ _ _ h => h) (fun V hV => ?_) hS2 ?_
    ·obtain ⟨q0, q1⟩ := hV
     simp [go_sem, execOp]
    try simp only [s_a, s_b, s_c]
    refine t_n 7 26 (.slice (some ⟨gF, 0, none⟩) r.flow.length r.flow.length) rfl (by kernel_rfl) rfl (fun _ _ _ h => h) (fun V hV => ?_) hS2 ?_
    ·obtain ⟨q0, q1⟩ := hV
     simp [go_sem, execOp]
    try simp only [s_a, s_b, s_c]
    refine t_n 8 27 (.int .i64 0) rfl (by kernel_rfl) rfl (fun _ _ _ h => h) (fun V hV => ?_) hS2 ?_
    ·obtain ⟨q0, q1⟩ := hV
     simp [go_sem, execOp]
    try simp only [s_a, s_b, s_c]
    refine t_n 9 9 (.int .i64 r.n) rfl (by kernel_rfl) rfl (fun _ _ _ h => h) (fun V hV => ?_) hS2 ?_
    ·obtain ⟨q0, q1⟩ := hV
     simp [go_sem, execOp]
    try simp only [s_a, s_b, s_c]
    refine t_n 10 10 (.slice (some ⟨gy, 0, none⟩) r.y.length r.y.length) rfl (by kernel_rfl) rfl (fun _ _ _ h => h) (fun V hV => ?_) hS2 ?_
    ·obtain ⟨q0, q1⟩ := hV
     simp [go_sem, execOp]
    try simp only [s_a, s_b, s_c]
    refine t_n 11 11 (.slice (some ⟨gF, 0, none⟩) r.flow.length r.flow.length) rfl (by kernel_rfl) rfl (fun _ _ _ h => h) (fun V hV => ?_) hS2 ?_
    ·obtain ⟨q0, q1⟩ := hV
     simp [go_sem, execOp]
    try simp only [s_a, s_b, s_c]
    refine t_n 12 12 (.int .i64 0) rfl (by kernel_rfl) rfl (fun _ _ _ h => h) (fun V hV => ?_) hS2 ?_
    ·obtain ⟨q0, q1⟩ := hV
     simp [go_sem, execOp]
    try simp only [s_a, s_b, s_c]
    refine wpAnyF_done (by kernel_rfl) ?_ _
    go_wp2_with fail
    refine bodyPost_ret (v := .tuple #[.int .i64 (-r.n), .slice (some ⟨gy, 0, none⟩) r.y.length r.y.length, .slice (some ⟨gF, 0, none⟩) r.flow.length r.flow.length, .int .i64 0]) (by simp [results, Tryz.results25, go_sem]) rfl ⟨?_, BB.out⟩
    first | exact ⟨gy, gF, rfl, by omega, by omega, p3, P4.out, P5.out⟩ | (rw [hR]; exact ⟨gy, gF, rfl, by omega, by omega, p3, P4.out, P5.out⟩)
 ·have zb : (E != 0) = true := by simpa using z
  clear hrun
  go_enter Tryz.func25, Tryz.ntmps25
  go_upto_region 1 with fail
  rw [← hW0]
  clear hW0
  go_wp2_with fail
  refine HASK.out.mono ?_
  rintro e w1 ⟨rfl, hb1⟩
  have B1 := hidE (B0.out.trans (hb1.mono B0.out.size))
  clear hb1 c0 c1
  go_wp2_with fail
  refine bodyPost_ret (v := .tuple #[.int .i64 0, .slice none 0 0, .slice none 0 0, .int .i64 E]) (by simp [results, Tryz.results25, go_sem]) rfl ⟨?_, B1.out⟩
  unfold LeastPost
  rw [if_pos z]
def usedAt (bs : List Bd) (flow : List Int) (i : Nat) : List Int := if 0 < flow.getD i 0 ∧ 0 < (bnd bs i).rcd then [(bnd bs i).rcd] else []
def usedTo (bs : List Bd) (flow : List Int) (k : Nat) : List Int := (List.range k).flatMap (usedAt bs flow)
theorem usedTo_succ (bs : List Bd) (flow : List Int) (k : Nat) : usedTo bs flow (k + 1) = usedTo bs flow k ++ usedAt bs flow k := by
 unfold usedTo
 rw [List.range_succ, List.flatMap_append]
 simp
theorem usedTo_len (bs : List Bd) (flow : List Int) : ∀ k, (usedTo bs flow k).length ≤ k
 | 0 => by simp [usedTo]
 | k + 1 => by
   have := usedTo_len bs flow k
   rw [usedTo_succ, List.length_append]
   unfold usedAt
   split <;> simp <;> omega
def usedE (N : Int) (bs : List Bd) (flow : List Int) : List Int × Int := if checkP N bs ≠ 0 then ([], checkP N bs) else if flowingB bs.length flow = false then ([], 1) else (Lib.compact (sortP (usedTo bs flow bs.length)), 0)
theorem intsV_flat (l : List Int) : l.flatMap (fun v => [Value.int .i64 v]) = intsV l := by
 induction l with
 | nil => rfl
 | cons x l ih => rw [List.flatMap_cons, ih]; rfl
set_option maxRecDepth 100000 in
set_option maxHeartbeats 4000000 in
theorem recordsA_any (w : World) (N : Int) (a : Option Addr) (cap : Nat) (bs : List Bd) (a2 : Option Addr) (cap2 : Nat) (flow : List Int) (hN : i64ok N) (hl : bs.length ≤ 9223372036854775807) (hl2 : flow.length ≤ 9223372036854775807) (h : BoundsAt w a bs) (h2 : IntsAt w a2 flow) :
 Calls Tryz.prog 61 #[.agg #[.int .i64 N, .slice a bs.length cap], .slice a2 flow.length cap2] w fun e w' => PathPost (usedE N bs flow).1 (usedE N bs flow).2 w.heap.size e w' ∧ Below w.heap.size w w' := by
 have B0 := hidE (show Below w.heap.size w (w.alloc (.cells #[.int .i64 N, .slice a bs.length cap] 24)) from (Below.refl _ _).alloc (Nat.le_refl _) _)
 have hch := check_any (w.alloc (.cells #[.int .i64 N, .slice a bs.length cap] 24)) N a cap bs hN hl (h.alloc _)
 obtain ⟨P1, hP1⟩ : ∃ z, (usedE N bs flow).1 = z := ⟨_, rfl⟩
 obtain ⟨P2, hP2⟩ : ∃ z, (usedE N bs flow).2 = z := ⟨_, rfl⟩
 rw [hP1, hP2]
 unfold usedE at hP1 hP2
 have H := hidE h
 have H2 := hidE h2
 have HFL := hidE (fun (W : World) hy => flowing_any W N a bs.length cap a2 cap2 flow hl2 hy)
 have HX0 := hidE (heap_alloc_new w (.cells #[.int .i64 N, .slice a bs.length cap] 24))
 by_cases z : checkP N bs = 0
 ·rw [if_neg (by omega)] at hP1 hP2
  obtain ⟨R, rfl, hR1, hR2, hbl, hv⟩ := allOk_of z
  rw [z] at hch
  have HCH := hidE hch
  clear hch h h2 hN z hv
  cases hq : flowingB bs.length flow with
  | false =>
    rw [if_pos hq] at hP1 hP2
    obtain rfl : [] = P1 := hP1
    obtain rfl : (1 : Int) = P2 := hP2
    rw [hq] at HFL
    clear hq
    go_enter Tryz.func61, Tryz.ntmps61
    go_wp2_with fail
    refine HCH.out.mono ?_
    rintro e w1 ⟨rfl, hb1⟩
    have x1 := blk_below hb1 (by simp) HX0.out
    have c0 : w1.cell? ⟨w.heap.size, 0, none⟩ = some (.int .i64 (R : Int)) := c_e x1 rfl
    have c1 : w1.cell? ⟨w.heap.size, 1, none⟩ = some (.slice a bs.length cap) := c_e x1 rfl
    have B1 := hidE (B0.out.trans (hb1.mono B0.out.size))
    clear x1 hb1
    go_wp2_with fail
    refine (HFL.out _ (H2.out.below B1.out (Nat.le_refl _))).mono ?_
    rintro e w2 ⟨rfl, hb2⟩
    have B2 := hidE (B1.out.trans (hb2.mono B1.out.size))
    clear hb2
    go_wp2_with fail
    go_ret2
    exact ⟨⟨_, rfl, World.ownsRow_nil _ _ _ _⟩, B2.out⟩
  | true =>
    rw [if_neg (by simp [hq])] at hP1 hP2
    obtain rfl : (0 : Int) = P2 := hP2
    obtain ⟨hfl, hfb⟩ := flowing_bd hq
    rw [hq] at HFL
    have HFE := hidE hfl
    have HP := hidE (show Lib.compact (sortP (usedTo bs flow bs.length)) = P1 from hP1)
    clear hq hfl hfb hP1
    go_enter Tryz.func61, Tryz.ntmps61
    go_wp2_with fail
    refine HCH.out.mono ?_
    rintro e w1 ⟨rfl, hb1⟩
    have x1 := blk_below hb1 (by simp) HX0.out
    have c0 : w1.cell? ⟨w.heap.size, 0, none⟩ = some (.int .i64 (R : Int)) := c_e x1 rfl
    have c1 : w1.cell? ⟨w.heap.size, 1, none⟩ = some (.slice a bs.length cap) := c_e x1 rfl
    have B1 := hidE (B0.out.trans (hb1.mono B0.out.size))
    have X1 := hidE x1
    have l1 := lt_of_block x1
    clear x1 hb1
    go_wp2_with fail
    refine (HFL.out _ (H2.out.below B1.out (Nat.le_refl _))).mono ?_
    rintro e w2 ⟨rfl, hb2⟩
    have x2 := blk_below hb2 l1 X1.out
    have B2 := hidE (B1.out.trans (hb2.mono B1.out.size))
    have X2 := hidE x2
    have l2 := lt_of_block x2
    clear x2 hb2 c0 c1
    go_wp2_with fail
    go_loopw [7, 21] (fun v i wr => ∃ k : Nat, k ≤ flow.length ∧ i = .int .i64 k ∧ Hid (wr.ownsRow (w.heap.size + 1) 3 1 v (usedTo bs flow k).length ((usedTo bs flow k).flatMap (fun v => [Value.int .i64 v]))) ∧
     Hid (wr.heap[w.heap.size]? = some (.cells #[.int .i64 (R : Int), .slice a bs.length cap] 24 (0,0))) ∧ Below w.heap.size w wr) (fun _ i _ => flow.length - (intOf i).toNat)
    case atStart => exact ⟨0, Nat.zero_le _, rfl, hidE (World.ownsRow_nil _ _ _ _), hidE X2.out, B2.out⟩
    case round =>
     obtain ⟨k, hk, rfl, hown, HX, hb⟩ := hrel
     by_cases hlt : k < flow.length
     ·have hkb : k < bs.length := by rw [← HFE.out]; exact hlt
      obtain ⟨b, off, rfl, hbl2, hc⟩ := H2.out.at hlt
      rw [← hb.cell hbl2, ← getD_get flow 0 hlt] at hc
      obtain ⟨bb, ob, rfl, hbb, hcs⟩ := H.out.at hkb
      obtain ⟨_, _, _, d3⟩ := hcs.below hb hbb
      rw [← bnd_get hkb] at d3
      have c1 : wr.cell? ⟨w.heap.size, 1, none⟩ = some (.slice (some ⟨bb, ob, none⟩) bs.length cap) := c_e HX.out rfl
      have HS := hidE (usedTo_succ bs flow k)
      have HL := hidE (usedTo_len bs flow k)
      have HUA : Hid (usedAt bs flow k = if 0 < flow.getD k 0 ∧ 0 < (bnd bs k).rcd then [(bnd bs k).rcd] else []) := hidE rfl
      obtain ⟨f, hf⟩ : ∃ f, flow.getD k 0 = f := ⟨_, rfl⟩
      obtain ⟨r, hr⟩ : ∃ r, (bnd bs k).rcd = r := ⟨_, rfl⟩
      rw [hf] at hc HUA
      rw [hr] at d3 HUA
      have BB := hidE hb
      have lx := lt_of_block HX.out
      clear hf hr hcs hb
      by_cases hf : 0 < f
      ·have df : decide (f > 0) = true := by simpa using hf
       by_cases hr : 0 < r
       ·have dr : decide (r > 0) = true := by simpa using hr
        have HU : Hid (usedAt bs flow k = [r]) := hidE (by rw [HUA.out, if_pos ⟨hf, hr⟩])
        have own3 := hown.out.alloc (.cells #[.int .i64 r] 3)
        obtain ⟨v', wa, hrun, hown', hbl3, hkeep⟩ := append_rec (w := wr.alloc (.cells #[.int .i64 r] 3)) (tS := 25) Tryz.underlying25 Tryz.info3' rfl (by decide) (by decide) own3 (b := wr.heap.size) (news := [.int .i64 r]) rfl (heap_alloc_new _ _) (by intro u hu; simp at hu; subst hu; rfl) (by have := HL.out; omega) (by simp; omega) 25
        have HRUN := hidE hrun
        have HOW := hidE hown'
        have HX3 := hidE (blk_below hbl3 (by omega) ((Below.heap_alloc _ _ _ lx).trans HX.out))
        have HB3 := hidE ((BB.out.alloc BB.out.size _).trans (hbl3.mono (by omega)))
        clear hrun hown' hbl3 hkeep own3 hf hr
        go_wp2_with (at_builtin; refine wpList_op_append rfl (s := .tmp 37) (x := .tmp 44) (t := 25) rfl rfl rfl HRUN.out ?_)
        go_roundw
        case rel => exact ⟨k + 1, by omega, by go_num, hidE (by rw [HS.out, HU.out, List.length_append, List.flatMap_append]; exact HOW.out), HX3, HB3.out⟩
        case measure => simp [intOf]; omega
       ·have dr : decide (r > 0) = false := by simpa using hr
        have HU : Hid (usedAt bs flow k = []) := hidE (by rw [HUA.out, if_neg (fun h => hr h.2)])
        clear hf hr
        go_wp2_with fail
        go_roundw
        case rel => exact ⟨k + 1, by omega, by go_num, hidE (by rw [HS.out, HU.out, List.append_nil]; exact hown.out), HX, BB.out⟩
        case measure => simp [intOf]; omega
      ·have df : decide (f > 0) = false := by simpa using hf
       have HU : Hid (usedAt bs flow k = []) := hidE (by rw [HUA.out, if_neg (fun h => hf h.1)])
       clear hf
       go_wp2_with fail
       go_roundw
       case rel => exact ⟨k + 1, by omega, by go_num, hidE (by rw [HS.out, HU.out, List.append_nil]; exact hown.out), HX, BB.out⟩
       case measure => simp [intOf]; omega
     ·have hkk : k = bs.length := by rw [← HFE.out]; omega
      subst hkk
      have hrl := usedTo_len bs flow bs.length
      obtain ⟨U, hU⟩ : ∃ U, usedTo bs flow bs.length = U := ⟨_, rfl⟩
      rw [hU] at hown HP hrl
      rw [intsV_flat] at hown
      have hsl := sortP_length U
      have hs := sort_own wr (w.heap.size + 1) u7 U (by omega) hown.out (lt_of_block HX.out)
      have HS := hidE hs
      have BB := hidE hb
      clear hs hU hb
      go_wp2_with fail
      refine HS.out.mono ?_
      rintro e w3 ⟨rfl, ho1, hb1⟩
      rw [← hsl] at ho1
      have hc := compact_own w3 (w.heap.size + 1) u7 (sortP U) (by omega) ho1
      rw [HP.out] at hc
      have HC := hidE hc
      have B3 := hidE (BB.out.trans (hb1.mono (by omega)))
      clear hc ho1 hb1 hsl
      go_wp2_with fail
      refine HC.out.mono ?_
      rintro e w4 ⟨v', rfl, ho2, hb2⟩
      have B4 := hidE (B3.out.trans (hb2.mono (by omega)))
      have HO := hidE (ownsRow_base ho2 (show w.heap.size ≤ w.heap.size + 1 by omega))
      clear ho2 hb2
      go_wp2_with fail
      go_ret2
      exact ⟨⟨_, rfl, HO.out⟩, B4.out⟩
 ·rw [if_pos z] at hP1 hP2
  obtain rfl : [] = P1 := hP1
  rw [show checkP N bs = P2 from hP2] at hch z
  have zb : (P2 != 0) = true := by simpa using z
  have HCH := hidE hch
  clear hch z hP2 h h2
  go_enter Tryz.func61, Tryz.ntmps61
  go_wp2_with fail
  refine HCH.out.mono ?_
  rintro e w1 ⟨rfl, hb1⟩
  have B1 := hidE (B0.out.trans (hb1.mono B0.out.size))
  clear hb1
  go_wp2_with fail
  go_ret2
  exact ⟨⟨_, rfl, World.ownsRow_nil _ _ _ _⟩, B1.out⟩
def wS : List Int := [0, -10, -30, -20, 10, 30, 20]
def yS : List Int := [0, 0, 0, 0, 10, 20, 20]
theorem wS_eq : weightsE fldS 0 = (wS, 0) := by decide +kernel
theorem aS_eq : area2E fldS 0 [0, 1, 2, 3, 11, 12, 18] = (700, 0) := by decide +kernel
theorem askS_eq : askedA 7 sysS wS = 0 := by decide +kernel
theorem westS_eq : westE fldS yS 0 5 = ((125, 1), 0) := by decide +kernel
theorem cutS_eq : cutE fldS yS 0 126 = (5, 0) := by decide +kernel
def flG : List Int := [0, 0, 10, 0, 0, 0, 30, 0, 0, 0, 20, 0]
theorem gS_eq : bestRunB 7 sysS wS 50 = some (some ⟨1200, [0, 0, 0, 0, 20, 20, 20], flG⟩) := by kernel_rfl
theorem lS_eq : bestRunB 7 sysS (wS.map (-·)) 50 = some (some ⟨-600, [0, 0, 0, 0, 10, 10, 10], [0, 0, 0, 10, 0, 0, 0, 30, 0, 0, 0, 20]⟩) := by kernel_rfl
theorem remOrd_is {r : List Int} {l : List Nat} (hp : l.Perm (List.range r.length)) (hs : l.Pairwise fun a b => remLe r a b = true) : remOrd r = l :=
 List.Perm.eq_of_pairwise (le := fun a b => remLe r a b = true) (fun _ _ _ _ h1 h2 => remLe_anti _ h1 h2) (remOrd_sorted _) hs ((remOrd_perm r).trans hp.symm)
theorem ord3 (a : Int) : remOrd [a, a, a] = [0, 1, 2] := remOrd_is (by simp [List.range_succ]) (by simp [remLe])
theorem sh10 : sharesP 10 [1, 1, 1] = [4, 3, 3] := by
 unfold sharesP
 rw [show shRem 10 [1, 1, 1] = [1, 1, 1] by decide +kernel, ord3]
 decide +kernel
theorem shS_eq : sharesE 10 [1, 1, 1] = ([4, 3, 3], 0) := by unfold sharesE; rw [sh10]; decide +kernel
theorem stS_eq : stakesE 110 100 [1, 1, 1] = ([106, 103, 100], 0) := by
 unfold stakesE
 rw [show sharesP (max (110 - 100) (100 - 110)) [1, 1, 1] = [4, 3, 3] from sh10]
 decide +kernel
theorem sortP_is {l m : List Int} (hp : m.Perm l) (hs : m.Pairwise (· ≤ ·)) : sortP l = m :=
 List.Perm.eq_of_pairwise (le := fun a b => a ≤ b) (fun _ _ _ _ h1 h2 => Int.le_antisymm h1 h2) (sortP_le l) hs ((List.mergeSort_perm _ _).trans hp.symm)
theorem rS_eq : usedE 7 sysS flG = ([2], 0) := by
 have h : sortP (usedTo sysS flG sysS.length) = [2, 2, 2] := by
  rw [show usedTo sysS flG sysS.length = [2, 2, 2] by decide +kernel]
  exact sortP_is (List.Perm.refl _) (by simp)
 unfold usedE
 rw [h]
 decide +kernel
theorem sh4 : sharesP 4 [0, 6, 4] = [0, 2, 2] := by
 unfold sharesP
 rw [show shRem 4 [0, 6, 4] = [0, 4, 6] by decide +kernel, show remOrd [0, 4, 6] = [2, 1, 0] from remOrd_is (by decide) (by simp [remLe])]
 decide +kernel
theorem raS_eq : rankedE 20 [6, 6, 4] [1, 2, 2] = ([6, 8, 6], 0) := by
 rw [ranked_ref]
 unfold ranked5E
 rw [show orderP [1, 2, 2] = [1, 2] by unfold orderP; rw [sortP_is (List.Perm.refl _) (by simp)]; decide +kernel, if_neg (by decide +kernel), if_neg (by decide +kernel)]
 have h : ref5Go [6, 6, 4] [1, 2, 2] [1, 2] (-1) (rankStart 20 [6, 6, 4]) = (out2P [6, 6, 4] (sharesP 4 [0, 6, 4]), 0) := by kernel_rfl
 rw [h, sh4]
 decide +kernel
end Go.Proofs.YthjmkmjojlfejaaGreat
