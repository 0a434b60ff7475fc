/- Walks: the reference's without and Blame. -/
import Derived.Test.YtejbpoclfjkllaaCYd
import Derived.Test.YtejbpoclfjkllaaCY8
namespace Go.Proofs.Ytejbpoclfjkllaa
open Go Go.RowKit Go.Shelf
attribute [local go_sem] Oper.semAt_some

/-- What stands between two rounds of the reference's without. -/
structure WoSt (w W : World) (N : Int) (a : Option Addr) (len cap : Nat) (v : Value) (l : List Bd) : Prop where
  x0 : W.heap[w.heap.size]? = some (.cells #[.int .i64 N, .slice a len cap] 24 (0,0))
  x4 : W.heap[w.heap.size + 1]? = some (.cells #[.int .i64 0, .slice none 0 0] 24 (0,0))
  x5 : W.heap[w.heap.size + 2]? = some (.cells #[.int .i64 N, v] 24 (0,0))
  own : BoundsOut l (w.heap.size + 3) v W
  bl : Below w.heap.size w W
theorem withoutP_snoc {bs : List Bd} {l : List Int} {k : Nat} (hk : k < bs.length) : withoutP (bs.take (k + 1)) l = withoutP (bs.take k) l ++ (if l.contains bs[k].rcd = true then [] else [bs[k]]) := by
  unfold withoutP
  rw [List.take_succ_eq_append_getElem hk, List.filter_append]
  congr 1
  by_cases h : l.contains bs[k].rcd = true
  · rw [if_pos h, List.filter_cons, if_neg (by rw [h]; decide)]; rfl
  · rw [if_neg h, List.filter_cons, if_pos (by simpa using h)]; rfl

set_option maxRecDepth 100000 in
set_option maxHeartbeats 2000000 in
theorem refwithout_any (w : World) (N : Int) (a : Option Addr) (cap : Nat) (bs : List Bd) (a2 : Option Addr) (cap2 : Nat) (l : List Int) (hl : bs.length ≤ 4000) (h : BoundsAt w a bs) (hl2 : l.length ≤ 9223372036854775807) (h2 : IntsAt w a2 l) :
    Calls Try.prog 86 #[.agg #[.int .i64 N, .slice a bs.length cap], .slice a2 l.length cap2] w fun e w' => ∃ v, e = .returned (.agg #[.int .i64 N, v]) ∧ BoundsOut (withoutP bs l) w.heap.size v w' ∧ Below w.heap.size w w' := by
  obtain ⟨W0, hW0⟩ : ∃ W0, W0 = ((w.alloc (.cells #[.int .i64 N, .slice a bs.length cap] 24)).alloc (.cells #[.int .i64 0, .slice none 0 0] 24)).alloc (.cells #[.int .i64 N, .slice none 0 0] 24) := ⟨_, rfl⟩
  have st0 : WoSt w W0 N a bs.length cap (.slice none 0 0) [] := by
    rw [hW0]
    refine ⟨?_, ?_, ?_, World.ownsRow_nil _ _ _ _, (((Below.refl _ _).alloc (Nat.le_refl _) _).alloc (by simp) _).alloc (by simp; omega) _⟩
    · rw [Below.heap_alloc _ _ _ (by simp; omega), Below.heap_alloc _ _ _ (by simp), heap_alloc_new]
    · rw [Below.heap_alloc _ _ _ (by simp), heap_alloc_at _ _ _ (by simp)]
    · rw [heap_alloc_at _ _ _ (by simp)]
  have ST0 := hidE st0
  have HW0 := hidE hW0
  have H := hidE h
  have H2 := hidE h2
  clear st0 hW0 h h2
  go_enter Try.func86, Try.ntmps86
  go_upto_region 2 with fail
  first
    | rw [← HW0.out]
    | skip
  go_wp2_with fail
  go_loopw [6] (fun i wr => ∃ (k : Nat) (v : Value), k ≤ bs.length ∧ i = .int .i64 k ∧ Hid (WoSt w wr N a bs.length cap v (withoutP (bs.take k) l))) (fun i _ => bs.length - (intOf i).toNat)
  case atStart => exact ⟨0, _, by omega, rfl, by first | exact ST0 | (rw [← HW0.out]; exact ST0)⟩
  case round =>
    obtain ⟨k, v, hk, rfl, hst⟩ := hrel
    have e1 : wr.cell? ⟨w.heap.size, 1, none⟩ = some (.slice a bs.length cap) := by rw [cell_of_row _ _ _ _ _ _ hst.out.x0]; rfl
    have l0 : w.heap.size < wr.heap.size := lt_of_block hst.out.x0
    by_cases hlt : k < bs.length
    · obtain ⟨b, off, rfl, hbl, hcs⟩ := H.out.at hlt
      obtain ⟨c0, c1, c2, c3⟩ := hcs.below hst.out.bl hbl
      have hbw : b < w.heap.size + 3 := by omega
      have hsn := withoutP_snoc (l := l) hlt
      have hlen : (withoutP (bs.take k) l).length ≤ 4000 := Nat.le_trans (withoutP_len _ _) (by simp; omega)
      obtain ⟨x, hx⟩ : ∃ x, bs[k] = x := ⟨_, rfl⟩
      rw [hx] at c0 c1 c2 c3 hsn
      obtain ⟨xs, xd, xm, xr⟩ := x
      simp only at c0 c1 c2 c3 hsn
      obtain ⟨q, hq⟩ : ∃ q, l.contains xr = q := ⟨_, rfl⟩
      have hhas := has_any wr a2 cap2 l xr hl2 (H2.out.below hst.out.bl (Nat.le_refl _))
      rw [hq] at hhas hsn
      have HHAS := hidE hhas
      have HSN := hidE hsn
      clear hhas hsn hq hx hcs
      cases q with
      | true =>
        go_wp2_with (go_at_call 134; refine HHAS.out.mono ?_; rintro e w' ⟨rfl, rfl⟩)
        go_roundw
        case rel => exact ⟨k + 1, v, by omega, by go_num, hidE (by rw [show withoutP (bs.take (k + 1)) l = withoutP (bs.take k) l by rw [HSN.out]; simp]; exact hst.out)⟩
        case measure => simp [intOf]; omega
      | false =>
        have d1 : wr.cell? ⟨w.heap.size + 1 + 1, 1, none⟩ = some v := by rw [cell_of_row _ _ _ _ _ _ hst.out.x5]; rfl
        have l5 : w.heap.size + 1 + 1 < wr.heap.size := lt_of_block hst.out.x5
        have kI : (k : Int) < (bs.length : Int) := by omega
        obtain ⟨v2, W2, hr2, ho2, hb2⟩ := append_bounds (wr.drew.alloc (.cells #[.int .i64 xs, .int .i64 xd, .int .i64 xm, .int .i64 xr] 44)) (w.heap.size + 3) v (withoutP (bs.take k) l) (World.ownsRow.alloc (w := wr.drew) hst.out.own _) (some ⟨wr.heap.size, 0, none⟩) 1 [⟨xs, xd, xm, xr⟩]
          (bounds_one (b := ⟨xs, xd, xm, xr⟩) (heap_alloc_new wr.drew _)) (by omega) (by simp) (by simp; omega) 22
        obtain ⟨o2, cp2, hv2, _⟩ := boundsAt_of_out (l := withoutP (bs.take k) l ++ [⟨xs, xd, xm, xr⟩]) (by simpa [BoundsOut] using ho2)
        obtain ⟨nn2, hn2⟩ : ∃ n, (withoutP (bs.take k) l ++ [(⟨xs, xd, xm, xr⟩ : Bd)]).length = n := ⟨_, rfl⟩
        rw [hn2] at hv2
        subst hv2
        clear hn2
        have HR2 := hidE hr2
        have HO2 := hidE ho2
        have HB2 := hidE hb2
        clear hr2 ho2 hb2
        obtain ⟨wq, rfl⟩ : ∃ x : World, x = wr := ⟨wr, rfl⟩
        go_upto_region 7 with (go_at_call 134; refine HHAS.out.mono ?_; rintro e w' ⟨rfl, rfl⟩)
        refine wp_region_F (S := fun V => V.cell? ⟨w.heap.size + 1 + 1, 1, none⟩ = some v ∧ V.cell? ⟨w.heap.size, 1, none⟩ = some (.slice (some ⟨b, off, none⟩) bs.length cap) ∧ V.cell? ⟨b, off + k * 4, none⟩ = some (.int .i64 xs) ∧ V.cell? ⟨b, off + k * 4 + 1, none⟩ = some (.int .i64 xd) ∧ V.cell? ⟨b, off + k * 4 + 1 + 1, none⟩ = some (.int .i64 xm) ∧ V.cell? ⟨b, off + k * 4 + 1 + 1 + 1, none⟩ = some (.int .i64 xr)) (last := 10) (by kernel_rfl) ?_
        have hS0 : wq.drew.cell? ⟨w.heap.size + 1 + 1, 1, none⟩ = some v ∧ wq.drew.cell? ⟨w.heap.size, 1, none⟩ = some (.slice (some ⟨b, off, none⟩) bs.length cap) ∧ wq.drew.cell? ⟨b, off + k * 4, none⟩ = some (.int .i64 xs) ∧ wq.drew.cell? ⟨b, off + k * 4 + 1, none⟩ = some (.int .i64 xd) ∧ wq.drew.cell? ⟨b, off + k * 4 + 1 + 1, none⟩ = some (.int .i64 xm) ∧ wq.drew.cell? ⟨b, off + k * 4 + 1 + 1 + 1, none⟩ = some (.int .i64 xr) := ⟨d1, e1, c0, c1, c2, c3⟩
        refine wpAnyF_take (i := 0) (v := (.pointer (some ⟨w.heap.size + 1 + 1, 1, none⟩))) (by kernel_rfl) (by decide) rfl (by kernel_rfl) (by kernel_rfl) (by kernel_rfl) (fun _ _ _ h => h) (.inl ⟨rfl, fun V hV => ?_⟩) hS0 ?_
        · obtain ⟨z0, z1, z2, z3, z4, z5⟩ := hV
          simp [go_sem, execOp]
        simp only [Act.put, List.setIfInBounds_toArray]
        refine wpAnyF_take (i := 1) (v := v) (by kernel_rfl) (by decide) rfl (by kernel_rfl) (by kernel_rfl) (by kernel_rfl) (fun _ _ _ h => h) (.inl ⟨rfl, fun V hV => ?_⟩) hS0 ?_
        · obtain ⟨z0, z1, z2, z3, z4, z5⟩ := hV
          simp [go_sem, execOp, z0]
        simp only [Act.put]
        refine wpAnyF_take (i := 2) (v := (.pointer (some ⟨w.heap.size, 1, none⟩))) (by kernel_rfl) (by decide) rfl (by kernel_rfl) (by kernel_rfl) (by kernel_rfl) (fun _ _ _ h => h) (.inl ⟨rfl, fun V hV => ?_⟩) hS0 ?_
        · obtain ⟨z0, z1, z2, z3, z4, z5⟩ := hV
          simp [go_sem, execOp]
        simp only [Act.put]
        refine wpAnyF_take (i := 3) (v := (.slice (some ⟨b, off, none⟩) bs.length cap)) (by kernel_rfl) (by decide) rfl (by kernel_rfl) (by kernel_rfl) (by kernel_rfl) (fun _ _ _ h => h) (.inl ⟨rfl, fun V hV => ?_⟩) hS0 ?_
        · obtain ⟨z0, z1, z2, z3, z4, z5⟩ := hV
          simp [go_sem, execOp, z1]
        simp only [Act.put]
        refine wpAnyF_take (i := 4) (v := (.int .i64 (k : Int))) (by kernel_rfl) (by decide) rfl (by kernel_rfl) (by kernel_rfl) (by kernel_rfl) (fun _ _ _ h => h) (.inl ⟨rfl, fun V hV => ?_⟩) hS0 ?_
        · obtain ⟨z0, z1, z2, z3, z4, z5⟩ := hV
          simp [go_sem, execOp]
        simp only [Act.put]
        refine wpAnyF_take (i := 5) (v := (.pointer (some ⟨b, off + k * 4, none⟩))) (by kernel_rfl) (by decide) rfl (by kernel_rfl) (by kernel_rfl) (by kernel_rfl) (fun _ _ _ h => h) (.inl ⟨rfl, fun V hV => ?_⟩) hS0 ?_
        · obtain ⟨z0, z1, z2, z3, z4, z5⟩ := hV
          simp [go_sem, execOp, kI]
        simp only [Act.put]
        refine wpAnyF_take (i := 6) (v := (.agg #[.int .i64 xs, .int .i64 xd, .int .i64 xm, .int .i64 xr])) (by kernel_rfl) (by decide) rfl (by kernel_rfl) (by kernel_rfl) (by kernel_rfl) (fun _ _ _ h => h) (.inl ⟨rfl, fun V hV => ?_⟩) hS0 ?_
        · obtain ⟨z0, z1, z2, z3, z4, z5⟩ := hV
          simp [go_sem, execOp, z2, z3, z4, z5]
        simp only [Act.put]
        have ba : Below wq.heap.size wq (wq.drew.alloc (.cells #[.int .i64 xs, .int .i64 xd, .int .i64 xm, .int .i64 xr] 44)) := ((Below.refl _ _).drew).alloc (Nat.le_refl _) _
        have hbq : b < wq.heap.size := by have := hst.out.bl.size; omega
        refine wpAnyF_step 7 rfl (by kernel_rfl) (fun K hK => ?_)
        go_simp
        have k0 := (ba.cell (p := ⟨w.heap.size + 1 + 1, 1, none⟩) l5).trans d1
        have k1 := (ba.cell (p := ⟨w.heap.size, 1, none⟩) l0).trans e1
        have k2 := (ba.cell (p := ⟨b, off + k * 4, none⟩) hbq).trans c0
        have k3 := (ba.cell (p := ⟨b, off + k * 4 + 1, none⟩) hbq).trans c1
        have k4 := (ba.cell (p := ⟨b, off + k * 4 + 1 + 1, none⟩) hbq).trans c2
        have k5 := (ba.cell (p := ⟨b, off + k * 4 + 1 + 1 + 1, none⟩) hbq).trans c3
        refine hK.out _ _ (.inr ⟨k0, k1, k2, k3, k4, k5⟩) ?_
        clear hK K
        try simp only [Act.put, List.setIfInBounds_toArray, List.set_cons_succ, List.set_cons_zero]
        refine wpAnyF_step 8 rfl (by kernel_rfl) (fun K hK => ?_)
        refine step_op_append rfl (s := .tmp 29) (x := .tmp 35) (t := 22) rfl rfl rfl HR2.out ?_
        have n0 := (HB2.out.cell (p := ⟨w.heap.size + 1 + 1, 1, none⟩) (by show w.heap.size + 1 + 1 < w.heap.size + 3; omega)).trans k0
        have n1 := (HB2.out.cell (p := ⟨w.heap.size, 1, none⟩) (by show w.heap.size < w.heap.size + 3; omega)).trans k1
        have n2 := (HB2.out.cell (p := ⟨b, off + k * 4, none⟩) (by exact hbw)).trans k2
        have n3 := (HB2.out.cell (p := ⟨b, off + k * 4 + 1, none⟩) (by exact hbw)).trans k3
        have n4 := (HB2.out.cell (p := ⟨b, off + k * 4 + 1 + 1, none⟩) (by exact hbw)).trans k4
        have n5 := (HB2.out.cell (p := ⟨b, off + k * 4 + 1 + 1 + 1, none⟩) (by exact hbw)).trans k5
        have m0 : W2.heap[w.heap.size]? = some (.cells #[.int .i64 N, .slice (some ⟨b, off, none⟩) bs.length cap] 24 (0,0)) := (HB2.out.block _ (by omega)).trans (blk_below ba l0 hst.out.x0)
        have m4 : W2.heap[w.heap.size + 1]? = some (.cells #[.int .i64 0, .slice none 0 0] 24 (0,0)) := (HB2.out.block _ (by omega)).trans (blk_below ba (by omega) hst.out.x4)
        have m5 : W2.heap[w.heap.size + 2]? = some (.cells #[.int .i64 N, v] 24 (0,0)) := (HB2.out.block _ (by omega)).trans (blk_below ba (by omega) hst.out.x5)
        have bW : Below w.heap.size w W2 := (hst.out.bl.trans (ba.mono hst.out.bl.size)).trans (HB2.out.mono (by omega))
        have n6 : W2.frozen? ⟨w.heap.size + 1 + 1, 1, none⟩ = false := frozen_of_row _ _ _ _ _ m5
        have l5W : w.heap.size + 1 + 1 < W2.heap.size := lt_of_block m5
        have M0 := hidE m0
        have M4 := hidE m4
        have M5 := hidE m5
        have BW := hidE bW
        clear m0 m4 m5 bW ba k0 k1 k2 k3 k4 k5
        refine hK.out _ _ (.inr ⟨n0, n1, n2, n3, n4, n5⟩) ?_
        clear hK K
        try simp only [Act.put, List.setIfInBounds_toArray]
        refine wpAnyF_step 9 rfl (by kernel_rfl) (fun K hK => ?_)
        go_simp
        refine hK.out _ _ (.inr ⟨n0, n1, n2, n3, n4, n5⟩) ?_
        clear hK K
        try simp only [Act.put, List.setIfInBounds_toArray, List.set_cons_succ, List.set_cons_zero]
        refine wpAnyF_step 10 rfl (by kernel_rfl) (fun K hK => ?_)
        go_simp
        refine hK.out _ _ (.inl rfl) ?_
        clear hK K
        refine wpAnyF_done (by kernel_rfl) ?_ _
        go_wp2_with fail
        go_roundw
        case rel =>
          refine ⟨k + 1, .slice o2 nn2 cp2, by omega, by go_num, hidE ⟨?_, ?_, ?_, ?_, BW.out.setCell (by simp; omega) _⟩⟩
          · rw [heap_setCell_other _ _ _ _ (by simp; omega)]; exact M0.out
          · rw [heap_setCell_other _ _ _ _ (by simp)]; exact M4.out
          · exact (heap_setCell_same _ _ _ _ _ _ M5.out).trans rfl
          · rw [show withoutP (bs.take (k + 1)) l = withoutP (bs.take k) l ++ [⟨xs, xd, xm, xr⟩] by rw [HSN.out]; simp]
            exact ownsRow_setCell_below HO2.out (by simp) _
        case measure => simp [intOf]; omega
    · have hall : bs.take k = bs := List.take_of_length_le (by omega)
      rw [hall] at hst
      have f0 : wr.cell? ⟨w.heap.size + 1 + 1, 0, none⟩ = some (.int .i64 N) := by rw [cell_of_row _ _ _ _ _ _ hst.out.x5]; rfl
      have f1 : wr.cell? ⟨w.heap.size + 1 + 1, 1, none⟩ = some v := by rw [cell_of_row _ _ _ _ _ _ hst.out.x5]; rfl
      have g0 : wr.cell? ⟨w.heap.size + 1, 0, none⟩ = some (.int .i64 0) := by rw [cell_of_row _ _ _ _ _ _ hst.out.x4]; rfl
      have g1 : wr.cell? ⟨w.heap.size + 1, 1, none⟩ = some (.slice none 0 0) := by rw [cell_of_row _ _ _ _ _ _ hst.out.x4]; rfl
      have g2 : ∀ i, wr.frozen? ⟨w.heap.size + 1, i, none⟩ = false := fun i => frozen_of_row _ _ _ _ _ hst.out.x4
      obtain ⟨o2, c2, rfl, _⟩ := boundsAt_of_out hst.out.own
      go_wp2_with fail
      refine bodyPost_ret (v := .agg #[.int .i64 N, .slice o2 (withoutP bs l).length c2]) (by simp [results, Try.results86, go_sem, g0, g1]) rfl ⟨_, rfl, ?_, ?_⟩
      · exact ownsRow_base (ownsRow_setCell_below (ownsRow_setCell_below hst.out.own (by simp) _) (by simp) _) (by omega)
      · exact (hst.out.bl.setCell (by simp) _).setCell (by simp) _

set_option maxRecDepth 100000 in
set_option maxHeartbeats 2000000 in
theorem refblame_any (w : World) (N : Int) (a : Option Addr) (cap : Nat) (bs : List Bd) (hN : i64ok N) (hl : bs.length ≤ 9223372036854775807) (h : BoundsAt w a bs) :
    Calls Try.prog 28 #[.agg #[.int .i64 N, .slice a bs.length cap]] w fun e w' => PathPost (blameE N bs).1 (blameE N bs).2 w.heap.size e w' ∧ Below w.heap.size w w' := by
  have b0 : Below w.heap.size w (w.alloc (.cells #[.int .i64 N, .slice a bs.length cap] 24)) := (Below.refl _ _).alloc (Nat.le_refl _) _
  have hck := refcheck_any (w.alloc (.cells #[.int .i64 N, .slice a bs.length cap] 24)) N a cap bs hN hl (h.below b0 (Nat.le_refl _))
  have B0 := hidE b0
  have H := hidE h
  clear b0 h
  by_cases hc : checkP N bs = 0
  · obtain ⟨R, rfl, r0, r1, hlen, hv⟩ := allValid_of hc
    have hkr : keptR R bs = keptP R bs := keptR_eq r1 hv
    have hcon := fun W hb => refconsistent_any W R a cap bs r0 r1 (by omega) hb hv
    have hfine : ∀ r W o n c, n = (withoutP bs [r]).length → BoundsAt W o (withoutP bs [r]) → Calls Try.prog 85 #[.agg #[.int .i64 (R : Int), .slice o n c]] W fun e w' => e = .returned (.bool (blamed R bs r)) ∧ Below W.heap.size W w' := by
      intro r W o n c hn hb
      subst hn
      have hvw : AllValid R (withoutP bs [r]) := fun x hx => hv x (withoutP_mem hx)
      have := refconsistent_any W R o c (withoutP bs [r]) r0 r1 (by have := withoutP_len bs [r]; omega) hb hvw
      rw [keptR_eq r1 hvw] at this
      exact this
    have hbe : blameE R bs = if keptP R bs = true then ([], 0) else (bs.foldl (blStep (blamed R bs)) [], 0) := by
      unfold blameE; rw [if_pos hc, blame_fold]; rfl
    rw [hc] at hck
    rw [hkr] at hcon
    obtain ⟨kp, hkp⟩ : ∃ k, keptP R bs = k := ⟨_, rfl⟩
    rw [hkp] at hcon hbe
    obtain ⟨fine, hfi⟩ : ∃ f, blamed R bs = f := ⟨_, rfl⟩
    rw [hfi] at hfine hbe
    have HCK := hidE hck
    have HCON := hidE hcon
    have HF := hidE hfine
    have HBE := hidE hbe
    clear hck hcon hfine hbe hkp hkr hv hc hN hfi
    cases kp with
    | true =>
      go_enter Try.func28, Try.ntmps28
      go_wp2_with fail
      refine HCK.out.mono ?_
      rintro e w1 ⟨rfl, hb1⟩
      have x1 := blk_below hb1 (by simp) (heap_alloc_new w (.cells #[.int .i64 (R : Int), .slice a bs.length cap] 24))
      have e0 : w1.cell? ⟨w.heap.size, 0, none⟩ = some (.int .i64 (R : Int)) := by rw [cell_of_row _ _ _ _ _ _ x1]; rfl
      have e1 : w1.cell? ⟨w.heap.size, 1, none⟩ = some (.slice a bs.length cap) := by rw [cell_of_row _ _ _ _ _ _ x1]; rfl
      have B1 := hidE (B0.out.trans (hb1.mono B0.out.size))
      clear x1 hb1
      go_wp2_with fail
      refine (HCON.out _ (H.out.below B1.out (Nat.le_refl _))).mono ?_
      rintro e w2 ⟨rfl, hb2⟩
      clear e0 e1
      go_wp2_with fail
      go_ret2
      exact ⟨by rw [HBE.out, if_pos (by trivial)]; exact ⟨_, rfl, World.ownsRow_nil _ _ _ _⟩, B1.out.trans (hb2.mono B1.out.size)⟩
    | false =>
      go_enter Try.func28, Try.ntmps28
      go_wp2_with fail
      refine HCK.out.mono ?_
      rintro e w1 ⟨rfl, hb1⟩
      have x1 := blk_below hb1 (by simp) (heap_alloc_new w (.cells #[.int .i64 (R : Int), .slice a bs.length cap] 24))
      have e0 : w1.cell? ⟨w.heap.size, 0, none⟩ = some (.int .i64 (R : Int)) := by rw [cell_of_row _ _ _ _ _ _ x1]; rfl
      have e1 : w1.cell? ⟨w.heap.size, 1, none⟩ = some (.slice a bs.length cap) := by rw [cell_of_row _ _ _ _ _ _ x1]; rfl
      have B1 := hidE (B0.out.trans (hb1.mono B0.out.size))
      have X1 := hidE x1
      clear x1 hb1
      go_wp2_with fail
      refine (HCON.out _ (H.out.below B1.out (Nat.le_refl _))).mono ?_
      rintro e w2 ⟨rfl, hb2⟩
      have X2 := hidE (blk_below hb2 (lt_of_block X1.out) X1.out)
      have B2 := hidE (B1.out.trans (hb2.mono B1.out.size))
      clear e0 e1 hb2
      go_wp2_with fail
      go_loopw [6, 7] (fun v i wr => ∃ k : Nat, k ≤ bs.length ∧ i = .int .i64 k ∧ Hid (wr.heap[w.heap.size]? = some (.cells #[.int .i64 (R : Int), .slice a bs.length cap] 24 (0,0))) ∧
        Hid (wr.ownsRow w.heap.size 3 1 v ((bs.take k).foldl (blStep fine) []).length (intsV ((bs.take k).foldl (blStep fine) []))) ∧ Hid (Below w.heap.size w wr)) (fun _ i _ => bs.length - (intOf i).toNat)
      case atStart => exact ⟨0, by omega, rfl, X2, hidE (World.ownsRow_nil _ _ _ _), B2⟩
      case round =>
        obtain ⟨k, hk, rfl, hx, hown, hb⟩ := hrel
        have e0 : wr.cell? ⟨w.heap.size, 0, none⟩ = some (.int .i64 (R : Int)) := by rw [cell_of_row _ _ _ _ _ _ hx.out]; rfl
        have e1 : wr.cell? ⟨w.heap.size, 1, none⟩ = some (.slice a bs.length cap) := by rw [cell_of_row _ _ _ _ _ _ hx.out]; rfl
        have l0 : w.heap.size < wr.heap.size := lt_of_block hx.out
        by_cases hlt : k < bs.length
        · have hst : (bs.take (k + 1)).foldl (blStep fine) [] = blStep fine ((bs.take k).foldl (blStep fine) []) bs[k] := foldl_take_succ _ _ _ hlt
          have hol : ((bs.take k).foldl (blStep fine) []).length ≤ 2000 := by
            have := blFold_len fine (bs.take k) []
            simp at this; omega
          obtain ⟨out, hout⟩ : ∃ o, (bs.take k).foldl (blStep fine) [] = o := ⟨_, rfl⟩
          rw [hout] at hst hol hown
          obtain ⟨bb, off, rfl, hbl, hcs⟩ := H.out.at hlt
          obtain ⟨c0, c1, c2, c3⟩ := hcs.below hb.out hbl
          have hbA := hidE (H.out.below hb.out (Nat.le_refl _))
          obtain ⟨x, hxx⟩ : ∃ x, bs[k] = x := ⟨_, rfl⟩
          rw [hxx] at c0 c1 c2 c3 hst
          obtain ⟨xs, xd, xm, xr⟩ := x
          simp only at c0 c1 c2 c3
          have hwo : Calls Try.prog 86 #[.agg #[.int .i64 (R : Int), .slice (some ⟨bb, off, none⟩) bs.length cap], .slice (some ⟨wr.heap.size, 0, none⟩) 1 1] (wr.alloc (.cells #[.int .i64 xr] 3)) _ :=
            refwithout_any (wr.alloc (.cells #[.int .i64 xr] 3)) R (some ⟨bb, off, none⟩) cap bs (some ⟨wr.heap.size, 0, none⟩) 1 [xr] (by omega) (hbA.out.alloc _) (by simp) (ints_one wr xr)
          have HWO := hidE hwo
          have HST := hidE hst
          have HO := hidE hol
          obtain ⟨f, hf⟩ : ∃ f, fine xr = f := ⟨_, rfl⟩
          have HFF := hidE hf
          clear hwo hst hol hout hxx hcs hf
          go_wp2_with fail
          refine HWO.out.mono ?_
          rintro e w3 ⟨v3, rfl, ho3, hb3⟩
          obtain ⟨o3, k3, rfl, hbs3, _⟩ := boundsAt_of_out ho3
          have hca := HF.out xr w3 o3 _ k3 rfl hbs3
          rw [HFF.out] at hca
          have HCA := hidE hca
          have B3 := hidE (((Below.refl wr.heap.size wr).alloc (Nat.le_refl _) (.cells #[.int .i64 xr] 3)).trans (hb3.mono (by simp)))
          clear hca ho3 hbs3 hb3 e0 e1 c0 c1 c2 c3
          go_wp2_with fail
          refine HCA.out.mono ?_
          rintro e w4 ⟨rfl, hb4⟩
          have B4 := hidE (B3.out.trans (hb4.mono B3.out.size))
          have hx4 := hidE (blk_below B4.out l0 hx.out)
          have hown4 := hidE (ownsRow_of_block hown.out (fun q e => B4.out.block q (owns_lt' hown.out e)))
          have bW4 := hidE (hb.out.trans (B4.out.mono hb.out.size))
          clear hb4
          by_cases hp : 0 < xr
          · have hd : decide (xr > 0) = true := by simpa using hp
            cases f with
            | true =>
              have hins := insert_any w4 w.heap.size u6 out xr (by have := HO.out; omega) hown4.out bW4.out.size
              have HI := hidE hins
              clear hins
              go_wp2_with fail
              refine HI.out.mono ?_
              rintro e w5 ⟨v5, rfl, ho5, hb5⟩
              go_wp2_with fail
              go_roundw
              case rel => exact ⟨k + 1, by omega, by go_num, hidE (blk_below hb5 (lt_of_block hx4.out) hx4.out), hidE (by rw [HST.out]; unfold blStep; rw [if_pos ⟨hp, HFF.out⟩]; exact ho5), hidE (bW4.out.trans (hb5.mono bW4.out.size))⟩
              case measure => simp [intOf]; omega
            | false =>
              go_wp2_with fail
              go_roundw
              case rel => exact ⟨k + 1, by omega, by go_num, hx4, hidE (by rw [HST.out]; unfold blStep; rw [if_neg (by simp [HFF.out])]; exact hown4.out), bW4⟩
              case measure => simp [intOf]; omega
          · have hd : decide (xr > 0) = false := by simpa using hp
            go_wp2_with fail
            go_roundw
            case rel => exact ⟨k + 1, by omega, by go_num, hx4, hidE (by rw [HST.out]; unfold blStep; rw [if_neg (by simp; omega)]; exact hown4.out), bW4⟩
            case measure => simp [intOf]; omega
        · have hall : bs.take k = bs := List.take_of_length_le (by omega)
          rw [hall] at hown
          go_wp2_with fail
          go_ret2
          exact ⟨by rw [HBE.out, if_neg (by simp)]; exact ⟨_, rfl, hown.out⟩, hb.out⟩
  · have hbe : blameE N bs = ([], checkP N bs) := by unfold blameE; rw [if_neg hc]
    obtain ⟨c, hcc⟩ : ∃ c, checkP N bs = c := ⟨_, rfl⟩
    rw [hcc] at hc hck hbe
    have hcb : (c != 0) = true := by simpa using hc
    have HCK := hidE hck
    have HBE := hidE hbe
    clear hck hbe hc hcc hN
    go_enter Try.func28, Try.ntmps28
    go_wp2_with fail
    refine HCK.out.mono ?_
    rintro e w1 ⟨rfl, hb1⟩
    go_wp2_with fail
    go_ret2
    exact ⟨by rw [HBE.out]; exact ⟨_, rfl, World.ownsRow_nil _ _ _ _⟩, B0.out.trans (hb1.mono B0.out.size)⟩

end Go.Proofs.Ytejbpoclfjkllaa
