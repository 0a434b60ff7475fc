/- Walk: taken (of the laws). -/
import Derived.Test.YtejbpoclfjkllaaCYd2
import Derived.Test.YtejbpoclfjkllaaP2
namespace Go.Proofs.Ytejbpoclfjkllaa
open Go Go.RowKit Go.Shelf

def takenK (bs : List Bd) (l : List Int) (k : Nat) : List Bd := selB bs ((List.range k).filter fun i => !(l.contains (i : Int)))
theorem takenK_all (bs : List Bd) (l : List Int) : takenK bs l bs.length = takenP bs l := rfl
theorem takenK_succ {bs : List Bd} {l : List Int} {k : Nat} (hk : k < bs.length) : takenK bs l (k + 1) = takenK bs l k ++ (if l.contains (k : Int) = true then [] else [bs[k]]) := by
  unfold takenK
  rw [List.range_succ, List.filter_append]
  by_cases h : l.contains (k : Int) = true
  · rw [if_pos h, List.filter_cons, if_neg (by rw [h]; decide)]; simp
  · rw [if_neg h, List.filter_cons, if_pos (by simpa using h), List.filter_nil]
    simp [selB, List.getD_eq_getElem?_getD, hk]
theorem takenK_len (bs : List Bd) (l : List Int) (k : Nat) : (takenK bs l k).length ≤ k := by
  unfold takenK selB
  rw [List.length_map]
  have := List.length_filter_le (fun i : Nat => !(l.contains (i : Int))) (List.range k)
  simpa using this
theorem contains_snoc (A : List Int) (x n : Int) : (A ++ [x]).contains n = (A.contains n || (n == x)) := by
  rw [Bool.eq_iff_iff]; simp
theorem contains_take {l : List Int} {j : Nat} (hj : j < l.length) (n : Int) : (l.take (j + 1)).contains n = ((l.take j).contains n || (n == l[j])) := by
  rw [List.take_succ_eq_append_getElem hj, contains_snoc]

set_option maxRecDepth 100000 in
set_option maxHeartbeats 2000000 in
theorem taken_any (w : World) (N : Int) (a : Option Addr) (cap : Nat) (bs : List Bd) (a2 : Option Addr) (cap2 : Nat) (l : List Int) (hl : bs.length ≤ 4000) (h : BoundsAt w a bs) (hl2 : l.length ≤ 9223372036854775807) (h2 : IntsAt w a2 l) :
    Calls Try.prog 44 #[.agg #[.int .i64 N, .slice a bs.length cap], .slice a2 l.length cap2] w fun e w' => ∃ v, e = .returned (.agg #[.int .i64 N, v]) ∧ BoundsOut (takenP bs l) w.heap.size v w' ∧ Below w.heap.size w w' := by
  obtain ⟨W0, hW0⟩ : ∃ W0, W0 = ((w.alloc (.cells #[.int .i64 N, .slice a bs.length cap] 24)).alloc (.cells #[.int .i64 0, .slice none 0 0] 24)).alloc (.cells #[.int .i64 N, .slice none 0 0] 24) := ⟨_, rfl⟩
  have st0 : WoSt w W0 N a bs.length cap (.slice none 0 0) [] := by
    rw [hW0]
    refine ⟨?_, ?_, ?_, World.ownsRow_nil _ _ _ _, (((Below.refl _ _).alloc (Nat.le_refl _) _).alloc (by simp) _).alloc (by simp; omega) _⟩
    · rw [Below.heap_alloc _ _ _ (by simp; omega), Below.heap_alloc _ _ _ (by simp), heap_alloc_new]
    · rw [Below.heap_alloc _ _ _ (by simp), heap_alloc_at _ _ _ (by simp)]
    · rw [heap_alloc_at _ _ _ (by simp)]
  have ST0 := hidE st0
  have HW0 := hidE hW0
  have H := hidE h
  have H2 := hidE h2
  clear st0 hW0 h h2
  go_enter Try.func44, Try.ntmps44
  go_upto_region 2 with fail
  rw [← HW0.out]
  have e1 : W0.cell? ⟨w.heap.size, 1, none⟩ = some (.slice a bs.length cap) := by rw [cell_of_row _ _ _ _ _ _ ST0.out.x0]; rfl
  go_wp2_with fail
  clear e1
  go_loopw [17] (fun i wr => ∃ (k : Nat) (v : Value), k ≤ bs.length ∧ i = .int .i64 k ∧ Hid (WoSt w wr N a bs.length cap v (takenK bs l k))) (fun i _ => bs.length - (intOf i).toNat)
  case atStart => exact ⟨0, _, by omega, rfl, ST0⟩
  case round =>
    obtain ⟨k, v, hk, rfl, hst⟩ := hrel
    by_cases hlt : k < bs.length
    · obtain ⟨b, off, rfl, hbl, hcs⟩ := H.out.at hlt
      obtain ⟨c0, c1, c2, c3⟩ := hcs.below hst.out.bl hbl
      have hsn := takenK_succ (l := l) hlt
      have hlen := takenK_len bs l k
      obtain ⟨x, hx⟩ : ∃ x, bs[k] = x := ⟨_, rfl⟩
      rw [hx] at c0 c1 c2 c3 hsn
      obtain ⟨xs, xd, xm, xr⟩ := x
      simp only at c0 c1 c2 c3
      have HSN := hidE hsn
      have HLN := hidE hlen
      clear hsn hlen hx hcs
      obtain ⟨wA, rfl⟩ : ∃ x : World, x = wr := ⟨wr, rfl⟩
      go_upto_region 5 with fail
      obtain ⟨W7, hW7⟩ : ∃ X, X = wA.alloc (.cells #[.int .i64 xs, .int .i64 xd, .int .i64 xm, .int .i64 xr] 44) := ⟨_, rfl⟩
      rw [← hW7]
      have hb7 : Below wA.heap.size wA W7 := by rw [hW7]; exact (Below.refl _ _).alloc (Nat.le_refl _) _
      have hx7 : W7.heap[wA.heap.size]? = some (.cells #[.int .i64 xs, .int .i64 xd, .int .i64 xm, .int .i64 xr] 44 (0,0)) := by rw [hW7]; exact heap_alloc_new _ _
      have l0 : w.heap.size < wA.heap.size := lt_of_block hst.out.x0
      have l4 : w.heap.size + 1 < wA.heap.size := lt_of_block hst.out.x4
      have l5 : w.heap.size + 1 + 1 < wA.heap.size := lt_of_block hst.out.x5
      have st7 : WoSt w W7 N (some ⟨b, off, none⟩) bs.length cap v (takenK bs l k) := ⟨blk_below hb7 l0 hst.out.x0, blk_below hb7 l4 hst.out.x4, blk_below hb7 l5 hst.out.x5, ownsRow_of_block hst.out.own (fun q hq => hb7.block q (owns_lt' hst.out.own hq)), hst.out.bl.trans (hb7.mono hst.out.bl.size)⟩
      have ST7 := hidE st7
      have HX7 := hidE hx7
      have J7 := hidE (H2.out.below st7.bl (Nat.le_refl _))
      clear c0 c1 c2 c3 hW7 hb7 hx7 st7 hst
      go_wp2_with fail
      go_loopw [8, 24] (fun s8 i wr => ∃ (j : Nat) (q : Bool), j ≤ l.length ∧ i = .int .i64 j ∧ s8 = .bool q ∧ wr = W7 ∧ Hid ((l.take j).contains (k : Int) = q)) (fun _ i _ => l.length - (intOf i).toNat)
      case atStart => exact ⟨0, false, by omega, rfl, rfl, rfl, hidE rfl⟩
      case round =>
        obtain ⟨j, q, hj, rfl, rfl, rfl, hq⟩ := hrel
        by_cases hjl : j < l.length
        · obtain ⟨b7, f7, rfl, hl7, cl⟩ := J7.out.at hjl
          have hsc := contains_take hjl (k : Int)
          obtain ⟨x, hxe⟩ : ∃ x, l[j] = x := ⟨_, rfl⟩
          rw [hxe] at cl hsc
          cases q with
          | true =>
            have HNX := hidE (show (l.take (j + 1)).contains (k : Int) = true by rw [hsc, hq.out]; rfl)
            clear hsc hxe hq
            go_wp2_with fail
            go_roundw
            case rel => exact ⟨j + 1, true, by omega, by go_num, rfl, by trivial, HNX⟩
            case measure => simp [intOf]; omega
          | false =>
            rw [hq.out, Bool.false_or] at hsc
            have HNX := hidE hsc
            clear hsc hxe hq
            by_cases hkx : (k : Int) = x
            · subst hkx
              go_wp2_with fail
              go_roundw
              case rel => exact ⟨j + 1, true, by omega, by go_num, rfl, by trivial, hidE (by rw [HNX.out]; simp)⟩
              case measure => simp [intOf]; omega
            · have hkb : ((k : Int) == x) = false := by simpa using hkx
              go_wp2_with fail
              go_roundw
              case rel => exact ⟨j + 1, false, by omega, by go_num, rfl, by trivial, hidE (by rw [HNX.out]; exact hkb)⟩
              case measure => simp [intOf]; omega
        · have hall : l.take j = l := List.take_of_length_le (by omega)
          rw [hall] at hq
          cases q with
          | true =>
            have HNX := hidE (show takenK bs l (k + 1) = takenK bs l k by rw [HSN.out, hq.out]; simp)
            clear hall hq
            go_wp2_with fail
            go_roundw
            case rel => exact ⟨k + 1, v, by omega, by go_num, hidE (by rw [HNX.out]; exact ST7.out)⟩
            case measure => simp [intOf]; omega
          | false =>
            have HNX := hidE (show takenK bs l (k + 1) = takenK bs l k ++ [⟨xs, xd, xm, xr⟩] by rw [HSN.out, hq.out]; simp)
            have ba : Below wr.heap.size wr (wr.alloc (.cells #[.int .i64 xs, .int .i64 xd, .int .i64 xm, .int .i64 xr] 44)) := (Below.refl _ _).alloc (Nat.le_refl _) _
            have l7 : w.heap.size + 3 ≤ wr.heap.size := by have := lt_of_block ST7.out.x5; omega
            obtain ⟨v2, W2, hr2, ho2, hb2⟩ := append_bounds (wr.alloc (.cells #[.int .i64 xs, .int .i64 xd, .int .i64 xm, .int .i64 xr] 44)) (w.heap.size + 3) v (takenK bs l k) (World.ownsRow.alloc ST7.out.own _) (some ⟨wr.heap.size, 0, none⟩) 1 [⟨xs, xd, xm, xr⟩]
              (bounds_one (b := ⟨xs, xd, xm, xr⟩) (heap_alloc_new wr _)) (by have := HLN.out; omega) (by simp) (by simp; omega) 22
            have bW : Below (w.heap.size + 3) wr W2 := (ba.mono l7).trans hb2
            obtain ⟨o2, cp2, hv2, _⟩ := boundsAt_of_out (l := takenK bs l k ++ [⟨xs, xd, xm, xr⟩]) (by simpa [BoundsOut] using ho2)
            obtain ⟨nn2, hn2⟩ : ∃ n, (takenK bs l k ++ [(⟨xs, xd, xm, xr⟩ : Bd)]).length = n := ⟨_, rfl⟩
            rw [hn2] at hv2
            subst hv2
            clear hn2
            have m0 := (bW.block _ (by omega)).trans ST7.out.x0
            have m4 := (bW.block _ (by omega)).trans ST7.out.x4
            have m5 := (bW.block _ (by omega)).trans ST7.out.x5
            have d1 : wr.cell? ⟨w.heap.size + 1 + 1, 1, none⟩ = some v := by rw [cell_of_row _ _ _ _ _ _ ST7.out.x5]; rfl
            have t0 : wr.cell? ⟨wA.heap.size, 0, none⟩ = some (.int .i64 xs) := by rw [cell_of_row _ _ _ _ _ _ HX7.out]; rfl
            have t1 : wr.cell? ⟨wA.heap.size, 1, none⟩ = some (.int .i64 xd) := by rw [cell_of_row _ _ _ _ _ _ HX7.out]; rfl
            have t2 : wr.cell? ⟨wA.heap.size, 2, none⟩ = some (.int .i64 xm) := by rw [cell_of_row _ _ _ _ _ _ HX7.out]; rfl
            have t3 : wr.cell? ⟨wA.heap.size, 3, none⟩ = some (.int .i64 xr) := by rw [cell_of_row _ _ _ _ _ _ HX7.out]; rfl
            have z1 : W2.cell? ⟨w.heap.size + 1 + 1, 1, none⟩ = some v := by rw [cell_of_row _ _ _ _ _ _ m5]; rfl
            have z2 : W2.frozen? ⟨w.heap.size + 1 + 1, 1, none⟩ = false := frozen_of_row _ _ _ _ _ m5
            have HR2 := hidE hr2
            have HO2 := hidE ho2
            have M0 := hidE m0
            have M4 := hidE m4
            have M5 := hidE m5
            have BW := hidE (ST7.out.bl.trans (bW.mono (by omega)))
            clear hr2 ho2 hb2 m0 m4 m5 bW ba hall hq
            go_wp2_with (at_builtin; refine wpList_op_append rfl (s := .tmp 38) (x := .tmp 40) (t := 22) rfl rfl rfl HR2.out ?_)
            go_roundw
            case rel =>
              refine ⟨k + 1, .slice o2 nn2 cp2, by omega, by go_num, hidE ⟨?_, ?_, ?_, ?_, BW.out.setCell (by simp; omega) _⟩⟩
              · rw [heap_setCell_other _ _ _ _ (by simp; omega)]; exact M0.out
              · rw [heap_setCell_other _ _ _ _ (by simp)]; exact M4.out
              · exact (heap_setCell_same _ _ _ _ _ _ M5.out).trans rfl
              · rw [HNX.out]
                exact ownsRow_setCell_below HO2.out (by simp) _
            case measure => simp [intOf]; omega
    · have hke : k = bs.length := by omega
      have hst2 : Hid (WoSt w wr N a bs.length cap v (takenP bs l)) := hidE (by have q := hst.out; rw [show takenK bs l k = takenP bs l by rw [hke]; rfl] at q; exact q)
      clear hke hst
      have f0 : wr.cell? ⟨w.heap.size + 1 + 1, 0, none⟩ = some (.int .i64 N) := by rw [cell_of_row _ _ _ _ _ _ hst2.out.x5]; rfl
      have f1 : wr.cell? ⟨w.heap.size + 1 + 1, 1, none⟩ = some v := by rw [cell_of_row _ _ _ _ _ _ hst2.out.x5]; rfl
      have g0 : wr.cell? ⟨w.heap.size + 1, 0, none⟩ = some (.int .i64 0) := by rw [cell_of_row _ _ _ _ _ _ hst2.out.x4]; rfl
      have g1 : wr.cell? ⟨w.heap.size + 1, 1, none⟩ = some (.slice none 0 0) := by rw [cell_of_row _ _ _ _ _ _ hst2.out.x4]; rfl
      have g2 : ∀ i, wr.frozen? ⟨w.heap.size + 1, i, none⟩ = false := fun i => frozen_of_row _ _ _ _ _ hst2.out.x4
      obtain ⟨o2, c2, rfl, _⟩ := boundsAt_of_out hst2.out.own
      go_wp2_with fail
      refine bodyPost_ret (v := .agg #[.int .i64 N, .slice o2 (takenP bs l).length c2]) (by simp [results, Try.results44, go_sem, g0, g1]) rfl ⟨_, rfl, ?_, ?_⟩
      · exact ownsRow_base (ownsRow_setCell_below (ownsRow_setCell_below hst2.out.own (by simp) _) (by simp) _) (by omega)
      · exact (hst2.out.bl.setCell (by simp) _).setCell (by simp) _

end Go.Proofs.Ytejbpoclfjkllaa
