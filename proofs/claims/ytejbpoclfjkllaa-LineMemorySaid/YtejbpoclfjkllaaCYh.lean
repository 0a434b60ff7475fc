/- Walks: Without and Records, of the program and of the reference. -/
import Derived.Test.YtejbpoclfjkllaaCYd2
import Derived.Test.YtejbpoclfjkllaaCY9
import Derived.Test.YtejbpoclfjkllaaCY6
import Derived.Test.YtejbpoclfjkllaaA5
namespace Go.Proofs.Ytejbpoclfjkllaa
open Go Go.RowKit Go.Shelf

theorem ownsRow_kept0 {W W' : World} {base : Nat} {e : TypeId} {size : Nat} {v : Value} {n : Nat} {xs : List Value} (h : W.ownsRow base e size v n xs) (hb : Below W.heap.size W W') : W'.ownsRow base e size v n xs :=
  ownsRow_of_block h (fun q hq => hb.block q (owns_lt' h hq))
def withoutE (N : Int) (bs : List Bd) (l : List Int) : Int × List Bd × Int := if checkP N bs = 0 then (N, withoutP bs l, 0) else (0, [], checkP N bs)

set_option maxRecDepth 100000 in
set_option maxHeartbeats 1000000 in
theorem withoutS_any (w : World) (N : Int) (a : Option Addr) (cap : Nat) (bs : List Bd) (a2 : Option Addr) (cap2 : Nat) (l : List Int) (hN : i64ok N) (hl : bs.length ≤ 9223372036854775807) (hs : SliceOk a bs.length cap) (h : BoundsAt w a bs) (hl2 : l.length ≤ 9223372036854775807) (h2 : IntsAt w a2 l) :
    Calls Try.prog 63 #[.agg #[.int .i64 N, .slice a bs.length cap], .slice a2 l.length cap2] w fun e w' => SysPost (withoutE N bs l) w.heap.size e w' ∧ Below w.heap.size w w' := by
  obtain ⟨W0, hW0⟩ : ∃ W0, W0 = (w.alloc (.cells #[.int .i64 N, .slice a bs.length cap] 24)).alloc (.cells #[.int .i64 0, .slice none 0 0] 24) := ⟨_, rfl⟩
  have b0 : Below w.heap.size w W0 := by rw [hW0]; exact ((Below.refl _ _).alloc (Nat.le_refl _) _).alloc (by simp) _
  have x0 : W0.heap[w.heap.size]? = some (.cells #[.int .i64 N, .slice a bs.length cap] 24 (0,0)) := by rw [hW0, Below.heap_alloc _ _ _ (by simp), heap_alloc_new]
  have x4 : W0.heap[w.heap.size + 1]? = some (.cells #[.int .i64 0, .slice none 0 0] 24 (0,0)) := by rw [hW0, heap_alloc_at _ _ _ (by simp)]
  have hck := check_any W0 N a cap bs hN hl (h.below b0 (Nat.le_refl _))
  have HW0 := hidE hW0
  have B0 := hidE b0
  have X0 := hidE x0
  have X4 := hidE x4
  have H := hidE h
  have H2 := hidE h2
  clear hW0 b0 x0 x4 h h2
  by_cases hc : checkP N bs = 0
  · obtain ⟨n0, n1, n2, _⟩ := checkP_zero hc
    have hwo := fun W hb hb2 => without_any W N a cap bs a2 cap2 l (by omega) hs hb hl2 hb2
    have hd : withoutE N bs l = (N, withoutP bs l, 0) := by unfold withoutE; rw [if_pos hc]
    rw [hc] at hck
    obtain ⟨L, hL⟩ : ∃ L, withoutP bs l = L := ⟨_, rfl⟩
    rw [hL] at hwo hd
    have HCK := hidE hck
    have HWO := hidE hwo
    have HD := hidE hd
    clear hck hwo hd hc hN hL n0 n1 n2
    go_enter Try.func63, Try.ntmps63
    go_upto_region 1 with fail
    rw [← HW0.out]
    have e0 : W0.cell? ⟨w.heap.size, 0, none⟩ = some (.int .i64 N) := by rw [cell_of_row _ _ _ _ _ _ X0.out]; rfl
    have e1 : W0.cell? ⟨w.heap.size, 1, none⟩ = some (.slice a bs.length cap) := by rw [cell_of_row _ _ _ _ _ _ X0.out]; rfl
    go_wp2_with fail
    refine HCK.out.mono ?_
    rintro e w1 ⟨rfl, hb1⟩
    have y0 := blk_below hb1 (lt_of_block X0.out) X0.out
    have y4 := blk_below hb1 (lt_of_block X4.out) X4.out
    have f0 : w1.cell? ⟨w.heap.size, 0, none⟩ = some (.int .i64 N) := by rw [cell_of_row _ _ _ _ _ _ y0]; rfl
    have f1 : w1.cell? ⟨w.heap.size, 1, none⟩ = some (.slice a bs.length cap) := by rw [cell_of_row _ _ _ _ _ _ y0]; rfl
    have B1 := hidE (B0.out.trans (hb1.mono B0.out.size))
    have Y4 := hidE y4
    clear e0 e1 y0 y4 hb1
    go_wp2_with fail
    refine (HWO.out _ (H.out.below B1.out (Nat.le_refl _)) (H2.out.below B1.out (Nat.le_refl _))).mono ?_
    rintro e w2 ⟨v, rfl, ho, hb2⟩
    obtain ⟨o, c, rfl, _⟩ := boundsAt_of_out ho
    have y2 := blk_below hb2 (lt_of_block Y4.out) Y4.out
    have g0 : w2.cell? ⟨w.heap.size + 1, 0, none⟩ = some (.int .i64 0) := by rw [cell_of_row _ _ _ _ _ _ y2]; rfl
    have g1 : w2.cell? ⟨w.heap.size + 1, 1, none⟩ = some (.slice none 0 0) := by rw [cell_of_row _ _ _ _ _ _ y2]; rfl
    have g2 : ∀ i, w2.frozen? ⟨w.heap.size + 1, i, none⟩ = false := fun i => frozen_of_row _ _ _ _ _ y2
    have l4 := lt_of_block Y4.out
    have B2 := hidE (B1.out.trans (hb2.mono B1.out.size))
    have HO := hidE ho
    have HS1 := hidE B1.out.size
    clear f0 f1 hb2 ho y2
    go_wp2_with fail
    refine bodyPost_ret (v := .tuple #[.agg #[.int .i64 N, .slice o L.length c], .int .i64 0]) (by simp [results, Try.results63, go_sem, g0, g1]) rfl ⟨?_, ?_⟩
    · rw [HD.out]
      exact ⟨_, rfl, ownsRow_base (ownsRow_setCell_below (ownsRow_setCell_below HO.out (by exact l4) _) (by exact l4) _) HS1.out⟩
    · exact (B2.out.setCell (by simp) _).setCell (by simp) _
  · have hd : withoutE N bs l = (0, [], checkP N bs) := by unfold withoutE; rw [if_neg hc]
    obtain ⟨cc, hcc⟩ : ∃ c, checkP N bs = c := ⟨_, rfl⟩
    rw [hcc] at hd hc hck
    have hcb : (cc != 0) = true := by simpa using hc
    have HCK := hidE hck
    have HD := hidE hd
    clear hck hd hc hcc hN
    go_enter Try.func63, Try.ntmps63
    go_upto_region 1 with fail
    rw [← HW0.out]
    have e0 : W0.cell? ⟨w.heap.size, 0, none⟩ = some (.int .i64 N) := by rw [cell_of_row _ _ _ _ _ _ X0.out]; rfl
    have e1 : W0.cell? ⟨w.heap.size, 1, none⟩ = some (.slice a bs.length cap) := by rw [cell_of_row _ _ _ _ _ _ X0.out]; rfl
    go_wp2_with fail
    refine HCK.out.mono ?_
    rintro e w1 ⟨rfl, hb1⟩
    have y2 := blk_below hb1 (lt_of_block X4.out) X4.out
    have g0 : w1.cell? ⟨w.heap.size + 1, 0, none⟩ = some (.int .i64 0) := by rw [cell_of_row _ _ _ _ _ _ y2]; rfl
    have g1 : w1.cell? ⟨w.heap.size + 1, 1, none⟩ = some (.slice none 0 0) := by rw [cell_of_row _ _ _ _ _ _ y2]; rfl
    have g2 : ∀ i, w1.frozen? ⟨w.heap.size + 1, i, none⟩ = false := fun i => frozen_of_row _ _ _ _ _ y2
    have B1 := hidE (B0.out.trans (hb1.mono B0.out.size))
    clear e0 e1 hb1 y2
    go_wp2_with fail
    refine bodyPost_ret (v := .tuple #[.agg #[.int .i64 0, .slice none 0 0], .int .i64 cc]) (by simp [results, Try.results63, go_sem, g0, g1]) rfl ⟨?_, ?_⟩
    · rw [HD.out]
      exact ⟨_, rfl, boundsOut_nil _ _⟩
    · exact (B1.out.setCell (by simp) _).setCell (by simp) _

set_option maxRecDepth 100000 in
set_option maxHeartbeats 1000000 in
theorem refwithoutS_any (w : World) (N : Int) (a : Option Addr) (cap : Nat) (bs : List Bd) (a2 : Option Addr) (cap2 : Nat) (l : List Int) (hN : i64ok N) (hl : bs.length ≤ 9223372036854775807) (h : BoundsAt w a bs) (hl2 : l.length ≤ 9223372036854775807) (h2 : IntsAt w a2 l) :
    Calls Try.prog 64 #[.agg #[.int .i64 N, .slice a bs.length cap], .slice a2 l.length cap2] w fun e w' => SysPost (withoutE N bs l) w.heap.size e w' ∧ Below w.heap.size w w' := by
  obtain ⟨W0, hW0⟩ : ∃ W0, W0 = (w.alloc (.cells #[.int .i64 N, .slice a bs.length cap] 24)).alloc (.cells #[.int .i64 0, .slice none 0 0] 24) := ⟨_, rfl⟩
  have b0 : Below w.heap.size w W0 := by rw [hW0]; exact ((Below.refl _ _).alloc (Nat.le_refl _) _).alloc (by simp) _
  have x0 : W0.heap[w.heap.size]? = some (.cells #[.int .i64 N, .slice a bs.length cap] 24 (0,0)) := by rw [hW0, Below.heap_alloc _ _ _ (by simp), heap_alloc_new]
  have x4 : W0.heap[w.heap.size + 1]? = some (.cells #[.int .i64 0, .slice none 0 0] 24 (0,0)) := by rw [hW0, heap_alloc_at _ _ _ (by simp)]
  have hck := refcheck_any W0 N a cap bs hN hl (h.below b0 (Nat.le_refl _))
  have HW0 := hidE hW0
  have B0 := hidE b0
  have X0 := hidE x0
  have X4 := hidE x4
  have H := hidE h
  have H2 := hidE h2
  clear hW0 b0 x0 x4 h h2
  by_cases hc : checkP N bs = 0
  · obtain ⟨n0, n1, n2, _⟩ := checkP_zero hc
    have hwo := fun W hb hb2 => refwithout_any W N a cap bs a2 cap2 l (by omega) hb hl2 hb2
    have hd : withoutE N bs l = (N, withoutP bs l, 0) := by unfold withoutE; rw [if_pos hc]
    rw [hc] at hck
    obtain ⟨L, hL⟩ : ∃ L, withoutP bs l = L := ⟨_, rfl⟩
    rw [hL] at hwo hd
    have HCK := hidE hck
    have HWO := hidE hwo
    have HD := hidE hd
    clear hck hwo hd hc hN hL n0 n1 n2
    go_enter Try.func64, Try.ntmps64
    go_upto_region 1 with fail
    rw [← HW0.out]
    have e0 : W0.cell? ⟨w.heap.size, 0, none⟩ = some (.int .i64 N) := by rw [cell_of_row _ _ _ _ _ _ X0.out]; rfl
    have e1 : W0.cell? ⟨w.heap.size, 1, none⟩ = some (.slice a bs.length cap) := by rw [cell_of_row _ _ _ _ _ _ X0.out]; rfl
    go_wp2_with fail
    refine HCK.out.mono ?_
    rintro e w1 ⟨rfl, hb1⟩
    have y0 := blk_below hb1 (lt_of_block X0.out) X0.out
    have y4 := blk_below hb1 (lt_of_block X4.out) X4.out
    have f0 : w1.cell? ⟨w.heap.size, 0, none⟩ = some (.int .i64 N) := by rw [cell_of_row _ _ _ _ _ _ y0]; rfl
    have f1 : w1.cell? ⟨w.heap.size, 1, none⟩ = some (.slice a bs.length cap) := by rw [cell_of_row _ _ _ _ _ _ y0]; rfl
    have B1 := hidE (B0.out.trans (hb1.mono B0.out.size))
    have Y4 := hidE y4
    clear e0 e1 y0 y4 hb1
    go_wp2_with fail
    refine (HWO.out _ (H.out.below B1.out (Nat.le_refl _)) (H2.out.below B1.out (Nat.le_refl _))).mono ?_
    rintro e w2 ⟨v, rfl, ho, hb2⟩
    obtain ⟨o, c, rfl, _⟩ := boundsAt_of_out ho
    have y2 := blk_below hb2 (lt_of_block Y4.out) Y4.out
    have g0 : w2.cell? ⟨w.heap.size + 1, 0, none⟩ = some (.int .i64 0) := by rw [cell_of_row _ _ _ _ _ _ y2]; rfl
    have g1 : w2.cell? ⟨w.heap.size + 1, 1, none⟩ = some (.slice none 0 0) := by rw [cell_of_row _ _ _ _ _ _ y2]; rfl
    have g2 : ∀ i, w2.frozen? ⟨w.heap.size + 1, i, none⟩ = false := fun i => frozen_of_row _ _ _ _ _ y2
    have l4 := lt_of_block Y4.out
    have B2 := hidE (B1.out.trans (hb2.mono B1.out.size))
    have HO := hidE ho
    have HS1 := hidE B1.out.size
    clear f0 f1 hb2 ho y2
    go_wp2_with fail
    refine bodyPost_ret (v := .tuple #[.agg #[.int .i64 N, .slice o L.length c], .int .i64 0]) (by simp [results, Try.results64, go_sem, g0, g1]) rfl ⟨?_, ?_⟩
    · rw [HD.out]
      exact ⟨_, rfl, ownsRow_base (ownsRow_setCell_below (ownsRow_setCell_below HO.out (by exact l4) _) (by exact l4) _) HS1.out⟩
    · exact (B2.out.setCell (by simp) _).setCell (by simp) _
  · have hd : withoutE N bs l = (0, [], checkP N bs) := by unfold withoutE; rw [if_neg hc]
    obtain ⟨cc, hcc⟩ : ∃ c, checkP N bs = c := ⟨_, rfl⟩
    rw [hcc] at hd hc hck
    have hcb : (cc != 0) = true := by simpa using hc
    have HCK := hidE hck
    have HD := hidE hd
    clear hck hd hc hcc hN
    go_enter Try.func64, Try.ntmps64
    go_upto_region 1 with fail
    rw [← HW0.out]
    have e0 : W0.cell? ⟨w.heap.size, 0, none⟩ = some (.int .i64 N) := by rw [cell_of_row _ _ _ _ _ _ X0.out]; rfl
    have e1 : W0.cell? ⟨w.heap.size, 1, none⟩ = some (.slice a bs.length cap) := by rw [cell_of_row _ _ _ _ _ _ X0.out]; rfl
    go_wp2_with fail
    refine HCK.out.mono ?_
    rintro e w1 ⟨rfl, hb1⟩
    have y2 := blk_below hb1 (lt_of_block X4.out) X4.out
    have g0 : w1.cell? ⟨w.heap.size + 1, 0, none⟩ = some (.int .i64 0) := by rw [cell_of_row _ _ _ _ _ _ y2]; rfl
    have g1 : w1.cell? ⟨w.heap.size + 1, 1, none⟩ = some (.slice none 0 0) := by rw [cell_of_row _ _ _ _ _ _ y2]; rfl
    have g2 : ∀ i, w1.frozen? ⟨w.heap.size + 1, i, none⟩ = false := fun i => frozen_of_row _ _ _ _ _ y2
    have B1 := hidE (B0.out.trans (hb1.mono B0.out.size))
    clear e0 e1 hb1 y2
    go_wp2_with fail
    refine bodyPost_ret (v := .tuple #[.agg #[.int .i64 0, .slice none 0 0], .int .i64 cc]) (by simp [results, Try.results64, go_sem, g0, g1]) rfl ⟨?_, ?_⟩
    · rw [HD.out]
      exact ⟨_, rfl, boundsOut_nil _ _⟩
    · exact (B1.out.setCell (by simp) _).setCell (by simp) _

def recordsE (N : Int) (bs : List Bd) (l : List Int) : List Int × Int := if checkP N bs ≠ 0 then ([], checkP N bs) else if indexP bs.length l = true then (recordsP (l.map (bAt bs)), 0) else ([], 1)

theorem bAt_at {bs : List Bd} {q : Nat} (h : q < bs.length) : bAt bs (q : Int) = bs[q] := by
  unfold bAt; rw [Int.toNat_natCast, List.getD_eq_getElem?_getD, List.getElem?_eq_getElem h]; rfl
theorem map_take_succ {α β : Type} (f : α → β) {l : List α} {k : Nat} (hk : k < l.length) : (l.take (k + 1)).map f = (l.take k).map f ++ [f l[k]] := by
  rw [List.take_succ_eq_append_getElem hk, List.map_append]; rfl

set_option maxRecDepth 100000 in
set_option maxHeartbeats 2000000 in
theorem recordsS_any (w : World) (N : Int) (a : Option Addr) (cap : Nat) (bs : List Bd) (a2 : Option Addr) (cap2 : Nat) (l : List Int) (hN : i64ok N) (hl : bs.length ≤ 9223372036854775807) (h : BoundsAt w a bs) (hl2 : l.length ≤ 4000) (h2 : IntsAt w a2 l) :
    Calls Try.prog 61 #[.agg #[.int .i64 N, .slice a bs.length cap], .slice a2 l.length cap2] w fun e w' => PathPost (recordsE N bs l).1 (recordsE N bs l).2 w.heap.size e w' ∧ Below w.heap.size w w' := by
  have b0 : Below w.heap.size w (w.alloc (.cells #[.int .i64 N, .slice a bs.length cap] 24)) := (Below.refl _ _).alloc (Nat.le_refl _) _
  have hck := check_any (w.alloc (.cells #[.int .i64 N, .slice a bs.length cap] 24)) N a cap bs hN hl (h.below b0 (Nat.le_refl _))
  have hix := fun W hb => index_any W N a cap bs.length a2 cap2 l hl (by omega) hb
  have B0 := hidE b0
  have H := hidE h
  have H2 := hidE h2
  clear b0 h h2
  by_cases hc : checkP N bs = 0
  · obtain ⟨n0, n1, n2, _⟩ := checkP_zero hc
    rw [hc] at hck
    have hE0 : recordsE N bs l = if indexP bs.length l = true then (recordsP (l.map (bAt bs)), 0) else ([], 1) := by unfold recordsE; rw [if_neg (by simp [hc])]
    have HCK := hidE hck
    clear hck hc hN
    cases hx : indexP bs.length l with
    | false =>
      have hE : recordsE N bs l = ([], 1) := by rw [hE0, hx]; simp
      clear hE0
      rw [hx] at hix
      have HE := hidE hE
      have HIX := hidE hix
      clear hE hix hx
      go_enter Try.func61, Try.ntmps61
      go_wp2_with fail
      refine HCK.out.mono ?_
      rintro e w1 ⟨rfl, hb1⟩
      have x1 := blk_below hb1 (by simp) (heap_alloc_new w (.cells #[.int .i64 N, .slice a bs.length cap] 24))
      have e0 : w1.cell? ⟨w.heap.size, 0, none⟩ = some (.int .i64 N) := by rw [cell_of_row _ _ _ _ _ _ x1]; rfl
      have e1 : w1.cell? ⟨w.heap.size, 1, none⟩ = some (.slice a bs.length cap) := by rw [cell_of_row _ _ _ _ _ _ x1]; rfl
      have B1 := hidE (B0.out.trans (hb1.mono B0.out.size))
      clear x1 hb1
      go_wp2_with fail
      refine (HIX.out _ (H2.out.below B1.out (Nat.le_refl _))).mono ?_
      rintro e w2 ⟨rfl, hb2⟩
      clear e0 e1
      go_wp2_with fail
      refine bodyPost_ret (v := .tuple #[.slice none 0 0, .int .i64 1]) (by simp [results, Try.results61, go_sem]) rfl ⟨?_, B1.out.trans (hb2.mono B1.out.size)⟩
      rw [HE.out]
      exact ⟨_, rfl, World.ownsRow_nil _ _ _ _⟩
    | true =>
      have hall := indexP_iff.1 hx
      have hE : recordsE N bs l = (recordsP (l.map (bAt bs)), 0) := by rw [hE0, hx]; simp
      clear hE0
      rw [hx] at hix
      have HE := hidE hE
      have HIX := hidE hix
      have HALL := hidE hall
      clear hE hix hx hall
      go_enter Try.func61, Try.ntmps61
      go_wp2_with fail
      refine HCK.out.mono ?_
      rintro e w1 ⟨rfl, hb1⟩
      have x1 := blk_below hb1 (by simp) (heap_alloc_new w (.cells #[.int .i64 N, .slice a bs.length cap] 24))
      have e0 : w1.cell? ⟨w.heap.size, 0, none⟩ = some (.int .i64 N) := by rw [cell_of_row _ _ _ _ _ _ x1]; rfl
      have e1 : w1.cell? ⟨w.heap.size, 1, none⟩ = some (.slice a bs.length cap) := by rw [cell_of_row _ _ _ _ _ _ x1]; rfl
      have B1 := hidE (B0.out.trans (hb1.mono B0.out.size))
      have X1 := hidE x1
      clear x1 hb1
      go_wp2_with fail
      refine (HIX.out _ (H2.out.below B1.out (Nat.le_refl _))).mono ?_
      rintro e w2 ⟨rfl, hb2⟩
      have X2 := hidE (blk_below hb2 (lt_of_block X1.out) X1.out)
      have B2 := hidE (B1.out.trans (hb2.mono B1.out.size))
      clear e0 e1 hb2
      go_wp2_with fail
      go_loopw [7, 21] (fun v i wr => ∃ k : Nat, k ≤ l.length ∧ i = .int .i64 k ∧ Hid (wr.heap[w.heap.size]? = some (.cells #[.int .i64 N, .slice a bs.length cap] 24 (0,0))) ∧ Hid (BoundsOut ((l.take k).map (bAt bs)) (w.heap.size + 1) v wr) ∧ Hid (Below w.heap.size w wr)) (fun _ i _ => l.length - (intOf i).toNat)
      case atStart => exact ⟨0, by omega, rfl, X2, hidE (boundsOut_nil _ _), B2⟩
      case round =>
        obtain ⟨k, hk, rfl, hx, hown, hb⟩ := hrel
        have l0 : w.heap.size < wr.heap.size := lt_of_block hx.out
        by_cases hlt : k < l.length
        · have e1 : wr.cell? ⟨w.heap.size, 1, none⟩ = some (.slice a bs.length cap) := by rw [cell_of_row _ _ _ _ _ _ hx.out]; rfl
          obtain ⟨b2, off2, rfl, hbl2, c9⟩ := (H2.out.below hb.out (Nat.le_refl _)).at hlt
          have hq := HALL.out l[k] (List.getElem_mem hlt)
          obtain ⟨q, hqe⟩ : ∃ q : Nat, l[k] = (q : Int) := ⟨l[k].toNat, by omega⟩
          have htk := map_take_succ (bAt bs) hlt
          rw [hqe] at hq c9 htk
          have hql : q < bs.length := by omega
          have qI : (q : Int) < (bs.length : Int) := hq.2
          rw [bAt_at hql] at htk
          obtain ⟨b, off, rfl, hbl, hcs⟩ := (H.out.below hb.out (Nat.le_refl _)).at hql
          obtain ⟨c0, c1, c2, c3⟩ := hcs
          obtain ⟨x, hxx⟩ : ∃ x, bs[q] = x := ⟨_, rfl⟩
          rw [hxx] at c0 c1 c2 c3 htk
          obtain ⟨xs, xd, xm, xr⟩ := x
          simp only at c0 c1 c2 c3
          have hlen : ((l.take k).map (bAt bs)).length ≤ 4000 := by simp; omega
          have ba : Below wr.heap.size wr (wr.alloc (.cells #[.int .i64 xs, .int .i64 xd, .int .i64 xm, .int .i64 xr] 44)) := (Below.refl _ _).alloc (Nat.le_refl _) _
          obtain ⟨v2, W2, hr2, ho2, hb2⟩ := append_bounds (wr.alloc (.cells #[.int .i64 xs, .int .i64 xd, .int .i64 xm, .int .i64 xr] 44)) (w.heap.size + 1) u7 ((l.take k).map (bAt bs)) (World.ownsRow.alloc hown.out _) (some ⟨wr.heap.size, 0, none⟩) 1 [⟨xs, xd, xm, xr⟩]
            (bounds_one (b := ⟨xs, xd, xm, xr⟩) (heap_alloc_new wr _)) (by omega) (by simp) (by simp; omega) 22
          have bW : Below (w.heap.size + 1) wr W2 := (ba.mono (by omega)).trans hb2
          have HR2 := hidE hr2
          have HO2 := hidE ho2
          have HX2 := hidE ((bW.block _ (by omega)).trans hx.out)
          have HBW := hidE (hb.out.trans (bW.mono (by omega)))
          have HTK := hidE htk
          clear hr2 ho2 hb2 ba bW htk hxx hqe hq hlen
          go_wp2_with (at_builtin; refine wpList_op_append rfl (s := .tmp 25) (x := .tmp 31) (t := 22) rfl rfl rfl HR2.out ?_)
          go_roundw
          case rel => exact ⟨k + 1, by omega, by go_num, HX2, hidE (by rw [HTK.out]; exact HO2.out), HBW⟩
          case measure => simp [intOf]; omega
        · have hall : l.take k = l := List.take_of_length_le (by omega)
          rw [hall] at hown
          obtain ⟨o, c, rfl, hba, _⟩ := boundsAt_of_out hown.out
          have hrec := records_any wr o c (l.map (bAt bs)) (by simp; omega) hba
          rw [List.length_map] at hrec
          have HREC := hidE hrec
          clear hrec hba hown hall
          go_wp2_with fail
          refine HREC.out.mono ?_
          rintro e w3 ⟨v, rfl, hov, hb3⟩
          obtain ⟨o3, c3, rfl, _⟩ := intsAt_of_owns hov
          have HOV := hidE (ownsRow_base hov hb.out.size)
          have HB3 := hidE (hb.out.trans (hb3.mono hb.out.size))
          clear hov hb3
          go_wp2_with fail
          refine bodyPost_ret (v := .tuple #[.slice o3 (recordsP (l.map (bAt bs))).length c3, .int .i64 0]) (by simp [results, Try.results61, go_sem]) rfl ⟨?_, HB3.out⟩
          rw [HE.out]
          exact ⟨_, rfl, HOV.out⟩
  · have hE : recordsE N bs l = ([], checkP N bs) := by unfold recordsE; rw [if_pos hc]
    obtain ⟨cc, hcc⟩ : ∃ c, checkP N bs = c := ⟨_, rfl⟩
    rw [hcc] at hE hc hck
    have hcb : (cc != 0) = true := by simpa using hc
    have HCK := hidE hck
    have HE := hidE hE
    clear hck hE hc hcc hN hix
    go_enter Try.func61, Try.ntmps61
    go_wp2_with fail
    refine HCK.out.mono ?_
    rintro e w1 ⟨rfl, hb1⟩
    go_wp2_with fail
    refine bodyPost_ret (v := .tuple #[.slice none 0 0, .int .i64 cc]) (by simp [results, Try.results61, go_sem]) rfl ⟨?_, B0.out.trans (hb1.mono B0.out.size)⟩
    rw [HE.out]
    exact ⟨_, rfl, World.ownsRow_nil _ _ _ _⟩

theorem index_bad {n : Nat} {l : List Int} {k : Nat} (hk : k < l.length) (h : l[k] < 0 ∨ (n : Int) ≤ l[k]) : indexP n l = false := by
  cases hq : indexP n l with
  | false => rfl
  | true => have := indexP_iff.1 hq l[k] (List.getElem_mem hk); omega

set_option maxRecDepth 100000 in
set_option maxHeartbeats 2000000 in
theorem refrecordsS_any (w : World) (N : Int) (a : Option Addr) (cap : Nat) (bs : List Bd) (a2 : Option Addr) (cap2 : Nat) (l : List Int) (hN : i64ok N) (hl : bs.length ≤ 9223372036854775807) (h : BoundsAt w a bs) (hl2 : l.length ≤ 4000) (h2 : IntsAt w a2 l) :
    Calls Try.prog 62 #[.agg #[.int .i64 N, .slice a bs.length cap], .slice a2 l.length cap2] w fun e w' => PathPost (recordsE N bs l).1 (recordsE N bs l).2 w.heap.size e w' ∧ Below w.heap.size w w' := by
  have b0 : Below w.heap.size w (w.alloc (.cells #[.int .i64 N, .slice a bs.length cap] 24)) := (Below.refl _ _).alloc (Nat.le_refl _) _
  have hck := refcheck_any (w.alloc (.cells #[.int .i64 N, .slice a bs.length cap] 24)) N a cap bs hN hl (h.below b0 (Nat.le_refl _))
  have B0 := hidE b0
  have H := hidE h
  have H2 := hidE h2
  clear b0 h h2
  by_cases hc : checkP N bs = 0
  · obtain ⟨n0, n1, n2, _⟩ := checkP_zero hc
    rw [hc] at hck
    have hE : recordsE N bs l = if indexP bs.length l = true then ((l.map (bAt bs)).foldl (blStep (fun _ => true)) [], 0) else ([], 1) := by
      have hf : (l.map (bAt bs)).foldl (blStep (fun _ => true)) [] = recordsP (l.map (bAt bs)) := by rw [blame_fold]; exact List.filter_eq_self.2 (fun _ _ => rfl)
      unfold recordsE; rw [if_neg (by simp [hc]), hf]
    have HCK := hidE hck
    have HE := hidE hE
    clear hck hc hN hE
    go_enter Try.func62, Try.ntmps62
    go_wp2_with fail
    refine HCK.out.mono ?_
    rintro e w1 ⟨rfl, hb1⟩
    have x1 := blk_below hb1 (by simp) (heap_alloc_new w (.cells #[.int .i64 N, .slice a bs.length cap] 24))
    have X1 := hidE x1
    have B1 := hidE (B0.out.trans (hb1.mono B0.out.size))
    clear x1 hb1
    go_wp2_with fail
    go_loopw [7, 8] (fun v i wr => ∃ k : Nat, k ≤ l.length ∧ i = .int .i64 k ∧ Hid (∀ q (hq : q < l.length), q < k → 0 ≤ l[q] ∧ l[q] < bs.length) ∧ Hid (wr.heap[w.heap.size]? = some (.cells #[.int .i64 N, .slice a bs.length cap] 24 (0,0))) ∧ Hid (wr.ownsRow w.heap.size 3 1 v (((l.take k).map (bAt bs)).foldl (blStep (fun _ => true)) []).length (intsV (((l.take k).map (bAt bs)).foldl (blStep (fun _ => true)) []))) ∧ Hid (Below w.heap.size w wr)) (fun _ i _ => l.length - (intOf i).toNat)
    case atStart => exact ⟨0, by omega, rfl, hidE (fun q _ hq => by omega), X1, hidE (World.ownsRow_nil _ _ _ _), B1⟩
    case round =>
      obtain ⟨k, hk, rfl, hin, hx, hown, hb⟩ := hrel
      have l0 : w.heap.size < wr.heap.size := lt_of_block hx.out
      by_cases hlt : k < l.length
      · have e1 : wr.cell? ⟨w.heap.size, 1, none⟩ = some (.slice a bs.length cap) := by rw [cell_of_row _ _ _ _ _ _ hx.out]; rfl
        obtain ⟨b2, off2, rfl, hbl2, c9⟩ := (H2.out.below hb.out (Nat.le_refl _)).at hlt
        have kI : (k : Int) < (l.length : Int) := by omega
        by_cases hneg : l[k] < 0
        · have hbad := index_bad (n := bs.length) hlt (.inl hneg)
          obtain ⟨x, hxx⟩ : ∃ x, l[k] = x := ⟨_, rfl⟩
          rw [hxx] at hneg c9
          have hd : decide (x < 0) = true := by simpa using hneg
          have HBAD := hidE hbad
          clear hbad hxx
          go_wp2_with fail
          go_quiet (fail)
          go_wp2_with fail
          refine bodyPost_ret (v := .tuple #[.slice none 0 0, .int .i64 1]) (by simp [results, Try.results62, go_sem]) rfl ⟨?_, hb.out.trans (below_drewN' _ _)⟩
          rw [show recordsE N bs l = ([], 1) by rw [HE.out, HBAD.out]; simp]
          exact ⟨_, rfl, World.ownsRow_nil _ _ _ _⟩
        · obtain ⟨q, hqe⟩ : ∃ q : Nat, l[k] = (q : Int) := ⟨l[k].toNat, by omega⟩
          by_cases hge : bs.length ≤ q
          · have hbad := index_bad (n := bs.length) hlt (.inr (by omega))
            rw [hqe] at c9
            have hd : decide ((q : Int) < 0) = false := by simp
            have hd2 : decide ((q : Int) ≥ (bs.length : Int)) = true := by simp; omega
            have HBAD := hidE hbad
            clear hbad hqe hneg
            go_wp2_with fail
            go_quiet (fail)
            go_wp2_with fail
            refine bodyPost_ret (v := .tuple #[.slice none 0 0, .int .i64 1]) (by simp [results, Try.results62, go_sem]) rfl ⟨?_, hb.out.trans (below_drewN' _ _)⟩
            rw [show recordsE N bs l = ([], 1) by rw [HE.out, HBAD.out]; simp]
            exact ⟨_, rfl, World.ownsRow_nil _ _ _ _⟩
          · have hql : q < bs.length := by omega
            have qI : (q : Int) < (bs.length : Int) := by omega
            have hd : decide ((q : Int) < 0) = false := by simp
            have hd2 : decide ((q : Int) ≥ (bs.length : Int)) = false := by simp; omega
            have hin2 : ∀ p (hp : p < l.length), p < k + 1 → 0 ≤ l[p] ∧ l[p] < bs.length := fun p hp hpk => by
              by_cases e : p = k
              · subst e; rw [hqe]; omega
              · exact hin.out p hp (by omega)
            have htk := map_take_succ (bAt bs) hlt
            rw [hqe, bAt_at hql] at htk
            rw [hqe] at c9
            obtain ⟨b, off, rfl, hbl, hcs⟩ := (H.out.below hb.out (Nat.le_refl _)).at hql
            obtain ⟨c0, c1, c2, c3⟩ := hcs
            have hfl := blFold_len (fun _ => true) ((l.take k).map (bAt bs)) []
            obtain ⟨out, hout⟩ : ∃ o, ((l.take k).map (bAt bs)).foldl (blStep (fun _ => true)) [] = o := ⟨_, rfl⟩
            have hst : ((l.take (k + 1)).map (bAt bs)).foldl (blStep (fun _ => true)) [] = blStep (fun _ => true) out bs[q] := by rw [htk, List.foldl_append, hout]; rfl
            rw [hout] at hown hfl
            have hol : out.length ≤ 5000 := by simp at hfl; omega
            obtain ⟨x, hxx⟩ : ∃ x, bs[q] = x := ⟨_, rfl⟩
            rw [hxx] at c0 c1 c2 c3 hst
            obtain ⟨xs, xd, xm, xr⟩ := x
            simp only at c0 c1 c2 c3
            have HIN2 := hidE hin2
            have HST := hidE hst
            clear hin2 hst hin htk hout hfl hxx hqe hneg hge c0 c1 c2
            go_wp2_with fail
            go_quiet (fail)
            go_wp2_with fail
            obtain ⟨Y, hY⟩ : ∃ Y : World, Y = World.drewN wr nq := ⟨_, rfl⟩
            rw [← hY]
            have hbY : Below wr.heap.size wr Y := by rw [hY]; exact below_drewN' _ _
            have xY := blk_below hbY l0 hx.out
            have BY := hidE (hb.out.trans (hbY.mono hb.out.size))
            have OY := hidE (ownsRow_kept0 hown.out hbY)
            have g1 : Y.cell? ⟨w.heap.size, 1, none⟩ = some (.slice (some ⟨b, off, none⟩) bs.length cap) := by rw [cell_of_row _ _ _ _ _ _ xY]; rfl
            have g9 : Y.cell? ⟨b2, off2 + k, none⟩ = some (.int .i64 (q : Int)) := (hbY.cell (by exact hbl2)).trans c9
            have g3 : Y.cell? ⟨b, off + q * 4 + 3, none⟩ = some (.int .i64 xr) := (hbY.cell (by exact hbl)).trans c3
            have XY := hidE xY
            clear hY hbY xY c9 c3 e1 hx hown hb hbl hbl2 hd hd2
            have lY : w.heap.size < Y.heap.size := lt_of_block XY.out
            by_cases hp : 0 < xr
            · have hdp : decide (xr > 0) = true := by simpa using hp
              have hins := fun W (hW : Below Y.heap.size Y W) => insert_any W w.heap.size u7 out xr (by omega) (ownsRow_kept0 OY.out hW) (Nat.le_trans BY.out.size hW.size)
              have HINS := hidE hins
              clear hins
              go_quiet (fail)
              go_wp2_with fail
              refine (HINS.out _ (below_drewN' _ _)).mono ?_
              rintro e w5 ⟨v5, rfl, ho5, hb5⟩
              have hY5 : Below Y.heap.size Y w5 := (below_drewN' (B := Y.heap.size) Y _).trans hb5
              have X5 := hidE (blk_below hY5 lY XY.out)
              have B5 := hidE (BY.out.trans (hY5.mono BY.out.size))
              have O5 := hidE ho5
              clear hY5 hb5 ho5 g1 g9 g3
              go_wp2_with fail
              go_roundw
              case rel => exact ⟨k + 1, by omega, by go_num, HIN2, X5, hidE (by rw [HST.out]; unfold blStep; rw [if_pos ⟨hp, rfl⟩]; exact O5.out), B5⟩
              case measure => simp [intOf]; omega
            · have hdp : decide (xr > 0) = false := by simpa using hp
              go_quiet (fail)
              go_wp2_with fail
              go_roundw
              case rel => exact ⟨k + 1, by omega, by go_num, HIN2, hidE (blk_below (below_drewN' (B := Y.heap.size) Y _) lY XY.out), hidE (by rw [HST.out]; unfold blStep; rw [if_neg (by simp; omega)]; exact ownsRow_kept0 OY.out (below_drewN' _ _)), hidE (BY.out.trans (below_drewN' _ _))⟩
              case measure => simp [intOf]; omega
      · have hall : l.take k = l := List.take_of_length_le (by omega)
        rw [hall] at hown
        have hok : indexP bs.length l = true := indexP_iff.2 (fun i hi => by
          obtain ⟨q, hq, rfl⟩ := List.getElem_of_mem hi
          exact hin.out q hq (by omega))
        obtain ⟨o3, c3, rfl, _⟩ := intsAt_of_owns hown.out
        have HOK := hidE hok
        clear hok hall hx hin
        go_wp2_with fail
        refine bodyPost_ret (v := .tuple #[.slice o3 ((l.map (bAt bs)).foldl (blStep (fun _ => true)) []).length c3, .int .i64 0]) (by simp [results, Try.results62, go_sem]) rfl ⟨?_, hb.out⟩
        rw [show recordsE N bs l = ((l.map (bAt bs)).foldl (blStep (fun _ => true)) [], 0) by rw [HE.out, HOK.out]; simp]
        exact ⟨_, rfl, hown.out⟩
  · have hE : recordsE N bs l = ([], checkP N bs) := by unfold recordsE; rw [if_pos hc]
    obtain ⟨cc, hcc⟩ : ∃ c, checkP N bs = c := ⟨_, rfl⟩
    rw [hcc] at hE hc hck
    have hcb : (cc != 0) = true := by simpa using hc
    have HCK := hidE hck
    have HE := hidE hE
    clear hck hE hc hcc hN
    go_enter Try.func62, Try.ntmps62
    go_wp2_with fail
    refine HCK.out.mono ?_
    rintro e w1 ⟨rfl, hb1⟩
    go_wp2_with fail
    refine bodyPost_ret (v := .tuple #[.slice none 0 0, .int .i64 cc]) (by simp [results, Try.results62, go_sem]) rfl ⟨?_, B0.out.trans (hb1.mono B0.out.size)⟩
    rw [HE.out]
    exact ⟨_, rfl, World.ownsRow_nil _ _ _ _⟩

end Go.Proofs.Ytejbpoclfjkllaa
