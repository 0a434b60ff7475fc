/- Walks: Same at equal systems; the reference's Join. -/
import Derived.Test.YthcmjhellpjllaaGreatCY1
namespace Go.Proofs.YthcmjhellpjllaaGreat
open Go Go.RowKit Go.Shelf

set_option maxRecDepth 100000 in
set_option maxHeartbeats 1000000 in
theorem same_any (w : World) (N : Int) (a : Option Addr) (cap : Nat) (a2 : Option Addr) (cap2 : Nat) (bs : List Bd) (hl : bs.length ≤ 9223372036854775807) (h : BoundsAt w a bs) (h2 : BoundsAt w a2 bs) :
    Calls Tryz.prog 8 #[.agg #[.int .i64 N, .slice a bs.length cap], .agg #[.int .i64 N, .slice a2 bs.length cap2]] w fun e w' => e = .returned (.bool true) ∧ Below w.heap.size w w' := by
  have H := hidE h
  have H2 := hidE h2
  clear h h2
  go_enter Tryz.func8, Tryz.ntmps8
  go_wp2_with fail
  go_loopw [5] (fun i wr => ∃ k : Nat, k ≤ bs.length ∧ i = .int .i64 k ∧ Hid (wr.heap[w.heap.size]? = some (.cells #[.int .i64 N, .slice a bs.length cap] 24 (0,0))) ∧ Hid (wr.heap[w.heap.size + 1]? = some (.cells #[.int .i64 N, .slice a2 bs.length cap2] 24 (0,0))) ∧ Below w.heap.size w wr) (fun i _ => bs.length - (intOf i).toNat)
  case atStart => exact ⟨0, by omega, rfl, hidE (by rw [Below.heap_alloc _ _ _ (by simp), heap_alloc_new]), hidE (heap_alloc_at _ _ _ (by simp)), by go_grown⟩
  case round =>
    obtain ⟨k, hk, rfl, X1, X2, hb⟩ := hrel
    have c1 : wr.cell? ⟨w.heap.size, 1, none⟩ = some (.slice a bs.length cap) := by rw [cell_of_row _ _ _ _ _ _ X1.out]; rfl
    have c2 : wr.cell? ⟨w.heap.size + 1, 1, none⟩ = some (.slice a2 bs.length cap2) := by rw [cell_of_row _ _ _ _ _ _ X2.out]; rfl
    by_cases hlt : k < bs.length
    · obtain ⟨b, off, rfl, hbl, hcs⟩ := H.out.at hlt
      obtain ⟨b2, off2, rfl, hbl2, hcs2⟩ := H2.out.at hlt
      obtain ⟨d0, d1, d2, d3⟩ := hcs.below hb hbl
      obtain ⟨f0, f1, f2, f3⟩ := hcs2.below hb hbl2
      obtain ⟨x, hx⟩ : ∃ x, bs[k] = x := ⟨_, rfl⟩
      rw [hx] at d0 d1 d2 d3 f0 f1 f2 f3
      obtain ⟨xs, xd, xm, xr⟩ := x
      simp only at d0 d1 d2 d3 f0 f1 f2 f3
      clear hcs hcs2 hx
      go_wp2_with fail
      go_quiet (fail)
      go_wp2_with fail
      go_roundw
      case rel => exact ⟨k + 1, by omega, by go_num, X1, X2, hb.trans (below_drewN' _ _)⟩
      case measure => simp [intOf]; omega
    · go_wp2_with fail
      go_ret
      exact ⟨rfl, hb⟩

/-- Join: the number of points, the bounds, the error. -/
def joinE (N M : Int) (bs cs : List Bd) : Int × List Bd × Int :=
  if checkP N bs ≠ 0 then (0, [], checkP N bs) else if checkP M cs ≠ 0 then (0, [], checkP M cs) else if N ≠ M then (0, [], 1) else if 2000 < bs.length + cs.length then (0, [], 2) else (N, bs ++ cs, 0)

/-- What a function owes that hands back a system and an error. -/
def SysPost (r : Int × List Bd × Int) (base : Nat) (e : Ending) (w' : World) : Prop := ∃ v, e = .returned (.tuple #[.agg #[.int .i64 r.1, v], .int .i64 r.2.2]) ∧ BoundsOut r.2.1 base v w'

theorem boundsOut_nil (base : Nat) (w : World) : BoundsOut [] base (.slice none 0 0) w := World.ownsRow_nil _ _ _ _

/-- A block that holds a system. -/
theorem sys_set {W : World} {q : Nat} {N : Int} {v : Value} {u0 u1 : Value} (h : W.heap[q]? = some (.cells #[u0, u1] 24 (0,0))) : ((W.setCell ⟨q, 0, none⟩ (.int .i64 N)).setCell ⟨q, 1, none⟩ v).heap[q]? = some (.cells #[.int .i64 N, v] 24 (0,0)) :=
  (heap_setCell_same _ _ _ _ _ _ (heap_setCell_same _ _ _ _ _ _ h)).trans rfl

/-- What stands at the head of the two functions Join: the two systems, and the result. -/
structure JSt (w W : World) (N M : Int) (a a2 : Option Addr) (cap cap2 : Nat) (bs cs : List Bd) : Prop where
  x0 : W.heap[w.heap.size]? = some (.cells #[.int .i64 N, .slice a bs.length cap] 24 (0,0))
  x1 : W.heap[w.heap.size + 1]? = some (.cells #[.int .i64 M, .slice a2 cs.length cap2] 24 (0,0))
  x2 : W.heap[w.heap.size + 1 + 1]? = some (.cells #[.int .i64 0, .slice none 0 0] 24 (0,0))
  bl : Below w.heap.size w W

theorem jst_start (w : World) (N M : Int) (a a2 : Option Addr) (cap cap2 : Nat) (bs cs : List Bd) :
    JSt w (((w.alloc (.cells #[.int .i64 N, .slice a bs.length cap] 24)).alloc (.cells #[.int .i64 M, .slice a2 cs.length cap2] 24)).alloc (.cells #[.int .i64 0, .slice none 0 0] 24)) N M a a2 cap cap2 bs cs :=
  ⟨by rw [Below.heap_alloc _ _ _ (by simp; omega), Below.heap_alloc _ _ _ (by simp), heap_alloc_new], by rw [Below.heap_alloc _ _ _ (by simp), heap_alloc_at _ _ _ (by simp)], heap_alloc_at _ _ _ (by simp), (((Below.refl _ _).alloc (Nat.le_refl _) _).alloc (by simp) _).alloc (by simp; omega) _⟩

theorem JSt.next {w W W' : World} {N M : Int} {a a2 : Option Addr} {cap cap2 : Nat} {bs cs : List Bd} (h : JSt w W N M a a2 cap cap2 bs cs) (hb : Below W.heap.size W W') : JSt w W' N M a a2 cap cap2 bs cs :=
  ⟨blk_below hb (lt_of_block h.x0) h.x0, blk_below hb (lt_of_block h.x1) h.x1, blk_below hb (lt_of_block h.x2) h.x2, h.bl.trans (hb.mono h.bl.size)⟩

theorem JSt.cells {w W : World} {N M : Int} {a a2 : Option Addr} {cap cap2 : Nat} {bs cs : List Bd} (h : JSt w W N M a a2 cap cap2 bs cs) :
    W.cell? ⟨w.heap.size, 0, none⟩ = some (.int .i64 N) ∧ W.cell? ⟨w.heap.size, 1, none⟩ = some (.slice a bs.length cap) ∧ W.cell? ⟨w.heap.size + 1, 0, none⟩ = some (.int .i64 M) ∧ W.cell? ⟨w.heap.size + 1, 1, none⟩ = some (.slice a2 cs.length cap2) ∧
    W.cell? ⟨w.heap.size + 1 + 1, 0, none⟩ = some (.int .i64 0) ∧ W.cell? ⟨w.heap.size + 1 + 1, 1, none⟩ = some (.slice none 0 0) ∧ (∀ i, W.frozen? ⟨w.heap.size + 1 + 1, i, none⟩ = false) ∧ w.heap.size + 1 + 1 < W.heap.size :=
  ⟨by rw [cell_of_row _ _ _ _ _ _ h.x0]; rfl, by rw [cell_of_row _ _ _ _ _ _ h.x0]; rfl, by rw [cell_of_row _ _ _ _ _ _ h.x1]; rfl, by rw [cell_of_row _ _ _ _ _ _ h.x1]; rfl, by rw [cell_of_row _ _ _ _ _ _ h.x2]; rfl, by rw [cell_of_row _ _ _ _ _ _ h.x2]; rfl, fun i => frozen_of_row _ _ _ _ _ h.x2, lt_of_block h.x2⟩

/-- The end where nothing is handed back but an error. -/
theorem JSt.zero {w W : World} {N M : Int} {a a2 : Option Addr} {cap cap2 : Nat} {bs cs : List Bd} (h : JSt w W N M a a2 cap cap2 bs cs) : Below w.heap.size w ((W.setCell ⟨w.heap.size + 1 + 1, 0, none⟩ (.int .i64 0)).setCell ⟨w.heap.size + 1 + 1, 1, none⟩ (.slice none 0 0)) :=
  (h.bl.setCell (by simp; omega) _).setCell (by simp; omega) _

/-- The end where a system is handed back. -/
theorem JSt.done {w W W2 : World} {N M : Int} {a a2 : Option Addr} {cap cap2 : Nat} {bs cs : List Bd} (h : JSt w W N M a a2 cap cap2 bs cs) {n : Nat} {l : List Bd} {u v : Value} (ho : W2.ownsRow W.heap.size 47 4 v n (flat l)) (hn : n = l.length) :
    BoundsOut l w.heap.size v ((W2.setCell ⟨w.heap.size + 1 + 1, 0, none⟩ u).setCell ⟨w.heap.size + 1 + 1, 1, none⟩ v) := by
  subst hn
  have hl := lt_of_block h.x2
  exact ownsRow_base (ownsRow_setCell_below (ownsRow_setCell_below ho hl _) hl _) h.bl.size
theorem JSt.after {w W : World} {N M : Int} {a a2 : Option Addr} {cap cap2 : Nat} {bs cs : List Bd} (h : JSt w W N M a a2 cap cap2 bs cs) (u v : Value) : Below w.heap.size w ((W.setCell ⟨w.heap.size + 1 + 1, 0, none⟩ u).setCell ⟨w.heap.size + 1 + 1, 1, none⟩ v) :=
  (h.bl.setCell (by simp; omega) _).setCell (by simp; omega) _

end Go.Proofs.YthcmjhellpjllaaGreat
