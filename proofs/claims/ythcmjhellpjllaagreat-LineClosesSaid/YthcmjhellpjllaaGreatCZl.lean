/- Walk: Rigid. No conditions beyond those stated. -/
import Derived.Test.YthcmjhellpjllaaGreatCZk
import Derived.Test.YthcmjhellpjllaaGreatCPlZ
import Derived.Test.YthcmjhellpjllaaGreatA3b
import Derived.Test.YthcmjhellpjllaaGreatCYk
import Derived.IntWalk
namespace Go.Proofs.YthcmjhellpjllaaGreat
open Go Go.RowKit Go.Shelf

theorem below_drewN_of {B : Nat} {V W Y : World} {n : Nat} (h : Y = W.drewN n) (hb : Below B V W) : Hid (Below B V Y) := by
  subst h; exact hidE (hb.trans (below_drewN' _ _))

/-- What stands between two points of Rigid. -/
structure RgSt (w2 W : World) (bd : Nat) (v : Value) (fl : List Bool) (ls : List (List Int)) : Prop where
  d : W.heap[bd]? = some (.cells (boolA fl) 4 (0,0))
  o : OwnsL W w2.heap.size v ls
  bl : Below w2.heap.size w2 W
/-- What stands between two looks at one class. -/
structure RiSt (w2 wr W : World) (bd : Nat) (v : Value) (fl : List Bool) (l : List Int) : Prop where
  d : W.heap[bd]? = some (.cells (boolA fl) 4 (0,0))
  o : W.ownsRow wr.heap.size 3 1 v l.length (intsV l)
  keep : ∀ q, q ≠ bd → q < wr.heap.size → W.heap[q]? = wr.heap[q]?
  sz : wr.heap.size ≤ W.heap.size
  bl : Below w2.heap.size w2 W

theorem RgSt.inner {w2 W : World} {bd : Nat} {v : Value} {fl : List Bool} {ls : List (List Int)} (s : RgSt w2 W bd v fl ls) : RiSt w2 W W bd (.slice none 0 0) fl [] :=
  ⟨s.d, World.ownsRow_nil _ _ _ _, fun _ _ _ => rfl, Nat.le_refl _, s.bl⟩
theorem RiSt.grow {w2 wr W W' : World} {bd : Nat} {v : Value} {fl : List Bool} {l : List Int} (s : RiSt w2 wr W bd v fl l) (hb : Below W.heap.size W W') : RiSt w2 wr W' bd v fl l :=
  ⟨blk_below hb (lt_of_block s.d) s.d, ownsRow_of_block s.o (fun g hg => hb.block g (owns_lt' s.o hg)), fun q h1 h2 => (hb.block q (Nat.lt_of_lt_of_le h2 s.sz)).trans (s.keep q h1 h2), Nat.le_trans s.sz hb.size, s.bl.trans (hb.mono s.bl.size)⟩
theorem RiSt.push {w2 wr W : World} {bd : Nat} {v : Value} {fl : List Bool} {l : List Int} (s : RiSt w2 wr W bd v fl l) (_hbd : bd < wr.heap.size) (h2 : w2.heap.size ≤ bd) (hc : w2.heap.size ≤ wr.heap.size) (b : Nat) (hl : l.length ≤ 100000) :
    ∃ v' W1, Hid ((Builtin.append_ #[35, 35] 35 #[v, .slice (some ⟨W.heap.size, 0, none⟩) 1 1]).run Tryz.prog (W.alloc (.cells #[.int .i64 (b : Int)] 3)) = .ok v' W1) ∧ Hid (W1.heap[bd]? = some (.cells (boolA fl) 4 (0,0))) ∧
      Hid (RiSt w2 wr (W1.setCell ⟨bd, b, none⟩ (.bool true)) bd v' (fl.set b true) (l ++ [(b : Int)])) := by
  have ba : Below W.heap.size W (W.alloc (.cells #[.int .i64 (b : Int)] 3)) := (Below.refl _ _).alloc (Nat.le_refl _) _
  have d0 : (W.alloc (.cells #[.int .i64 (b : Int)] 3)).heap[bd]? = some (.cells (boolA fl) 4 (0,0)) := blk_below ba (lt_of_block s.d) s.d
  have o0 : (W.alloc (.cells #[.int .i64 (b : Int)] 3)).ownsRow wr.heap.size 3 1 v l.length (intsV l) := World.ownsRow.alloc s.o _
  obtain ⟨v', W1, r1, p1, q1, k1⟩ := append_int (W.alloc (.cells #[.int .i64 (b : Int)] 3)) wr.heap.size v l o0 W.heap.size (b : Int) (heap_alloc_new _ _) hl (Nat.le_trans s.sz ba.size) 35
  have d1 : W1.heap[bd]? = some (.cells (boolA fl) 4 (0,0)) := (k1 bd (lt_of_block d0) (fun e => owns_type o0 d0 (by decide) e rfl)).trans d0
  refine ⟨v', W1, hidE r1, hidE d1, hidE ⟨?_, ?_, ?_, ?_, ?_⟩⟩
  · rw [← boolA_set]; exact heap_setCell_same _ _ _ _ _ _ d1
  · exact ownsRow_of_block p1 (fun g hg => heap_setCell_other _ _ _ _ (owns_type p1 d1 (by decide) hg))
  · intro q e1 e2
    exact (heap_setCell_other _ _ _ _ e1).trans ((q1.block q e2).trans ((ba.block q (Nat.lt_of_lt_of_le e2 s.sz)).trans (s.keep q e1 e2)))
  · have := q1.size
    have := ba.size
    have := s.sz
    rw [World.size_setCell]; omega
  · exact (s.bl.trans ((ba.mono s.bl.size).trans (q1.mono hc))).setCell (by exact h2) _
theorem RgSt.close {w2 wr wx : World} {bd : Nat} {v8 v10 : Value} {fl0 fl : List Bool} {ls : List (List Int)} {l : List Int} (g : RgSt w2 wr bd v8 fl0 ls) (s : RiSt w2 wr wx bd v10 fl l) (hl : ls.length ≤ 100000) :
    ∃ v' W2, Hid ((Builtin.append_ #[104, 104] 104 #[v8, .slice (some ⟨wx.heap.size, 0, none⟩) 1 1]).run Tryz.prog (wx.alloc (.cells #[v10] 35)) = .ok v' W2) ∧ Hid (RgSt w2 W2 bd v' fl (ls ++ [l])) := by
  have o8 : OwnsL wx w2.heap.size v8 ls := g.o.keep g.d (by decide) (by decide) s.keep
  have hs : wx.ownsRow w2.heap.size 3 1 v10 l.length (intsV l) := ownsRow_base s.o g.bl.size
  obtain ⟨v', W2, r, p, q, k⟩ := o8.append hs hl (Nat.le_trans g.bl.size s.sz) 104
  obtain ⟨sls, h1, _⟩ := o8
  exact ⟨v', W2, hidE r, hidE ⟨(k bd (lt_of_block s.d) (fun e => owns_type h1 s.d (by decide) e rfl)).trans s.d, p, s.bl.trans q⟩⟩

end Go.Proofs.YthcmjhellpjllaaGreat
