/- Walk: the law LineMemory. -/
import Derived.Test.YtejbpoclfjkllaaCZi
import Derived.Test.YtejbpoclfjkllaaCYh
import Derived.Test.YtejbpoclfjkllaaCY6
import Derived.Test.YtejbpoclfjkllaaCY2
import Derived.Test.YtejbpoclfjkllaaCYd
import Derived.Test.YtejbpoclfjkllaaCZj
import Derived.Test.YtejbpoclfjkllaaA5
namespace Go.Proofs.Ytejbpoclfjkllaa
open Go Go.RowKit Go.Shelf

theorem get_some {c : Array Value} {i : Nat} (h : i < c.size) : ∃ v, c[i]? = some v := ⟨c[i], Array.getElem?_eq_getElem h⟩
/-- Memory of the call's own, as far as it is written over. -/
def WOwn (base bx : Nat) (e : TypeId) (sz : Nat) (W : World) (o : Option Addr) (n : Nat) : Prop := n = 0 ∨ ∃ g cur, o = some ⟨g, 0, none⟩ ∧ base ≤ g ∧ g ≠ bx ∧ W.heap[g]? = some (.cells cur e (0,0)) ∧ n * sz ≤ cur.size
theorem WOwn.below {base bx : Nat} {e : TypeId} {sz : Nat} {W W' : World} {o : Option Addr} {n : Nat} (h : WOwn base bx e sz W o n) (hb : Below W.heap.size W W') : WOwn base bx e sz W' o n := by
  rcases h with h | ⟨g, cur, h1, h2, h3, h4, h5⟩
  · exact .inl h
  · exact .inr ⟨g, cur, h1, h2, h3, blk_below hb (lt_of_block h4) h4, h5⟩
theorem wown_of {W : World} {base bx : Nat} {e : TypeId} {sz : Nat} {v : Value} {n : Nat} {xs : List Value} (h : W.ownsRow base e sz v n xs) (hbx : ∀ g, base ≤ g ∧ g < W.heap.size → g ≠ bx) : ∃ o m c, v = .slice o m c ∧ m ≤ 9223372036854775807 ∧ WOwn base bx e sz W o m := by
  rcases h.2 with ⟨e1, h0⟩ | ⟨gb, cp, cur, e1, hge, hh, hn, hml, hsz, _⟩
  · exact ⟨none, 0, 0, e1, by omega, .inl rfl⟩
  · exact ⟨_, _, _, e1, by unfold maxLen at hml; omega, .inr ⟨gb, cur, rfl, hge, hbx gb ⟨hge, lt_of_block hh⟩, hh, by rw [hsz]; exact Nat.mul_le_mul_right _ hn⟩⟩
structure MemSt (w0 W : World) (base bx : Nat) (sys : Array Value) (e : TypeId) (sz : Nat) (o : Option Addr) (n : Nat) : Prop where
  box : W.heap[bx]? = some (.cells sys 24 (0,0))
  own : WOwn base bx e sz W o n
  bl : Below base w0 W
theorem MemSt.set1 {w0 W : World} {base bx : Nat} {sys : Array Value} {e : TypeId} {sz : Nat} {g n : Nat} {cur : Array Value} (s : MemSt w0 W base bx sys e sz (some ⟨g, 0, none⟩) n) (hg : W.heap[g]? = some (.cells cur e (0,0))) (h1 : base ≤ g) (h2 : g ≠ bx) (h3 : n * sz ≤ cur.size) {i : Nat} (u : Value) :
    MemSt w0 (W.setCell ⟨g, i, none⟩ u) base bx sys e sz (some ⟨g, 0, none⟩) n :=
  ⟨(heap_setCell_other _ _ _ _ (Ne.symm h2)).trans s.box, .inr ⟨g, cur.setIfInBounds i u, rfl, h1, h2, heap_setCell_same _ _ _ _ _ _ hg, by simpa using h3⟩, s.bl.setCell (by exact h1) _⟩
theorem MemSt.set4 {w0 W : World} {base bx : Nat} {sys : Array Value} {e : TypeId} {sz : Nat} {g n : Nat} {cur : Array Value} (s : MemSt w0 W base bx sys e sz (some ⟨g, 0, none⟩) n) (hg : W.heap[g]? = some (.cells cur e (0,0))) (h1 : base ≤ g) (h2 : g ≠ bx) (h3 : n * sz ≤ cur.size) {i0 i1 i2 i3 : Nat} (u0 u1 u2 u3 : Value) :
    MemSt w0 ((((W.setCell ⟨g, i0, none⟩ u0).setCell ⟨g, i1, none⟩ u1).setCell ⟨g, i2, none⟩ u2).setCell ⟨g, i3, none⟩ u3) base bx sys e sz (some ⟨g, 0, none⟩) n :=
  have a := s.set1 hg h1 h2 h3 (i := i0) u0
  have ga := heap_setCell_same _ _ i0 _ _ u0 hg
  have b := a.set1 ga h1 h2 (by simpa using h3) (i := i1) u1
  have gb := heap_setCell_same _ _ i1 _ _ u1 ga
  have c := b.set1 gb h1 h2 (by simpa using h3) (i := i2) u2
  have gc := heap_setCell_same _ _ i2 _ _ u2 gb
  c.set1 gc h1 h2 (by simpa using h3) (i := i3) u3

set_option maxRecDepth 100000 in
set_option maxHeartbeats 8000000 in
theorem lineMemory_any (w : World) (N : Int) (a : Option Addr) (cap : Nat) (bs : List Bd) (a2 : Option Addr) (cap2 : Nat) (y : List Int) (p v : Int) (hN : i64ok N) (hl : bs.length ≤ 9223372036854775807) (h : BoundsAt w a bs) (hsl : SliceOk a bs.length cap) (hl2 : y.length ≤ 9223372036854775807) (h2 : IntsAt w a2 y) :
    Calls Try.prog 18 #[.agg #[.int .i64 N, .slice a bs.length cap], .slice a2 y.length cap2, .int .i64 p, .int .i64 v] w fun e w' => e = .returned (.bool true) ∧ Below w.heap.size w w' := by
  have b0 : Below w.heap.size w (w.alloc (.cells #[.int .i64 N, .slice a bs.length cap] 24)) := (Below.refl _ _).alloc (Nat.le_refl _) _
  obtain ⟨f, hf⟩ : ∃ f, fewP N bs.length 14 40 = f := ⟨_, rfl⟩
  have hs := fun W => someL_any W N a cap bs.length
  rw [hf] at hs
  have hfew : f = true → checkP N bs = 0 → N ≤ 14 := fun e hc => (fewP_pts (hf.trans e) rfl (by omega) hc).1
  have hbl : f = true → bs.length ≤ 2005 := fun e => by
    have := hf.trans e
    unfold fewP at this
    simp only [Bool.or_eq_true, Bool.and_eq_true, decide_eq_true_eq] at this
    omega
  have B0 := hidE b0
  have HN := hidE hN
  have H := hidE h
  have H2 := hidE h2
  have HS := hidE hs
  have HFW := hidE hfew
  have HBL := hidE hbl
  clear b0 hN h h2 hs hf hfew hbl
  cases f with
  | false =>
    go_enter Try.func18, Try.ntmps18
    go_wp2_with fail
    refine (HS.out _).mono ?_
    rintro e w1 ⟨rfl, hb1⟩
    have B1 := hidE (B0.out.trans (hb1.mono B0.out.size))
    go_wp2_with fail
    refine (alive_any _).mono ?_
    rintro e w2 ⟨rfl, hb2⟩
    go_wp2_with fail
    go_ret
    exact ⟨rfl, B1.out.trans (hb2.mono B1.out.size)⟩
  | true =>
    by_cases c1 : y.length ≤ 20
    · have d1 : decide ((y.length : Int) > 20) = false := by simp; omega
      have h1 := fun W hb => withoutS_any W N a cap bs none 0 [] HN.out hl hsl hb (by simp) (.inl rfl)
      have h2 := fun W hb => join_any W N N a none cap 0 bs [] HN.out HN.out hl (by simp) hb (.inl rfl)
      have h3 := fun W hb => someE_any W N a cap bs HN.out hl hb
      have h4 := fun W hb => through_any W N a cap bs p v HN.out hl hb
      have h5 := fun W hb hb2 => kept_any W N a cap bs a2 cap2 y HN.out hl hl2 hb hb2
      have h6 := fun W o c hb => refsomeE_any W N o c bs HN.out hl hb (fun hc => by have := HFW.out rfl hc; omega)
      have h7 := someE_len (N := N) (bs := bs) (fun hc => by have := HFW.out rfl hc; omega)
      have hbsl := HBL.out rfl
      simp only [List.length_nil] at h1 h2
      obtain ⟨⟨M4, L4, q4⟩, hd1⟩ : ∃ t, withoutE N bs [] = t := ⟨_, rfl⟩
      obtain ⟨⟨M5, L5, q5⟩, hd2⟩ : ∃ t, joinE N N bs [] = t := ⟨_, rfl⟩
      obtain ⟨⟨L6, q6⟩, hd3⟩ : ∃ t, someE N bs = t := ⟨_, rfl⟩
      obtain ⟨⟨L7, r7, q7⟩, hd4⟩ : ∃ t, throughE N bs p v = t := ⟨_, rfl⟩
      obtain ⟨⟨t1, t2, t3⟩, hd5⟩ : ∃ t, keptE N bs y = t := ⟨_, rfl⟩
      rw [hd1] at h1
      rw [hd2] at h2
      rw [hd3] at h3 h6 h7
      rw [hd4] at h4
      rw [hd5] at h5
      simp only at h5 h7
      have HP1 := hidE h1
      have HP2 := hidE h2
      have HP3 := hidE h3
      have HP4 := hidE h4
      have HP5 := hidE h5
      have HP6 := hidE h6
      have HK := hidE h7
      clear h1 h2 h3 h4 h5 h6 h7 hd1 hd2 hd3 hd4 hd5
      go_enter Try.func18, Try.ntmps18
      go_wp2_with fail
      refine (HS.out _).mono ?_
      rintro _ w1 ⟨rfl, hb1⟩
      have X1 := hidE (blk_below hb1 (by simp) (heap_alloc_new w (.cells #[.int .i64 N, .slice a bs.length cap] 24)))
      have B1 := hidE (B0.out.trans (hb1.mono B0.out.size))
      clear hb1
      have l1 : w.heap.size < w1.heap.size := lt_of_block X1.out
      have f1 : w1.cell? ⟨w.heap.size, 1, none⟩ = some (.slice a bs.length cap) := by rw [cell_of_row _ _ _ _ _ _ X1.out]; rfl
      have ea : Below w1.heap.size w1 (w1.alloc (.cells #[] 44)) := (Below.refl _ _).alloc (Nat.le_refl _) _
      obtain ⟨v2, W2, r2, p2, q2⟩ := append_bounds (w1.alloc (.cells #[] 44)) w1.heap.size (.slice (some ⟨w1.heap.size, 0, none⟩) 0 0) [] (owns_empty (heap_alloc_new _ _) (Nat.le_refl _)) a cap bs (H.out.below (B1.out.trans (ea.mono B1.out.size)) (Nat.le_refl _)) (by simp) (by omega) ea.size 22
      rw [List.nil_append] at p2
      have hb2 : Below w1.heap.size w1 W2 := ea.trans q2
      obtain ⟨o2, k2, ev2, hbs2, _⟩ := boundsAt_of_out (l := bs) p2
      subst ev2
      have eb : Below W2.heap.size W2 (W2.alloc (.cells #[] 3)) := (Below.refl _ _).alloc (Nat.le_refl _) _
      have HY1 := H2.out.below (B1.out.trans (hb2.mono B1.out.size)) (Nat.le_refl _)
      obtain ⟨v3, w3, r3, p3, q3⟩ := append_ints (W2.alloc (.cells #[] 3)) W2.heap.size (.slice (some ⟨W2.heap.size, 0, none⟩) 0 0) [] (owns_empty_ints (heap_alloc_new _ _) (Nat.le_refl _)) a2 cap2 y (HY1.below eb (Nat.le_refl _)) (by simp) (by omega) eb.size 27
      rw [List.nil_append] at p3
      have hb3 : Below W2.heap.size W2 w3 := eb.trans q3
      obtain ⟨o3, k3, ev3, hy3⟩ := owns_intsAt (l := y) p3
      subst ev3
      have HR2 := hidE r2
      have HR3 := hidE r3
      have X2 := hidE (blk_below hb2 (lt_of_block X1.out) X1.out)
      have X3 := hidE (blk_below hb3 (lt_of_block X2.out) X2.out)
      have B2 := hidE (B1.out.trans (hb2.mono B1.out.size))
      have B3 := hidE (B2.out.trans (hb3.mono B2.out.size))
      have G3 := hidE (hbs2.below hb3 (Nat.le_refl _))
      have O3 := hidE hy3
      clear ea r2 p2 q2 hb2 hbs2 eb HY1 r3 p3 q3 hb3 hy3
      go_upto_region 5 with (first
        | (at_builtin; refine wpList_op_append rfl (s := .tmp 37) (x := .tmp 39) (t := 22) rfl rfl rfl HR2.out ?_)
        | (at_builtin; refine wpList_op_append rfl (s := .tmp 41) (x := .tmp 42) (t := 27) rfl rfl rfl HR3.out ?_))
      clear f1
      have f0 : w3.cell? ⟨w.heap.size, 0, none⟩ = some (.int .i64 N) := by rw [cell_of_row _ _ _ _ _ _ X3.out]; rfl
      have f1 : w3.cell? ⟨w.heap.size, 1, none⟩ = some (.slice a bs.length cap) := by rw [cell_of_row _ _ _ _ _ _ X3.out]; rfl
      go_wp2_with fail
      refine (HP1.out _ (H.out.below B3.out (Nat.le_refl _))).mono ?_
      rintro _ V4 ⟨⟨v4, rfl, ho4⟩, hb4⟩
      obtain ⟨o4, n4, c4, ev4, nm4, hw4⟩ := wown_of (bx := V4.heap.size) ho4 (fun g hg => by omega)
      subst ev4
      go_upto_region 6 with fail
      obtain ⟨U4, hU4⟩ : ∃ X, X = V4.alloc (.cells #[.int .i64 M4, .slice o4 n4 c4] 24) := ⟨_, rfl⟩
      rw [← hU4]
      have hbu4 : Below V4.heap.size V4 U4 := by rw [hU4]; exact (Below.refl _ _).alloc (Nat.le_refl _) _
      have hms4 : MemSt w3 U4 w3.heap.size V4.heap.size #[.int .i64 M4, .slice o4 n4 c4] 44 4 o4 n4 := ⟨by rw [hU4]; exact heap_alloc_new _ _, hw4.below hbu4, hb4.trans (hbu4.mono hb4.size)⟩
      have HMS4 := hidE hms4
      obtain ⟨bx4, hbx4⟩ : ∃ b, b = V4.heap.size := ⟨_, rfl⟩
      rw [← hbx4] at HMS4 ⊢
      have lbx4 : w3.heap.size ≤ bx4 := by rw [hbx4]; exact hb4.size
      clear hU4 hbu4 hms4 hw4 ho4 hb4 hbx4 f0 f1
      have d1 : U4.cell? ⟨bx4, 1, none⟩ = some (.slice o4 n4 c4) := by rw [cell_of_row _ _ _ _ _ _ HMS4.out.box]; rfl
      go_wp2_with fail
      clear d1
      go_loopw [52] (fun i wr => ∃ j : Nat, j ≤ n4 ∧ i = .int .i64 j ∧ Hid (MemSt w3 wr w3.heap.size bx4 #[.int .i64 M4, .slice o4 n4 c4] 44 4 o4 n4)) (fun i _ => n4 - (intOf i).toNat)
      case atStart => exact ⟨0, by omega, rfl, HMS4⟩
      case round =>
        obtain ⟨j, hj, rfl, hst⟩ := hrel
        by_cases hlt : j < n4
        · have d1 : wr.cell? ⟨bx4, 1, none⟩ = some (.slice o4 n4 c4) := by rw [cell_of_row _ _ _ _ _ _ hst.out.box]; rfl
          have jn : (j : Int) < (n4 : Int) := by omega
          obtain ⟨g, cur, rfl, hg1, hg2, hg3, hg4⟩ := hst.out.own.resolve_left (by omega)
          obtain ⟨u0, hu0⟩ := get_some (show j * 4 < cur.size by omega)
          obtain ⟨u1, hu1⟩ := get_some (show j * 4 + 1 < cur.size by omega)
          obtain ⟨u2, hu2⟩ := get_some (show j * 4 + 2 < cur.size by omega)
          obtain ⟨u3, hu3⟩ := get_some (show j * 4 + 3 < cur.size by omega)
          have e0 : wr.cell? ⟨g, j * 4, none⟩ = some u0 := by rw [cell_of_row _ _ _ _ _ _ hg3]; exact hu0
          have e1 : wr.cell? ⟨g, j * 4 + 1, none⟩ = some u1 := by rw [cell_of_row _ _ _ _ _ _ hg3]; exact hu1
          have e2 : wr.cell? ⟨g, j * 4 + 2, none⟩ = some u2 := by rw [cell_of_row _ _ _ _ _ _ hg3]; exact hu2
          have e3 : wr.cell? ⟨g, j * 4 + 3, none⟩ = some u3 := by rw [cell_of_row _ _ _ _ _ _ hg3]; exact hu3
          have fz : ∀ i, wr.frozen? ⟨g, i, none⟩ = false := fun i => frozen_of_row _ _ _ _ _ hg3
          have HG3 := hidE hg3
          clear hu0 hu1 hu2 hu3 hg3
          go_wp2_with fail
          go_roundw
          case rel => exact ⟨j + 1, by omega, by go_num, hidE (hst.out.set4 HG3.out hg1 hg2 hg4 _ _ _ _)⟩
          case measure => simp [intOf]; omega
        · obtain rfl : j = n4 := by omega
          obtain ⟨w4, rfl⟩ : ∃ x : World, x = wr := ⟨wr, rfl⟩
          have hb4 := hst.out.bl
          have X4 := hidE (blk_below hb4 (lt_of_block X3.out) X3.out)
          have B4 := hidE (B3.out.trans (hb4.mono B3.out.size))
          have G4 := hidE (G3.out.below hb4 (Nat.le_refl _))
          have O4 := hidE (O3.out.below hb4 (Nat.le_refl _))
          clear hb4 hst hlt hj
          have f0 : w4.cell? ⟨w.heap.size, 0, none⟩ = some (.int .i64 N) := by rw [cell_of_row _ _ _ _ _ _ X4.out]; rfl
          have f1 : w4.cell? ⟨w.heap.size, 1, none⟩ = some (.slice a bs.length cap) := by rw [cell_of_row _ _ _ _ _ _ X4.out]; rfl
          go_wp2_with fail
          refine (HP2.out _ (H.out.below B4.out (Nat.le_refl _))).mono ?_
          rintro _ V5 ⟨⟨v5, rfl, ho5⟩, hb5⟩
          obtain ⟨o5, n5, c5, ev5, nm5, hw5⟩ := wown_of (bx := V5.heap.size) ho5 (fun g hg => by omega)
          subst ev5
          go_upto_region 12 with fail
          obtain ⟨U5, hU5⟩ : ∃ X, X = V5.alloc (.cells #[.int .i64 M5, .slice o5 n5 c5] 24) := ⟨_, rfl⟩
          rw [← hU5]
          have hbu5 : Below V5.heap.size V5 U5 := by rw [hU5]; exact (Below.refl _ _).alloc (Nat.le_refl _) _
          have hms5 : MemSt w4 U5 w4.heap.size V5.heap.size #[.int .i64 M5, .slice o5 n5 c5] 44 4 o5 n5 := ⟨by rw [hU5]; exact heap_alloc_new _ _, hw5.below hbu5, hb5.trans (hbu5.mono hb5.size)⟩
          have HMS5 := hidE hms5
          obtain ⟨bx5, hbx5⟩ : ∃ b, b = V5.heap.size := ⟨_, rfl⟩
          rw [← hbx5] at HMS5 ⊢
          have lbx5 : w4.heap.size ≤ bx5 := by rw [hbx5]; exact hb5.size
          clear hU5 hbu5 hms5 hw5 ho5 hb5 hbx5 f0 f1
          have d1 : U5.cell? ⟨bx5, 1, none⟩ = some (.slice o5 n5 c5) := by rw [cell_of_row _ _ _ _ _ _ HMS5.out.box]; rfl
          go_wp2_with fail
          clear d1
          go_loopw [72] (fun i wr => ∃ j : Nat, j ≤ n5 ∧ i = .int .i64 j ∧ Hid (MemSt w4 wr w4.heap.size bx5 #[.int .i64 M5, .slice o5 n5 c5] 44 4 o5 n5)) (fun i _ => n5 - (intOf i).toNat)
          case atStart => exact ⟨0, by omega, rfl, HMS5⟩
          case round =>
            obtain ⟨j, hj, rfl, hst⟩ := hrel
            by_cases hlt : j < n5
            · have d1 : wr.cell? ⟨bx5, 1, none⟩ = some (.slice o5 n5 c5) := by rw [cell_of_row _ _ _ _ _ _ hst.out.box]; rfl
              have jn : (j : Int) < (n5 : Int) := by omega
              obtain ⟨g, cur, rfl, hg1, hg2, hg3, hg4⟩ := hst.out.own.resolve_left (by omega)
              obtain ⟨u0, hu0⟩ := get_some (show j * 4 < cur.size by omega)
              obtain ⟨u1, hu1⟩ := get_some (show j * 4 + 1 < cur.size by omega)
              obtain ⟨u2, hu2⟩ := get_some (show j * 4 + 2 < cur.size by omega)
              obtain ⟨u3, hu3⟩ := get_some (show j * 4 + 3 < cur.size by omega)
              have e0 : wr.cell? ⟨g, j * 4, none⟩ = some u0 := by rw [cell_of_row _ _ _ _ _ _ hg3]; exact hu0
              have e1 : wr.cell? ⟨g, j * 4 + 1, none⟩ = some u1 := by rw [cell_of_row _ _ _ _ _ _ hg3]; exact hu1
              have e2 : wr.cell? ⟨g, j * 4 + 2, none⟩ = some u2 := by rw [cell_of_row _ _ _ _ _ _ hg3]; exact hu2
              have e3 : wr.cell? ⟨g, j * 4 + 3, none⟩ = some u3 := by rw [cell_of_row _ _ _ _ _ _ hg3]; exact hu3
              have fz : ∀ i, wr.frozen? ⟨g, i, none⟩ = false := fun i => frozen_of_row _ _ _ _ _ hg3
              have HG3 := hidE hg3
              clear hu0 hu1 hu2 hu3 hg3
              go_wp2_with fail
              go_roundw
              case rel => exact ⟨j + 1, by omega, by go_num, hidE (hst.out.set4 HG3.out hg1 hg2 hg4 _ _ _ _)⟩
              case measure => simp [intOf]; omega
            · obtain rfl : j = n5 := by omega
              obtain ⟨w5, rfl⟩ : ∃ x : World, x = wr := ⟨wr, rfl⟩
              have hb5 := hst.out.bl
              have X5 := hidE (blk_below hb5 (lt_of_block X4.out) X4.out)
              have B5 := hidE (B4.out.trans (hb5.mono B4.out.size))
              have G5 := hidE (G4.out.below hb5 (Nat.le_refl _))
              have O5 := hidE (O4.out.below hb5 (Nat.le_refl _))
              clear hb5 hst hlt hj
              have f0 : w5.cell? ⟨w.heap.size, 0, none⟩ = some (.int .i64 N) := by rw [cell_of_row _ _ _ _ _ _ X5.out]; rfl
              have f1 : w5.cell? ⟨w.heap.size, 1, none⟩ = some (.slice a bs.length cap) := by rw [cell_of_row _ _ _ _ _ _ X5.out]; rfl
              go_wp2_with fail
              refine (HP3.out _ (H.out.below B5.out (Nat.le_refl _))).mono ?_
              rintro _ V6 ⟨⟨v6, rfl, ho6⟩, hb6⟩
              obtain ⟨o6, n6, c6, ev6, nm6, hw6⟩ := wown_of (bx := w.heap.size) ho6 (fun g hg => by have := B5.out.size; have := lt_of_block X5.out; omega)
              subst ev6
              have hms6 : MemSt w5 V6 w5.heap.size w.heap.size #[.int .i64 N, .slice a bs.length cap] 3 1 o6 n6 := ⟨blk_below hb6 (lt_of_block X5.out) X5.out, hw6, hb6⟩
              have HMS6 := hidE hms6
              clear hms6 hw6 ho6 hb6 f0 f1
              go_wp2_with fail
              go_loopw [88] (fun i wr => ∃ j : Nat, j ≤ n6 ∧ i = .int .i64 j ∧ Hid (MemSt w5 wr w5.heap.size w.heap.size #[.int .i64 N, .slice a bs.length cap] 3 1 o6 n6)) (fun i _ => n6 - (intOf i).toNat)
              case atStart => exact ⟨0, by omega, rfl, HMS6⟩
              case round =>
                obtain ⟨j, hj, rfl, hst⟩ := hrel
                by_cases hlt : j < n6
                · have jn : (j : Int) < (n6 : Int) := by omega
                  obtain ⟨g, cur, rfl, hg1, hg2, hg3, hg4⟩ := hst.out.own.resolve_left (by omega)
                  obtain ⟨u0, hu0⟩ := get_some (show j < cur.size by omega)
                  have e0 : wr.cell? ⟨g, j, none⟩ = some u0 := by rw [cell_of_row _ _ _ _ _ _ hg3]; exact hu0
                  have fz : wr.frozen? ⟨g, j, none⟩ = false := frozen_of_row _ _ _ _ _ hg3
                  have HG3 := hidE hg3
                  clear hu0 hg3
                  go_wp2_with fail
                  go_roundw
                  case rel => exact ⟨j + 1, by omega, by go_num, hidE (hst.out.set1 HG3.out hg1 hg2 hg4 _)⟩
                  case measure => simp [intOf]; omega
                · obtain rfl : j = n6 := by omega
                  obtain ⟨w6, rfl⟩ : ∃ x : World, x = wr := ⟨wr, rfl⟩
                  have hb6 := hst.out.bl
                  have X6 := hidE (blk_below hb6 (lt_of_block X5.out) X5.out)
                  have B6 := hidE (B5.out.trans (hb6.mono B5.out.size))
                  have G6 := hidE (G5.out.below hb6 (Nat.le_refl _))
                  have O6 := hidE (O5.out.below hb6 (Nat.le_refl _))
                  clear hb6 hst hlt hj
                  have f0 : w6.cell? ⟨w.heap.size, 0, none⟩ = some (.int .i64 N) := by rw [cell_of_row _ _ _ _ _ _ X6.out]; rfl
                  have f1 : w6.cell? ⟨w.heap.size, 1, none⟩ = some (.slice a bs.length cap) := by rw [cell_of_row _ _ _ _ _ _ X6.out]; rfl
                  go_wp2_with fail
                  refine (HP4.out _ (H.out.below B6.out (Nat.le_refl _))).mono ?_
                  rintro _ V7 ⟨⟨v7, rfl, ho7⟩, hb7⟩
                  obtain ⟨o7, n7, c7, ev7, nm7, hw7⟩ := wown_of (bx := w.heap.size) ho7 (fun g hg => by have := B6.out.size; have := lt_of_block X6.out; omega)
                  subst ev7
                  have hms7 : MemSt w6 V7 w6.heap.size w.heap.size #[.int .i64 N, .slice a bs.length cap] 3 1 o7 n7 := ⟨blk_below hb7 (lt_of_block X6.out) X6.out, hw7, hb7⟩
                  have HMS7 := hidE hms7
                  clear hms7 hw7 ho7 hb7 f0 f1
                  go_wp2_with fail
                  go_loopw [105] (fun i wr => ∃ j : Nat, j ≤ n7 ∧ i = .int .i64 j ∧ Hid (MemSt w6 wr w6.heap.size w.heap.size #[.int .i64 N, .slice a bs.length cap] 3 1 o7 n7)) (fun i _ => n7 - (intOf i).toNat)
                  case atStart => exact ⟨0, by omega, rfl, HMS7⟩
                  case round =>
                    obtain ⟨j, hj, rfl, hst⟩ := hrel
                    by_cases hlt : j < n7
                    · have jn : (j : Int) < (n7 : Int) := by omega
                      obtain ⟨g, cur, rfl, hg1, hg2, hg3, hg4⟩ := hst.out.own.resolve_left (by omega)
                      obtain ⟨u0, hu0⟩ := get_some (show j < cur.size by omega)
                      have e0 : wr.cell? ⟨g, j, none⟩ = some u0 := by rw [cell_of_row _ _ _ _ _ _ hg3]; exact hu0
                      have fz : wr.frozen? ⟨g, j, none⟩ = false := frozen_of_row _ _ _ _ _ hg3
                      have HG3 := hidE hg3
                      clear hu0 hg3
                      go_wp2_with fail
                      go_roundw
                      case rel => exact ⟨j + 1, by omega, by go_num, hidE (hst.out.set1 HG3.out hg1 hg2 hg4 _)⟩
                      case measure => simp [intOf]; omega
                    · obtain rfl : j = n7 := by omega
                      obtain ⟨w7, rfl⟩ : ∃ x : World, x = wr := ⟨wr, rfl⟩
                      have hb7 := hst.out.bl
                      have X7 := hidE (blk_below hb7 (lt_of_block X6.out) X6.out)
                      have B7 := hidE (B6.out.trans (hb7.mono B6.out.size))
                      have G7 := hidE (G6.out.below hb7 (Nat.le_refl _))
                      have O7 := hidE (O6.out.below hb7 (Nat.le_refl _))
                      clear hb7 hst hlt hj
                      have f0 : w7.cell? ⟨w.heap.size, 0, none⟩ = some (.int .i64 N) := by rw [cell_of_row _ _ _ _ _ _ X7.out]; rfl
                      have f1 : w7.cell? ⟨w.heap.size, 1, none⟩ = some (.slice a bs.length cap) := by rw [cell_of_row _ _ _ _ _ _ X7.out]; rfl
                      go_wp2_with fail
                      refine (HP5.out _ (H.out.below B7.out (Nat.le_refl _)) (H2.out.below B7.out (Nat.le_refl _))).mono ?_
                      rintro _ w8 ⟨rfl, hb8⟩
                      have X8 := hidE (blk_below hb8 (lt_of_block X7.out) X7.out)
                      have B8 := hidE (B7.out.trans (hb8.mono B7.out.size))
                      have G8 := hidE (G7.out.below hb8 (Nat.le_refl _))
                      have O8 := hidE (O7.out.below hb8 (Nat.le_refl _))
                      clear hb8 f0 f1
                      have f0 : w8.cell? ⟨w.heap.size, 0, none⟩ = some (.int .i64 N) := by rw [cell_of_row _ _ _ _ _ _ X8.out]; rfl
                      have f1 : w8.cell? ⟨w.heap.size, 1, none⟩ = some (.slice a bs.length cap) := by rw [cell_of_row _ _ _ _ _ _ X8.out]; rfl
                      go_wp2_with fail
                      refine (HP3.out _ (H.out.below B8.out (Nat.le_refl _))).mono ?_
                      rintro _ w9 ⟨⟨v9, rfl, ho9⟩, hb9⟩
                      obtain ⟨o9, c9, rfl, hi9⟩ := owns_intsAt ho9
                      have X9 := hidE (blk_below hb9 (lt_of_block X8.out) X8.out)
                      have B9 := hidE (B8.out.trans (hb9.mono B8.out.size))
                      have G9 := hidE (G8.out.below hb9 (Nat.le_refl _))
                      have O9 := hidE (O8.out.below hb9 (Nat.le_refl _))
                      have I9 := hidE hi9
                      clear hb9 ho9 hi9 f0 f1
                      have f0 : w9.cell? ⟨w.heap.size, 0, none⟩ = some (.int .i64 N) := by rw [cell_of_row _ _ _ _ _ _ X9.out]; rfl
                      have f1 : w9.cell? ⟨w.heap.size, 1, none⟩ = some (.slice a bs.length cap) := by rw [cell_of_row _ _ _ _ _ _ X9.out]; rfl
                      go_wp2_with fail
                      refine (HP6.out _ _ _ G9.out).mono ?_
                      rintro _ w10 ⟨⟨v10, rfl, ho10⟩, hb10⟩
                      obtain ⟨o10, c10, rfl, hi10⟩ := owns_intsAt ho10
                      have X10 := hidE (blk_below hb10 (lt_of_block X9.out) X9.out)
                      have B10 := hidE (B9.out.trans (hb10.mono B9.out.size))
                      have G10 := hidE (G9.out.below hb10 (Nat.le_refl _))
                      have O10 := hidE (O9.out.below hb10 (Nat.le_refl _))
                      have I10 := hidE (I9.out.below hb10 (Nat.le_refl _))
                      have J10 := hidE hi10
                      clear hb10 ho10 hi10 f0 f1
                      go_wp2_with fail
                      refine (alive_any _).mono ?_
                      rintro _ w11 ⟨rfl, hb11⟩
                      have X11 := hidE (blk_below hb11 (lt_of_block X10.out) X10.out)
                      have B11 := hidE (B10.out.trans (hb11.mono B10.out.size))
                      have G11 := hidE (G10.out.below hb11 (Nat.le_refl _))
                      have O11 := hidE (O10.out.below hb11 (Nat.le_refl _))
                      have hsi := sameInts_any w11 o9 c9 L6 o10 c10 L6 (I10.out.below hb11 (Nat.le_refl _)) (J10.out.below hb11 (Nat.le_refl _)) (by have := HK.out; omega) (by have := HK.out; omega)
                      rw [show decide (L6 = L6) = true by simp] at hsi
                      have HSI := hidE hsi
                      clear hsi hb11
                      go_wp2_with fail
                      refine HSI.out.mono ?_
                      rintro _ w12 ⟨rfl, hb12⟩
                      have X12 := hidE (blk_below hb12 (lt_of_block X11.out) X11.out)
                      have B12 := hidE (B11.out.trans (hb12.mono B11.out.size))
                      have G12 := hidE (G11.out.below hb12 (Nat.le_refl _))
                      have O12 := hidE (O11.out.below hb12 (Nat.le_refl _))
                      have hsj := sameInts_any w12 a2 cap2 y o3 k3 y (H2.out.below B12.out (Nat.le_refl _)) O12.out hl2 hl2
                      rw [show decide (y = y) = true by simp] at hsj
                      have HSJ := hidE hsj
                      clear hsj hb12
                      go_wp2_with fail
                      refine HSJ.out.mono ?_
                      rintro _ w13 ⟨rfl, hb13⟩
                      have X13 := hidE (blk_below hb13 (lt_of_block X12.out) X12.out)
                      have B13 := hidE (B12.out.trans (hb13.mono B12.out.size))
                      have G13 := hidE (G12.out.below hb13 (Nat.le_refl _))
                      have O13 := hidE (O12.out.below hb13 (Nat.le_refl _))
                      clear hb13
                      have f0 : w13.cell? ⟨w.heap.size, 0, none⟩ = some (.int .i64 N) := by rw [cell_of_row _ _ _ _ _ _ X13.out]; rfl
                      have f1 : w13.cell? ⟨w.heap.size, 1, none⟩ = some (.slice a bs.length cap) := by rw [cell_of_row _ _ _ _ _ _ X13.out]; rfl
                      go_wp2_with fail
                      refine (same_any w13 N a cap o2 k2 bs hl (H.out.below B13.out (Nat.le_refl _)) G13.out).mono ?_
                      rintro _ w14 ⟨rfl, hb14⟩
                      go_wp2_with fail
                      go_ret
                      exact ⟨rfl, B13.out.trans (hb14.mono B13.out.size)⟩
    · have d1 : decide ((y.length : Int) > 20) = true := by simp; omega
      go_enter Try.func18, Try.ntmps18
      go_wp2_with fail
      refine (HS.out _).mono ?_
      rintro e w1 ⟨rfl, hb1⟩
      have B1 := hidE (B0.out.trans (hb1.mono B0.out.size))
      go_wp2_with fail
      refine (alive_any _).mono ?_
      rintro e w2 ⟨rfl, hb2⟩
      go_wp2_with fail
      go_ret
      exact ⟨rfl, B1.out.trans (hb2.mono B1.out.size)⟩

end Go.Proofs.Ytejbpoclfjkllaa
