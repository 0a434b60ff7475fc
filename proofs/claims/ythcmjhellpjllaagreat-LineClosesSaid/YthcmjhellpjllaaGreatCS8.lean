/- Walk: the reference's Close. Conditions: at most 40 points where the system is checked. -/
import Derived.Test.YthcmjhellpjllaaGreatCS6
import Derived.Test.YthcmjhellpjllaaGreatCYa
namespace Go.Proofs.YthcmjhellpjllaaGreat
open Go Go.RowKit Go.Shelf

/-- One bound more: the run, and what lies then. -/
theorem ClSt.push0 {w w3 W : World} {bo : Nat} {R : Int} {a : Option Addr} {len cap : Nat} {v : Value} {l : List Bd} (s : ClSt w w3 W bo R a len cap v l) (h0 : w.heap.size + 1 < bo) (h1 : bo < w3.heap.size) (q : Bd) (hl : l.length ≤ 100000) :
    ∃ o n c W1, Hid ((Builtin.append_ #[22, 22] 22 #[v, .slice (some ⟨W.heap.size, 0, none⟩) 1 1]).run Tryz.prog (W.alloc (.cells #[.int .i64 q.src, .int .i64 q.dst, .int .i64 q.most, .int .i64 q.rcd] 47)) = .ok (.slice o n c) W1) ∧ Hid (W1.heap[bo]? = some (.cells #[.int .i64 R, v] 24 (0,0))) ∧ Hid (∀ p, p ≠ bo → p < w3.heap.size → W1.heap[p]? = w3.heap[p]?) ∧
      Hid (ClSt w w3 (W1.setCell ⟨bo, 1, none⟩ (.slice o n c)) bo R a len cap (.slice o n c) (l ++ [q])) := by
  have ba : Below W.heap.size W (W.alloc (.cells #[.int .i64 q.src, .int .i64 q.dst, .int .i64 q.most, .int .i64 q.rcd] 47)) := (Below.refl _ _).alloc (Nat.le_refl _) _
  have sa := s.grow ba
  obtain ⟨v', W1, r1, p1, q1, k1⟩ := append_bd (W.alloc (.cells #[.int .i64 q.src, .int .i64 q.dst, .int .i64 q.most, .int .i64 q.rcd] 47)) w3.heap.size v l sa.own W.heap.size q (heap_alloc_new _ _) hl sa.sz 22
  obtain ⟨o', c', e', _⟩ := boundsAt_of_out (l := l ++ [q]) (by simpa [BoundsOut] using p1)
  obtain ⟨n', hn'⟩ : ∃ n, (l ++ [q]).length = n := ⟨_, rfl⟩
  rw [hn'] at e' p1
  subst e'
  have b3 : w.heap.size ≤ w3.heap.size := by omega
  have y0 := (q1.block _ (by omega)).trans sa.x0
  have y1 := (q1.block _ (by omega)).trans sa.x1
  have yo := (q1.block _ h1).trans sa.xo
  refine ⟨o', n', c', W1, hidE r1, hidE yo, hidE (fun p e1 e2 => (q1.block p e2).trans (sa.keep p e1 e2)), hidE ⟨?_, ?_, ?_, ?_, ?_, ?_, ?_⟩⟩
  · rw [heap_setCell_other _ _ _ _ (by simp; omega)]; exact y0
  · rw [heap_setCell_other _ _ _ _ (by simp; omega)]; exact y1
  · exact (heap_setCell_same _ _ _ _ _ _ yo).trans rfl
  · intro p e1 e2
    exact (heap_setCell_other _ _ _ _ e1).trans ((q1.block p e2).trans (sa.keep p e1 e2))
  · have p2 : W1.ownsRow w3.heap.size 47 4 (.slice o' n' c') (l ++ [q]).length (flat (l ++ [q])) := by rw [hn']; exact p1
    exact ownsRow_of_block p2 (fun g hg => heap_setCell_other _ _ _ _ (owns_type p2 yo (by decide) hg))
  · have := sa.sz
    have := q1.size
    rw [World.size_setCell]; omega
  · exact (sa.bl.trans (q1.mono b3)).setCell (by show w.heap.size ≤ bo; omega) _

/-- A matrix stays where only the result's block is written. -/
theorem MatAt.kept {w3 W : World} {B R bo : Nat} {d : List (List Fr)} {c : Array Value} (h : MatAt w3 B R d) (hbo : w3.heap[bo]? = some (.cells c 24 (0,0))) (k : ∀ p, p ≠ bo → p < w3.heap.size → W.heap[p]? = w3.heap[p]?) : MatAt W B R d := by
  have key : ∀ (p : Nat) (cs : Array Value) (ty : TypeId), ty ≠ 24 → w3.heap[p]? = some (.cells cs ty (0,0)) → W.heap[p]? = some (.cells cs ty (0,0)) := by
    intro p cs ty hty hp
    rw [k p (fun e => ?_) (lt_of_block hp)]
    · exact hp
    · subst e
      rw [hbo] at hp
      injection hp with hp
      injection hp with _ hp
      exact hty hp.symm
  exact ⟨key _ _ _ (by decide) h.out, fun i hi => key _ _ _ (by decide) (h.row i hi)⟩

set_option maxRecDepth 100000 in
set_option maxHeartbeats 4000000 in
theorem refclose_any (w : World) (N : Int) (a : Option Addr) (cap : Nat) (bs : List Bd) (hN : i64ok N) (hl : bs.length ≤ 9223372036854775807) (h : BoundsAt w a bs) (hsm : checkP N bs = 0 → N ≤ 40) :
    Calls Tryz.prog 7 #[.agg #[.int .i64 N, .slice a bs.length cap]] w fun e w' => ClosePost (closeE N bs) w.heap.size e w' ∧ Below w.heap.size w w' := by
  have H := hidE h
  have HN := hidE hN
  clear h hN
  obtain ⟨W0, hW0⟩ : ∃ X, X = (w.alloc (.cells #[.int .i64 N, .slice a bs.length cap] 24)).alloc (.cells #[.int .i64 0, .slice none 0 0] 24) := ⟨_, rfl⟩
  have hB0 : Below w.heap.size w W0 := by rw [hW0]; exact ((Below.refl _ _).alloc (Nat.le_refl _) _).alloc (by simp) _
  have hx0 : W0.heap[w.heap.size]? = some (.cells #[.int .i64 N, .slice a bs.length cap] 24 (0,0)) := by rw [hW0, Below.heap_alloc _ _ _ (by simp), heap_alloc_new]
  have hx1 : W0.heap[w.heap.size + 1]? = some (.cells #[.int .i64 0, .slice none 0 0] 24 (0,0)) := by rw [hW0, heap_alloc_at _ _ _ (by simp)]
  have hask : Calls Tryz.prog 26 #[.agg #[.int .i64 N, .slice a bs.length cap], .slice none 0 0] W0 _ :=
    pointed_any _ N a cap bs none 0 [] HN.out hl (by simp) (H.out.below hB0 (Nat.le_refl _)) (.inl rfl)
  have X0 := hidE hx0
  have X1 := hidE hx1
  have HB0 := hidE hB0
  have HW0 := hidE hW0
  have e0 : W0.cell? ⟨w.heap.size, 0, none⟩ = some (.int .i64 N) := by rw [cell_of_row _ _ _ _ _ _ hx0]; rfl
  have e1 : W0.cell? ⟨w.heap.size, 1, none⟩ = some (.slice a bs.length cap) := by rw [cell_of_row _ _ _ _ _ _ hx0]; rfl
  clear hx0 hx1 hB0 hW0
  by_cases he : askedE N bs [] = 0
  · have h40 := hsm (askedE_zero he).1
    obtain ⟨R, t, rfl, ht, HO⟩ := asked0 he
    have h40' : R ≤ 40 := by omega
    have hgood := fun hf => closeE_ok (N := R) (bs := bs) he hf
    have hbad := fun hf => closeE_bad (N := R) (bs := bs) he hf
    have hn0 := HO.n0
    rw [he] at hask
    have hdim := matrix_dim HO
    have hfr := fun (p q : Nat) (hp : p < R) (hq : q < R) => frV_dist HO ht hp hq
    have hmat := fun W hb => matrix_net W R a cap bs t HO h40' hb
    have hlen := closeL_len R (distN R bs)
    obtain ⟨d, hdd⟩ : ∃ d, matrixP R bs = d := ⟨_, rfl⟩
    obtain ⟨D, hD⟩ : ∃ D, distN R bs = D := ⟨_, rfl⟩
    rw [hD] at hgood hbad hfr hlen
    rw [hdd] at hdim hfr hmat
    have hRR : R * R ≤ 1600 := Nat.le_trans (Nat.mul_le_mul h40' h40') (by decide)
    have hsz : ∀ k b, k < R → b ≤ R → (closeAt D R k b).length ≤ 1600 := fun k b hk hb => Nat.le_trans (closeAt_len hk hb) hRR
    have HGD := hidE hgood
    have HBA := hidE hbad
    have HA := hidE hask
    have HDIM := hidE hdim
    have HFR := hidE hfr
    have HM := hidE hmat
    have HSZ := hidE hsz
    have HLL := hidE hlen
    have HRR := hidE hRR
    clear hgood hbad hask hdim hfr hmat hsz hdd hD he ht HO hsm hlen hRR
    go_enter Tryz.func7, Tryz.ntmps7
    go_upto_region 1 with fail
    rw [← HW0.out]
    go_wp2_with fail
    refine HA.out.mono ?_
    rintro e w1 ⟨rfl, hb1⟩
    have x1 := blk_below hb1 (lt_of_block X0.out) X0.out
    have y1 := blk_below hb1 (lt_of_block X1.out) X1.out
    clear e0 e1
    have e0 : w1.cell? ⟨w.heap.size, 0, none⟩ = some (.int .i64 (R : Int)) := by rw [cell_of_row _ _ _ _ _ _ x1]; rfl
    have e1 : w1.cell? ⟨w.heap.size, 1, none⟩ = some (.slice a bs.length cap) := by rw [cell_of_row _ _ _ _ _ _ x1]; rfl
    have B1 := hidE (HB0.out.trans (hb1.mono HB0.out.size))
    have X1' := hidE x1
    have Y1 := hidE y1
    clear x1 y1 hb1
    go_wp2_with fail
    refine (HM.out _ (H.out.below B1.out (Nat.le_refl _))).mono ?_
    rintro e w2 ⟨rfl, hm, hb2⟩
    have MA := hidE hm
    have X2 := hidE (blk_below hb2 (lt_of_block X1'.out) X1'.out)
    have Y2 := hidE (blk_below hb2 (lt_of_block Y1.out) Y1.out)
    have HB2 := hidE (B1.out.trans (hb2.mono B1.out.size))
    obtain ⟨B, hBB⟩ : ∃ B, w1.heap.size + 1 = B := ⟨_, rfl⟩
    rw [hBB] at MA ⊢
    clear e0 e1 hb2 hm hBB
    have e0 : w2.cell? ⟨w.heap.size, 0, none⟩ = some (.int .i64 (R : Int)) := by rw [cell_of_row _ _ _ _ _ _ X2.out]; rfl
    obtain ⟨bo, hbo⟩ : ∃ b, b = w2.heap.size := ⟨_, rfl⟩
    obtain ⟨w3, hw3⟩ : ∃ X, X = w2.alloc (.cells #[.int .i64 (R : Int), .slice none 0 0] 24) := ⟨_, rfl⟩
    have ba : Below w2.heap.size w2 w3 := by rw [hw3]; exact (Below.refl _ _).alloc (Nat.le_refl _) _
    have z3 : w3.heap[bo]? = some (.cells #[.int .i64 (R : Int), .slice none 0 0] 24 (0,0)) := by rw [hw3, hbo]; exact heap_alloc_new _ _
    have h0o : w.heap.size + 1 < bo := by rw [hbo]; exact lt_of_block Y2.out
    have h1o : bo < w3.heap.size := lt_of_block z3
    have hst0 : Hid (ClSt w w3 w3 bo R a bs.length cap (.slice none 0 0) (closeAt D R 0 0)) := hidE ⟨blk_below ba (lt_of_block X2.out) X2.out, blk_below ba (lt_of_block Y2.out) Y2.out, z3, fun _ _ _ => rfl, World.ownsRow_nil _ _ _ _, Nat.le_refl _, HB2.out.trans (ba.mono HB2.out.size)⟩
    have MA3 := hidE (MA.out.below ba)
    have HZ3 := hidE z3
    have HW3 := hidE hw3
    have HBO := hidE hbo
    clear ba z3 hw3 hbo MA X2 Y2
    go_upto_region 6 with fail
    rw [← HW3.out, ← HBO.out]
    clear e0 HW3 HBO
    go_wp2_with fail
    go_loopw [7] (fun i wr => ∃ (k : Nat) (v : Value), k ≤ R ∧ i = .int .i64 k ∧ Hid (closeFine (closeAt D R k 0)) ∧ Hid (ClSt w w3 wr bo R a bs.length cap v (closeAt D R k 0))) (fun i _ => R - (intOf i).toNat)
    case atStart => exact ⟨0, _, by omega, rfl, hidE closeFine_nil, hst0⟩
    case round =>
      obtain ⟨k, v, hk, rfl, hfine, hst⟩ := hrel
      obtain ⟨wO, rfl⟩ : ∃ x : World, x = wr := ⟨wr, rfl⟩
      have e0 : wO.cell? ⟨w.heap.size, 0, none⟩ = some (.int .i64 (R : Int)) := by rw [cell_of_row _ _ _ _ _ _ hst.out.x0]; rfl
      by_cases hlt : k < R
      · have kR : (k : Int) < (R : Int) := by omega
        go_wp2_with fail
        clear e0
        go_loopw [8] (fun i wx => ∃ (b : Nat) (v : Value), b ≤ R ∧ i = .int .i64 b ∧ Hid (closeFine (closeAt D R k b)) ∧ Hid (ClSt w w3 wx bo R a bs.length cap v (closeAt D R k b))) (fun i _ => R - (intOf i).toNat)
        case atStart => exact ⟨0, v, by omega, rfl, hfine, hst⟩
        case round =>
          obtain ⟨b, v, hb, rfl, hfine, hst⟩ := hrel
          obtain ⟨wX, rfl⟩ : ∃ x : World, x = wr := ⟨wr, rfl⟩
          have e0 : wX.cell? ⟨w.heap.size, 0, none⟩ = some (.int .i64 (R : Int)) := by rw [cell_of_row _ _ _ _ _ _ hst.out.x0]; rfl
          by_cases hlb : b < R
          · have bR : (b : Int) < (R : Int) := by omega
            have hmx := MA3.out.kept HZ3.out hst.out.keep
            have cs := hmx.slot hlt
            obtain ⟨cv, co, _⟩ := hmx.cells HDIM.out hlt hlb
            obtain ⟨f1, f2⟩ := HFR.out k b hlt hlb
            have hlen := HSZ.out k b hlt hb
            have hskip := fun hh => closeAt_skip (D := D) (N := R) (a := k) (b := b) hh
            have htake := fun h1 h2 => closeAt_take (D := D) (N := R) (a := k) (b := b) h1 h2
            have hbb := fun h1 h2 h3 => close_bad (D := D) (N := R) (a := k) (b := b) hlt hlb h1 h2 h3
            obtain ⟨x, hx⟩ : ∃ x, D k b = x := ⟨_, rfl⟩
            rw [hx] at f1 f2 hskip htake hbb
            obtain ⟨⟨fs, fo⟩, hf⟩ : ∃ f, mget d k b = f := ⟨_, rfl⟩
            rw [hf] at cv co f1 f2
            simp only at cv co f1 f2
            have HSK := hidE hskip
            have HTK := hidE htake
            have HBB := hidE hbb
            clear hskip htake hbb hx hf hmx
            by_cases hkb : b = k
            · have HNX := hidE (HSK.out (.inl hkb))
              have t1 : ((k : Int) == (b : Int)) = true := by simp; omega
              have HKB := hidE hkb
              have F1 := hidE f1
              have F2 := hidE f2
              clear hkb f1 f2
              go_wp2_with fail
              go_roundw
              case rel => exact ⟨b + 1, v, by omega, by go_num, hidE (by rw [HNX.out]; exact hfine.out), hidE (by rw [HNX.out]; exact hst.out)⟩
              case measure => simp [intOf]; omega
            · have t1 : ((k : Int) == (b : Int)) = false := by simp; omega
              by_cases hfar : 1125899906842624 ≤ x
              · have HNX := hidE (HSK.out (.inr hfar))
                obtain rfl : fo = false := by rw [f2]; unfold nB; simp; omega
                clear hkb hfar f1 f2
                go_wp2_with fail
                go_roundw
                case rel => exact ⟨b + 1, v, by omega, by go_num, hidE (by rw [HNX.out]; exact hfine.out), hidE (by rw [HNX.out]; exact hst.out)⟩
                case measure => simp [intOf]; omega
              · obtain rfl : fo = true := by rw [f2]; unfold nB; simp; omega
                obtain rfl : fs = x := by unfold frV nV at f1; rw [if_pos rfl, if_neg hfar] at f1; exact f1
                have hf2 : fs < farI := by unfold farI; omega
                have HTK2 := hidE (HTK.out hkb hf2)
                have HBB2 := hidE (HBB.out hkb hf2)
                obtain ⟨f, hf⟩ : ∃ f, inR fs (-1000000) 1000000 = f := ⟨_, rfl⟩
                have hwi := fun W => refwithin_at hf W
                have HWI := hidE hwi
                have HF := hidE hf
                clear hkb hfar hf2 hf hwi HTK HBB HSK f1 f2
                obtain ⟨o6, c6, ev, _⟩ := boundsAt_of_out hst.out.own
                obtain ⟨n6, hn6⟩ : ∃ n, (closeAt D R k b).length = n := ⟨_, rfl⟩
                rw [hn6] at ev hlen
                subst ev
                have HN6 := hidE hn6
                have c1 : wX.cell? ⟨bo, 1, none⟩ = some (.slice o6 n6 c6) := by rw [cell_of_row _ _ _ _ _ _ hst.out.xo]; rfl
                have g0 : wX.cell? ⟨w.heap.size + 1, 0, none⟩ = some (.int .i64 0) := by rw [cell_of_row _ _ _ _ _ _ hst.out.x1]; rfl
                have g1 : wX.cell? ⟨w.heap.size + 1, 1, none⟩ = some (.slice none 0 0) := by rw [cell_of_row _ _ _ _ _ _ hst.out.x1]; rfl
                have g2 : ∀ i, wX.frozen? ⟨w.heap.size + 1, i, none⟩ = false := fun i => frozen_of_row _ _ _ _ _ hst.out.x1
                clear hn6
                cases f with
                | false =>
                  go_wp2_with (go_at_call 28; refine (HWI.out _).mono ?_; rintro e w' ⟨rfl, rfl⟩)
                  refine bodyPost_ret (v := .tuple #[.agg #[.int .i64 0, .slice none 0 0], .int .i64 2]) (by simp [results, Tryz.results7, go_sem, g0, g1]) rfl ⟨?_, ?_⟩
                  · rw [HBA.out (.inl (HBB2.out HF.out))]
                    exact ⟨_, rfl, World.ownsRow_nil _ _ _ _⟩
                  · exact (hst.out.bl.setCell (by simp) _).setCell (by simp) _
                | true =>
                  have HFI := hidE (closeFine_snoc hfine.out (x := ⟨(k : Int), (b : Int), fs, 0⟩) HF.out (by rw [HN6.out]; omega))
                  obtain ⟨o7, n7, c7, W1, HR, HO1, HK1, HS1⟩ := (hst.out.grow (W' := wX.drew) (Below.refl _ _).drew).push0 h0o h1o ⟨(k : Int), (b : Int), fs, 0⟩ (by rw [HN6.out]; omega)
                  have z0 : W1.cell? ⟨bo, 1, none⟩ = some (.slice o6 n6 c6) := by rw [cell_of_row _ _ _ _ _ _ HO1.out]; rfl
                  have zf : W1.frozen? ⟨bo, 1, none⟩ = false := frozen_of_row _ _ _ _ _ HO1.out
                  have hm1 := MA3.out.kept HZ3.out HK1.out
                  have z1 := hm1.slot hlt
                  have lo : bo < wX.heap.size := lt_of_block hst.out.xo
                  have hmx := MA3.out.kept HZ3.out hst.out.keep
                  have ls : B < wX.heap.size := lt_of_block hmx.out
                  have lr : B + 1 + k < wX.heap.size := lt_of_block (hmx.row k hlt)
                  have z2 : W1.cell? ⟨B + 1 + k, b * 2, none⟩ = some (.int .i64 fs) := by rw [← cv]; exact World.cell?_of_block (w := wX) ((hm1.row k hlt).trans (hmx.row k hlt).symm)
                  clear g0 g1 g2 hm1 hmx
                  go_upto_region 16 with (go_at_call 28; refine (HWI.out _).mono ?_; rintro e w' ⟨rfl, rfl⟩)
                  refine wp_region_F (S := fun V => V.cell? ⟨bo, 1, none⟩ = some (.slice o6 n6 c6) ∧ V.cell? ⟨B, k, none⟩ = some (.slice (some ⟨B + 1 + k, 0, none⟩) R R) ∧ V.cell? ⟨B + 1 + k, b * 2, none⟩ = some (.int .i64 fs)) (last := 16) (by kernel_rfl) ?_
                  have hS0 : wX.drew.cell? ⟨bo, 1, none⟩ = some (.slice o6 n6 c6) ∧ wX.drew.cell? ⟨B, k, none⟩ = some (.slice (some ⟨B + 1 + k, 0, none⟩) R R) ∧ wX.drew.cell? ⟨B + 1 + k, b * 2, none⟩ = some (.int .i64 fs) := ⟨c1, cs, cv⟩
                  refine wpAnyF_take (i := 0) (v := .pointer (some ⟨bo, 1, none⟩)) (by kernel_rfl) (by decide) rfl (by kernel_rfl) (by kernel_rfl) (by kernel_rfl) (fun _ _ _ h => h) (.inl ⟨rfl, fun V hV => ?_⟩) hS0 ?_
                  · simp [go_sem, execOp]
                  try simp only [Act.put, List.setIfInBounds_toArray, List.set_cons_succ, List.set_cons_zero]
                  refine wpAnyF_take (i := 1) (v := .slice o6 n6 c6) (by kernel_rfl) (by decide) rfl (by kernel_rfl) (by kernel_rfl) (by kernel_rfl) (fun _ _ _ h => h) (.inl ⟨rfl, fun V hV => ?_⟩) hS0 ?_
                  · obtain ⟨z0, z1, z2⟩ := hV
                    simp [go_sem, execOp, z0]
                  try simp only [Act.put, List.setIfInBounds_toArray, List.set_cons_succ, List.set_cons_zero]
                  refine wpAnyF_take (i := 2) (v := .int .i64 (k : Int)) (by kernel_rfl) (by decide) rfl (by kernel_rfl) (by kernel_rfl) (by kernel_rfl) (fun _ _ _ h => h) (.inl ⟨rfl, fun V hV => ?_⟩) hS0 ?_
                  · simp [go_sem, execOp]
                  try simp only [Act.put, List.setIfInBounds_toArray, List.set_cons_succ, List.set_cons_zero]
                  refine wpAnyF_take (i := 3) (v := .int .i64 (b : Int)) (by kernel_rfl) (by decide) rfl (by kernel_rfl) (by kernel_rfl) (by kernel_rfl) (fun _ _ _ h => h) (.inl ⟨rfl, fun V hV => ?_⟩) hS0 ?_
                  · simp [go_sem, execOp]
                  try simp only [Act.put, List.setIfInBounds_toArray, List.set_cons_succ, List.set_cons_zero]
                  refine wpAnyF_take (i := 4) (v := .slice (some ⟨B, 0, none⟩) R R) (by kernel_rfl) (by decide) rfl (by kernel_rfl) (by kernel_rfl) (by kernel_rfl) (fun _ _ _ h => h) (.inl ⟨rfl, fun V hV => ?_⟩) hS0 ?_
                  · simp [go_sem, execOp]
                  try simp only [Act.put, List.setIfInBounds_toArray, List.set_cons_succ, List.set_cons_zero]
                  refine wpAnyF_take (i := 5) (v := .int .i64 (k : Int)) (by kernel_rfl) (by decide) rfl (by kernel_rfl) (by kernel_rfl) (by kernel_rfl) (fun _ _ _ h => h) (.inl ⟨rfl, fun V hV => ?_⟩) hS0 ?_
                  · simp [go_sem, execOp]
                  try simp only [Act.put, List.setIfInBounds_toArray, List.set_cons_succ, List.set_cons_zero]
                  refine wpAnyF_take (i := 6) (v := .pointer (some ⟨B, k, none⟩)) (by kernel_rfl) (by decide) rfl (by kernel_rfl) (by kernel_rfl) (by kernel_rfl) (fun _ _ _ h => h) (.inl ⟨rfl, fun V hV => ?_⟩) hS0 ?_
                  · simp [go_sem, execOp, kR]
                  try simp only [Act.put, List.setIfInBounds_toArray, List.set_cons_succ, List.set_cons_zero]
                  refine wpAnyF_take (i := 7) (v := .slice (some ⟨B + 1 + k, 0, none⟩) R R) (by kernel_rfl) (by decide) rfl (by kernel_rfl) (by kernel_rfl) (by kernel_rfl) (fun _ _ _ h => h) (.inl ⟨rfl, fun V hV => ?_⟩) hS0 ?_
                  · obtain ⟨z0, z1, z2⟩ := hV
                    simp [go_sem, execOp, z1]
                  try simp only [Act.put, List.setIfInBounds_toArray, List.set_cons_succ, List.set_cons_zero]
                  refine wpAnyF_take (i := 8) (v := .int .i64 (b : Int)) (by kernel_rfl) (by decide) rfl (by kernel_rfl) (by kernel_rfl) (by kernel_rfl) (fun _ _ _ h => h) (.inl ⟨rfl, fun V hV => ?_⟩) hS0 ?_
                  · simp [go_sem, execOp]
                  try simp only [Act.put, List.setIfInBounds_toArray, List.set_cons_succ, List.set_cons_zero]
                  refine wpAnyF_take (i := 9) (v := .pointer (some ⟨B + 1 + k, b * 2, none⟩)) (by kernel_rfl) (by decide) rfl (by kernel_rfl) (by kernel_rfl) (by kernel_rfl) (fun _ _ _ h => h) (.inl ⟨rfl, fun V hV => ?_⟩) hS0 ?_
                  · simp [go_sem, execOp, bR]
                  try simp only [Act.put, List.setIfInBounds_toArray, List.set_cons_succ, List.set_cons_zero]
                  refine wpAnyF_take (i := 10) (v := .pointer (some ⟨B + 1 + k, b * 2, none⟩)) (by kernel_rfl) (by decide) rfl (by kernel_rfl) (by kernel_rfl) (by kernel_rfl) (fun _ _ _ h => h) (.inl ⟨rfl, fun V hV => ?_⟩) hS0 ?_
                  · simp [go_sem, execOp]
                  try simp only [Act.put, List.setIfInBounds_toArray, List.set_cons_succ, List.set_cons_zero]
                  refine wpAnyF_take (i := 11) (v := .int .i64 fs) (by kernel_rfl) (by decide) rfl (by kernel_rfl) (by kernel_rfl) (by kernel_rfl) (fun _ _ _ h => h) (.inl ⟨rfl, fun V hV => ?_⟩) hS0 ?_
                  · obtain ⟨z0, z1, z2⟩ := hV
                    simp [go_sem, execOp, z2]
                  try simp only [Act.put, List.setIfInBounds_toArray, List.set_cons_succ, List.set_cons_zero]
                  refine wpAnyF_take (i := 12) (v := .agg #[.int .i64 (k : Int), .int .i64 (b : Int), .int .i64 fs, .int .i64 0]) (by kernel_rfl) (by decide) rfl (by kernel_rfl) (by kernel_rfl) (by kernel_rfl) (fun _ _ _ h => h) (.inl ⟨rfl, fun V hV => ?_⟩) hS0 ?_
                  · simp [go_sem, execOp]
                  try simp only [Act.put, List.setIfInBounds_toArray, List.set_cons_succ, List.set_cons_zero]
                  have ba : Below wX.heap.size wX (wX.drew.alloc (.cells #[.int .i64 (k : Int), .int .i64 (b : Int), .int .i64 fs, .int .i64 0] 47)) := ((Below.refl _ _).drew).alloc (Nat.le_refl _) _
                  have hS1 := And.intro ((ba.cell (p := ⟨bo, 1, none⟩) lo).trans c1) (And.intro ((ba.cell (p := ⟨B, k, none⟩) ls).trans cs) ((ba.cell (p := ⟨B + 1 + k, b * 2, none⟩) lr).trans cv))
                  refine wpAnyF_step 13 rfl (by kernel_rfl) (fun K hK => ?_)
                  go_simp
                  refine hK.out _ _ (.inr hS1) ?_
                  clear hK K
                  try simp only [Act.put, List.setIfInBounds_toArray, List.set_cons_succ, List.set_cons_zero]
                  refine wpAnyF_step 14 rfl (by kernel_rfl) (fun K hK => ?_)
                  refine step_op_append rfl (s := .tmp 60) (x := .tmp 72) (t := 22) rfl rfl rfl HR.out ?_
                  refine hK.out _ _ (.inr ⟨z0, z1, z2⟩) ?_
                  clear hK K
                  try simp only [Act.put, List.setIfInBounds_toArray, List.set_cons_succ, List.set_cons_zero]
                  refine wpAnyF_step 15 rfl (by kernel_rfl) (fun K hK => ?_)
                  go_simp
                  refine hK.out _ _ (.inr ⟨z0, z1, z2⟩) ?_
                  clear hK K
                  try simp only [Act.put, List.setIfInBounds_toArray, List.set_cons_succ, List.set_cons_zero]
                  refine wpAnyF_step 16 rfl (by kernel_rfl) (fun K hK => ?_)
                  go_simp
                  refine hK.out _ _ (.inl rfl) ?_
                  clear hK K
                  try simp only [Act.put, List.setIfInBounds_toArray, List.set_cons_succ, List.set_cons_zero]
                  refine wpAnyF_done (by kernel_rfl) ?_ _
                  go_wp2_with fail
                  go_roundw
                  case rel => exact ⟨b + 1, .slice o7 n7 c7, by omega, by go_num, hidE (by rw [HTK2.out]; exact HFI.out), hidE (by rw [HTK2.out]; exact HS1.out)⟩
                  case measure => simp [intOf]; omega
          · obtain rfl : b = R := by omega
            go_wp2_with fail
            go_roundw
            case rel => exact ⟨k + 1, v, by omega, by go_num, hidE (by rw [← closeAt_row]; exact hfine.out), hidE (by rw [← closeAt_row]; exact hst.out)⟩
            case measure => simp [intOf]; omega
      · obtain rfl : k = R := by omega
        rw [closeAt_end] at hfine hst
        obtain ⟨o6, c6, ev, _⟩ := boundsAt_of_out hst.out.own
        have HGO := hidE (HGD.out hfine.out)
        have hle := hfine.out.2
        obtain ⟨L, hL⟩ : ∃ L, closeL k D = L := ⟨_, rfl⟩
        rw [hL] at hst ev HGO hle
        obtain ⟨n6, hn6⟩ : ∃ n, L.length = n := ⟨_, rfl⟩
        rw [hn6] at ev hle
        subst ev
        have HNL := hidE hn6
        have dn : decide ((n6 : Int) > 2000) = false := by simp; omega
        have f0 : wO.cell? ⟨bo, 0, none⟩ = some (.int .i64 (k : Int)) := by rw [cell_of_row _ _ _ _ _ _ hst.out.xo]; rfl
        have f1 : wO.cell? ⟨bo, 1, none⟩ = some (.slice o6 n6 c6) := by rw [cell_of_row _ _ _ _ _ _ hst.out.xo]; rfl
        have g0 : wO.cell? ⟨w.heap.size + 1, 0, none⟩ = some (.int .i64 0) := by rw [cell_of_row _ _ _ _ _ _ hst.out.x1]; rfl
        have g1 : wO.cell? ⟨w.heap.size + 1, 1, none⟩ = some (.slice none 0 0) := by rw [cell_of_row _ _ _ _ _ _ hst.out.x1]; rfl
        have g2 : ∀ i, wO.frozen? ⟨w.heap.size + 1, i, none⟩ = false := fun i => frozen_of_row _ _ _ _ _ hst.out.x1
        clear hfine hL hn6
        go_wp2_with fail
        refine bodyPost_ret (v := .tuple #[.agg #[.int .i64 (k : Int), .slice o6 n6 c6], .int .i64 0]) (by simp [results, Tryz.results7, go_sem, g0, g1]) rfl ⟨?_, ?_⟩
        · rw [HGO.out]
          refine ⟨_, rfl, ?_⟩
          have q : BoundsOut L w3.heap.size (.slice o6 n6 c6) wO := hst.out.own
          have q' := ownsRow_base q (by have := hst.out.bl.size; have := HB2.out.size; omega : w.heap.size ≤ w3.heap.size)
          refine ownsRow_of_block q' (fun gg hg => ?_)
          have q2 := owns_type q hst.out.x1 (by decide) hg
          rw [heap_setCell_other _ _ _ _ q2, heap_setCell_other _ _ _ _ q2]
        · exact (hst.out.bl.setCell (by simp) _).setCell (by simp) _
  · have hE : closeE N bs = (0, [], askedE N bs []) := by unfold closeE; rw [if_neg he]
    obtain ⟨c, hc⟩ : ∃ c, askedE N bs [] = c := ⟨_, rfl⟩
    rw [hc] at hask
    have hc1 : (c == 0) = false := by rw [← hc]; simpa using he
    have hc2 : (c != 0) = true := by rw [← hc]; simpa using he
    have HC := hidE hc
    have HD := hidE hE
    have HA := hidE hask
    clear hE he hc hask
    go_enter Tryz.func7, Tryz.ntmps7
    go_upto_region 1 with fail
    rw [← HW0.out]
    go_wp2_with fail
    refine HA.out.mono ?_
    rintro e w1 ⟨rfl, hb1⟩
    have x1 := blk_below hb1 (lt_of_block X1.out) X1.out
    have g0 : w1.cell? ⟨w.heap.size + 1, 0, none⟩ = some (.int .i64 0) := by rw [cell_of_row _ _ _ _ _ _ x1]; rfl
    have g1 : w1.cell? ⟨w.heap.size + 1, 1, none⟩ = some (.slice none 0 0) := by rw [cell_of_row _ _ _ _ _ _ x1]; rfl
    have g2 : ∀ i, w1.frozen? ⟨w.heap.size + 1, i, none⟩ = false := fun i => frozen_of_row _ _ _ _ _ x1
    have HB1 := hidE (HB0.out.trans (hb1.mono HB0.out.size))
    clear hb1 x1
    go_wp2_with fail
    refine bodyPost_ret (v := .tuple #[.agg #[.int .i64 0, .slice none 0 0], .int .i64 c]) (by simp [results, Tryz.results7, go_sem, g0, g1]) rfl ⟨?_, ?_⟩
    · rw [HD.out, HC.out]
      exact ⟨_, rfl, World.ownsRow_nil _ _ _ _⟩
    · exact (HB1.out.setCell (by simp) _).setCell (by simp) _

end Go.Proofs.YthcmjhellpjllaaGreat
