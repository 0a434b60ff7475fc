/- Walks: sorted, at bounds in order; Close. No conditions beyond those stated. -/
import Derived.Test.YthcmjhellpjllaaGreatCS4
import Derived.Test.YthcmjhellpjllaaGreatCPlCl
import Derived.Test.YthcmjhellpjllaaGreatCZl
import Derived.Test.YthcmjhellpjllaaGreatCYi
namespace Go.Proofs.YthcmjhellpjllaaGreat
open Go Go.RowKit Go.Shelf

theorem sorted_still (w : World) (a0 : Option Addr) (cap : Nat) (bs : List Bd) (hl : bs.length ≤ 4000) (ho : OrderedB bs) (hs : SliceOk a0 bs.length cap) (h : BoundsAt w a0 bs) :
    Calls Tryz.prog 24 #[.slice a0 bs.length cap, .func (.func 25) #[] #[]] w fun e w' => ∃ o c, e = .returned (.slice o bs.length c) ∧ BoundsOut bs w.heap.size (.slice o bs.length c) w' ∧ Below w.heap.size w w' := by
  have HC := hidE (cloneBounds_any w a0 cap bs hl hs h)
  have HS := hidE (fun W o c hb => sortStable_still W o c bs (by omega) ho hb)
  obtain ⟨n, hn⟩ : ∃ n, bs.length = n := ⟨_, rfl⟩
  rw [hn] at HC HS ⊢
  have HN := hidE hn
  clear ho hs h hn
  go_enter Tryz.func24, Tryz.ntmps24
  go_wp2_with fail
  refine HC.out.mono ?_
  rintro e w1 ⟨v, rfl, hbo, hb1⟩
  obtain ⟨o1, c1, hv, hba, _⟩ := boundsAt_of_out hbo
  rw [HN.out] at hv
  subst hv
  have HBO := hidE hbo
  have HBA := hidE hba
  clear hbo hba
  go_wp2_with fail
  refine (HS.out _ _ _ HBA.out).mono ?_
  rintro e w2 ⟨rfl, hb2⟩
  go_wp2_with fail
  go_ret
  exact ⟨o1, c1, rfl, ownsRow_of_block HBO.out (fun g hg => hb2.block g (owns_lt' HBO.out hg)), hb1.trans (hb2.mono hb1.size)⟩

/-- One bound more. -/
theorem append_bd (w : World) (base : Nat) (v : Value) (xs : List Bd) (hown : w.ownsRow base 47 4 v xs.length (flat xs)) (b : Nat) (q : Bd) (h : w.heap[b]? = some (.cells #[.int .i64 q.src, .int .i64 q.dst, .int .i64 q.most, .int .i64 q.rcd] 47 (0,0))) (hx : xs.length ≤ 100000) (hb : base ≤ w.heap.size) (ty : TypeId) :
    ∃ v' w', (Builtin.append_ #[22, 22] ty #[v, .slice (some ⟨b, 0, none⟩) 1 1]).run Tryz.prog w = .ok v' w' ∧ w'.ownsRow base 47 4 v' (xs ++ [q]).length (flat (xs ++ [q])) ∧ Below base w w' ∧ (∀ q, q < w.heap.size → v.ownBlock ≠ some q → w'.heap[q]? = w.heap[q]?) := by
  obtain ⟨i0, hi, hz0, hz1, hz2⟩ := info_parts Tryz.info47
  have hnews : ∀ j u, (flat [q])[j]? = some u → w.cell? ((⟨b, 0, none⟩ : Addr).add j) = some u := by
    intro j u hj
    rw [show ((⟨b, 0, none⟩ : Addr).add j) = ⟨b, 0 + j, none⟩ from by unfold Addr.add; split <;> simp_all]
    rw [cell_of_row _ _ _ _ _ _ h, Nat.zero_add]
    simpa [flat, Bd.cells] using hj
  obtain ⟨v', w', hrun, h2, h3, _, h5⟩ := run_append_own_at (P := Tryz.prog) w base 22 ty 47 i0 _ 4 32 Tryz.underlying22 hi hz0 hz1 hz2 rfl (by decide) v _ _ hown ⟨b, 0, none⟩ 1 1 (flat [q]) (by simp [flat, Bd.cells]) hnews (flat_one _) (by unfold maxLen; omega) (by omega) hb
  refine ⟨v', w', hrun, by rw [List.length_append, flat_cat]; exact h2, (Below.refl base w).grown h3 hb (fun q e => ?_), fun q hq hne => h3.block q hq (fun e => hne e.symm)⟩
  rcases hown.2 with ⟨e1, _⟩ | ⟨g1, cp', cu, e1, hge, hh, _⟩
  · rw [e1] at e; simp [Value.ownBlock] at e
  · rw [e1] at e
    simp only [Value.ownBlock, Option.some.injEq] at e
    omega

/-- What stands between two rounds of Close. -/
structure ClSt (w w3 W : World) (bo : Nat) (R : Int) (a : Option Addr) (len cap : Nat) (v : Value) (l : List Bd) : Prop where
  x0 : W.heap[w.heap.size]? = some (.cells #[.int .i64 R, .slice a len cap] 24 (0,0))
  x1 : W.heap[w.heap.size + 1]? = some (.cells #[.int .i64 0, .slice none 0 0] 24 (0,0))
  xo : W.heap[bo]? = some (.cells #[.int .i64 R, v] 24 (0,0))
  keep : ∀ q, q ≠ bo → q < w3.heap.size → W.heap[q]? = w3.heap[q]?
  own : BoundsOut l w3.heap.size v W
  sz : w3.heap.size ≤ W.heap.size
  bl : Below w.heap.size w W
theorem ClSt.grow {w w3 W W' : World} {bo : Nat} {R : Int} {a : Option Addr} {len cap : Nat} {v : Value} {l : List Bd} (s : ClSt w w3 W bo R a len cap v l) (hb : Below W.heap.size W W') : ClSt w w3 W' bo R a len cap v l :=
  ⟨blk_below hb (lt_of_block s.x0) s.x0, blk_below hb (lt_of_block s.x1) s.x1, blk_below hb (lt_of_block s.xo) s.xo, fun q h1 h2 => (hb.block q (Nat.lt_of_lt_of_le h2 s.sz)).trans (s.keep q h1 h2),
    ownsRow_of_block s.own (fun g hg => hb.block g (owns_lt' s.own hg)), Nat.le_trans s.sz hb.size, s.bl.trans (hb.mono s.bl.size)⟩
theorem ClSt.drewN {w w3 W Y : World} {bo : Nat} {R : Int} {a : Option Addr} {len cap : Nat} {v : Value} {l : List Bd} {n : Nat} (h : Y = W.drewN n) (s : ClSt w w3 W bo R a len cap v l) : Hid (ClSt w w3 Y bo R a len cap v l) := by
  subst h; exact hidE (s.grow (below_drewN' _ _))
/-- One bound more: the run, and what lies then. -/
theorem ClSt.push {w w3 W : World} {bo : Nat} {R : Int} {a : Option Addr} {len cap : Nat} {v : Value} {l : List Bd} (s : ClSt w w3 W bo R a len cap v l) (h0 : w.heap.size + 1 < bo) (h1 : bo < w3.heap.size) (q : Bd) (hl : l.length ≤ 100000) {br : Nat} {rw_ : Array Value} (hbr : W.heap[br]? = some (.cells rw_ 56 (0,0))) :
    ∃ o n c W1, Hid ((Builtin.append_ #[22, 22] 22 #[v, .slice (some ⟨W.heap.size, 0, none⟩) 1 1]).run Tryz.prog (W.alloc (.cells #[.int .i64 q.src, .int .i64 q.dst, .int .i64 q.most, .int .i64 q.rcd] 47)) = .ok (.slice o n c) W1) ∧ Hid (W1.heap[bo]? = some (.cells #[.int .i64 R, v] 24 (0,0))) ∧ Hid (W1.heap[br]? = some (.cells rw_ 56 (0,0))) ∧ Hid (Below w.heap.size w W1) ∧
      Hid (ClSt w w3 (W1.setCell ⟨bo, 1, none⟩ (.slice o n c)) bo R a len cap (.slice o n c) (l ++ [q])) := by
  have ba : Below W.heap.size W (W.alloc (.cells #[.int .i64 q.src, .int .i64 q.dst, .int .i64 q.most, .int .i64 q.rcd] 47)) := (Below.refl _ _).alloc (Nat.le_refl _) _
  have sa := s.grow ba
  obtain ⟨v', W1, r1, p1, q1, k1⟩ := append_bd (W.alloc (.cells #[.int .i64 q.src, .int .i64 q.dst, .int .i64 q.most, .int .i64 q.rcd] 47)) w3.heap.size v l sa.own W.heap.size q (heap_alloc_new _ _) hl sa.sz 22
  obtain ⟨o', c', e', _⟩ := boundsAt_of_out (l := l ++ [q]) (by simpa [BoundsOut] using p1)
  obtain ⟨n', hn'⟩ : ∃ n, (l ++ [q]).length = n := ⟨_, rfl⟩
  rw [hn'] at e' p1
  subst e'
  have b3 : w.heap.size ≤ w3.heap.size := by omega
  have y0 := (q1.block _ (by omega)).trans sa.x0
  have y1 := (q1.block _ (by omega)).trans sa.x1
  have yo := (q1.block _ h1).trans sa.xo
  have hbra := blk_below ba (lt_of_block hbr) hbr
  have ybr := (k1 br (lt_of_block hbra) (fun e => owns_type sa.own hbra (by decide) e rfl)).trans hbra
  refine ⟨o', n', c', W1, hidE r1, hidE yo, hidE ybr, hidE (sa.bl.trans (q1.mono b3)), hidE ⟨?_, ?_, ?_, ?_, ?_, ?_, ?_⟩⟩
  · rw [heap_setCell_other _ _ _ _ (by simp; omega)]; exact y0
  · rw [heap_setCell_other _ _ _ _ (by simp; omega)]; exact y1
  · exact (heap_setCell_same _ _ _ _ _ _ yo).trans rfl
  · intro p e1 e2
    exact (heap_setCell_other _ _ _ _ e1).trans ((q1.block p e2).trans (sa.keep p e1 e2))
  · have p2 : W1.ownsRow w3.heap.size 47 4 (.slice o' n' c') (l ++ [q]).length (flat (l ++ [q])) := by rw [hn']; exact p1
    exact ownsRow_of_block p2 (fun g hg => heap_setCell_other _ _ _ _ (owns_type p2 yo (by decide) hg))
  · have := sa.sz
    have := q1.size
    rw [World.size_setCell]; omega
  · exact (sa.bl.trans (q1.mono b3)).setCell (by show w.heap.size ≤ bo; omega) _

/-- What Close owes. -/
def ClosePost (r : Int × List Bd × Int) (base : Nat) (e : Ending) (w' : World) : Prop := ∃ v, e = .returned (.tuple #[.agg #[.int .i64 r.1, v], .int .i64 r.2.2]) ∧ BoundsOut r.2.1 base v w'

set_option maxRecDepth 100000 in
set_option maxHeartbeats 4000000 in
theorem close_any (w : World) (N : Int) (a : Option Addr) (cap : Nat) (bs : List Bd) (hN : i64ok N) (hl : bs.length ≤ 9223372036854775807) (h : BoundsAt w a bs) :
    Calls Tryz.prog 6 #[.agg #[.int .i64 N, .slice a bs.length cap]] w fun e w' => ClosePost (closeE N bs) w.heap.size e w' ∧ Below w.heap.size w w' := by
  have H := hidE h
  have HN := hidE hN
  clear h hN
  obtain ⟨W0, hW0⟩ : ∃ X, X = (w.alloc (.cells #[.int .i64 N, .slice a bs.length cap] 24)).alloc (.cells #[.int .i64 0, .slice none 0 0] 24) := ⟨_, rfl⟩
  have hB0 : Below w.heap.size w W0 := by rw [hW0]; exact ((Below.refl _ _).alloc (Nat.le_refl _) _).alloc (by simp) _
  have hx0 : W0.heap[w.heap.size]? = some (.cells #[.int .i64 N, .slice a bs.length cap] 24 (0,0)) := by rw [hW0, Below.heap_alloc _ _ _ (by simp), heap_alloc_new]
  have hx1 : W0.heap[w.heap.size + 1]? = some (.cells #[.int .i64 0, .slice none 0 0] 24 (0,0)) := by rw [hW0, heap_alloc_at _ _ _ (by simp)]
  have hask : Calls Tryz.prog 21 #[.agg #[.int .i64 N, .slice a bs.length cap], .slice none 0 0] W0 _ :=
    asked_any _ N a cap bs none 0 [] HN.out hl (by simp) (H.out.below hB0 (Nat.le_refl _)) (.inl rfl)
  have X0 := hidE hx0
  have X1 := hidE hx1
  have HB0 := hidE hB0
  have HW0 := hidE hW0
  have e0 : W0.cell? ⟨w.heap.size, 0, none⟩ = some (.int .i64 N) := by rw [cell_of_row _ _ _ _ _ _ hx0]; rfl
  have e1 : W0.cell? ⟨w.heap.size, 1, none⟩ = some (.slice a bs.length cap) := by rw [cell_of_row _ _ _ _ _ _ hx0]; rfl
  clear hx0 hx1 hB0 hW0
  by_cases he : askedE N bs [] = 0
  · obtain ⟨R, t, rfl, ht, HO⟩ := asked0 he
    have hgood := fun hf => closeE_ok (N := R) (bs := bs) he hf
    have hbad := fun hf => closeE_bad (N := R) (bs := bs) he hf
    have hn0 := HO.n0
    have hn1 := HO.n1
    have htg := fun (p q : Nat) (hp : p < R) => tget_dist ht q hp
    have htl := tableP_length R t bs
    have hbd : ∀ p q, p < R → q < R → -1000000000000000 ≤ distN R bs p q := fun p q hp hq => by
      have := HO.row_bd hp hq
      unfold distN; rw [heightsP_of ht]
      omega
    have hrl : ∀ r ∈ tableP R t bs, r.length = 128 := by
      intro r hr
      simp only [tableP, List.mem_map, List.mem_range] at hr
      obtain ⟨q, hq, rfl⟩ := hr
      exact (HO.row hq).1
    obtain ⟨D, hD⟩ : ∃ D, distN R bs = D := ⟨_, rfl⟩
    rw [hD] at hgood hbad hbd
    have htg' : ∀ p q : Nat, p < R → tget (tableP R t bs) p q = D p q := fun p q hp => by rw [← hD]; exact htg p q hp
    have HGD := hidE hgood
    have HBA := hidE hbad
    have HA := hidE hask
    have HEE := hidE he
    have HT := hidE ht
    have HTG := hidE htg'
    have HTL := hidE htl
    have HRL := hidE hrl
    have HBD := hidE hbd
    have i94 : Hid ((Tryz.prog.info? 56).map (·.size) = some 128) := hidE (by kernel_rfl)
    clear hgood hbad hask he ht htg htl hrl hbd htg' hD
    go_enter Tryz.func6, Tryz.ntmps6
    go_upto_region 1 with fail
    rw [← HW0.out]
    go_wp2_with fail
    refine HA.out.mono ?_
    rintro e w1 ⟨hp, hb1⟩
    unfold AskedPost at hp
    rw [if_pos HEE.out] at hp
    obtain ⟨bn, t', ht', rfl, hbn, hcell⟩ := hp
    have htt : t' = t := by have := HT.out; rw [ht'] at this; exact Option.some.inj this
    subst htt
    have B1 := HB0.out.trans (hb1.mono HB0.out.size)
    obtain ⟨w2, hw2⟩ : ∃ X, X = w1.alloc (.cells #[.int .i64 (R : Int), .slice none 0 0] 24) := ⟨_, rfl⟩
    have ba : Below w1.heap.size w1 w2 := by rw [hw2]; exact (Below.refl _ _).alloc (Nat.le_refl _) _
    have B2 := B1.trans (ba.mono B1.size)
    have htab := table_any w2 bn R a cap bs t' HO (H.out.below B2 (Nat.le_refl _)) (blk_below ba (lt_of_block hcell) hcell)
    have x1 := blk_below hb1 (lt_of_block X0.out) X0.out
    have y1 := blk_below hb1 (lt_of_block X1.out) X1.out
    have x2 := blk_below ba (lt_of_block x1) x1
    have y2 := blk_below ba (lt_of_block y1) y1
    have z2 : w2.heap[w1.heap.size]? = some (.cells #[.int .i64 (R : Int), .slice none 0 0] 24 (0,0)) := by rw [hw2]; exact heap_alloc_new _ _
    have HTAB := hidE htab
    have HB2 := hidE B2
    have X2 := hidE x2
    have Y2 := hidE y2
    have Z2 := hidE z2
    have HW2 := hidE hw2
    have l1 := lt_of_block y1
    clear e0 e1
    have e0 : w1.cell? ⟨w.heap.size, 0, none⟩ = some (.int .i64 (R : Int)) := by rw [cell_of_row _ _ _ _ _ _ x1]; rfl
    obtain ⟨bo, hbo⟩ : ∃ b, b = w1.heap.size := ⟨_, rfl⟩
    have h0o : w.heap.size + 1 < bo := by omega
    rw [← hbo] at Z2
    have l2 : bo < w2.heap.size := lt_of_block Z2.out
    clear htab hcell ht' hb1 B1 hbn x1 y1 x2 y2 z2 HO hw2 ba B2
    go_upto_region 5 with fail
    rw [← HW2.out, ← hbo]
    clear e0 hbo l1
    go_wp2_with fail
    refine HTAB.out.mono ?_
    rintro e w3 ⟨v, rfl, hb3, hown⟩
    obtain ⟨R', hR'⟩ : ∃ R', R = R' + 1 := ⟨R - 1, by omega⟩
    have hown' := hown
    rw [hR'] at hown'
    obtain ⟨g, cp, rfl⟩ := ownsRow_succ hown'
    rw [← hR'] at hown
    obtain ⟨hra, hgl⟩ := rowsAt_of_owns hown HRL.out
    have hgb : w2.heap.size ≤ g := by
      rcases hown.2 with ⟨e1, _⟩ | ⟨g1, cp', cu, e1, hge, hh, _⟩
      · cases e1
      · cases e1; exact hge
    have hst0 : Hid (ClSt w w3 w3 bo R a bs.length cap (.slice none 0 0) (closeAt D R 0 0)) := hidE ⟨blk_below hb3 (lt_of_block X2.out) X2.out, blk_below hb3 (lt_of_block Y2.out) Y2.out, blk_below hb3 (lt_of_block Z2.out) Z2.out, fun _ _ _ => rfl, World.ownsRow_nil _ _ _ _, Nat.le_refl _, HB2.out.trans (hb3.mono HB2.out.size)⟩
    have h1o : bo < w3.heap.size := Nat.lt_of_lt_of_le l2 hb3.size
    have hgo : g ≠ bo := by omega
    have HRA := hidE hra
    rw [← hR']
    clear hra hown hown' hb3 hR' X2 Y2 Z2
    go_wp2_with fail
    go_loopw [25] (fun i wr => ∃ (k : Nat) (v : Value), k ≤ R ∧ i = .int .i64 k ∧ Hid (closeFine (closeAt D R k 0)) ∧ Hid (ClSt w w3 wr bo R a bs.length cap v (closeAt D R k 0))) (fun i _ => R - (intOf i).toNat)
    case atStart => exact ⟨0, _, by omega, rfl, hidE closeFine_nil, hst0⟩
    case round =>
      obtain ⟨k, v, hk, rfl, hfine, hst⟩ := hrel
      obtain ⟨wO, rfl⟩ : ∃ x : World, x = wr := ⟨wr, rfl⟩
      by_cases hlt : k < R
      · have kR : (k : Int) < (R : Int) := by omega
        have k128 : k < 128 := by omega
        have hkt : k < (tableP R t' bs).length := by rw [HTL.out]; exact hlt
        have hrow : ((tableP R t' bs).getD k []).length = 128 := HRL.out _ (by rw [getD_get _ _ hkt]; exact List.getElem_mem hkt)
        have hra3 : RowsAt wO g (tableP R t' bs) := fun p q hp hq => (World.cell?_of_block (w := w3) (hst.out.keep g hgo hgl)).trans (HRA.out p q hp hq)
        have hrg := rangeAt_rows hra3 hkt hrow
        have hval : ∀ b, b < R → ((tableP R t' bs).getD k []).getD b 0 = D k b := fun b hb => HTG.out k b hlt
        obtain ⟨x, hx⟩ : ∃ x, (tableP R t' bs).getD k [] = x := ⟨_, rfl⟩
        rw [hx] at hrow hrg hval
        have HG := hidE hrg
        have HW := hidE hrow
        have HV := hidE hval
        have HST := hidE (show (wO.alloc (.cells Tryz.zeroCells56 56)).heap[wO.heap.size]? = some (.cells (rowA (rep128 0)) 56 (0,0)) by rw [zc94]; exact heap_alloc_new _ _)
        have HFN := hfine
        obtain ⟨br, hbr⟩ : ∃ b, b = wO.heap.size := ⟨_, rfl⟩
        obtain ⟨wI, hwI⟩ : ∃ X, X = wO.alloc (.cells (intsV x).toArray 56) := ⟨_, rfl⟩
        have bal : Below wO.heap.size wO wI := by rw [hwI]; exact (Below.refl _ _).alloc (Nat.le_refl _) _
        have hstI := hidE (hst.out.grow bal)
        have hxr : Hid (wI.heap[br]? = some (.cells (rowA x) 56 (0,0))) := hidE (by rw [hwI, hbr]; exact heap_alloc_new _ _)
        have HWI := hidE hwI
        have HBR := hidE hbr
        have c0 : wI.cell? ⟨w.heap.size, 0, none⟩ = some (.int .i64 (R : Int)) := by rw [cell_of_row _ _ _ _ _ _ hstI.out.x0]; rfl
        clear hx hra3 hrg hrow hval hkt bal hst hfine hwI hbr
        go_upto_region 8 with (first
          | (refine wpList_load_mid rfl 56 _ rfl g (k * 128) rfl (intsV x) _ HG.out Tryz.underlying56 rfl (by rw [i94.out]; simp [intsV, HW.out]) ?_)
          | (refine wpList_store_row rfl 56 _ _ rfl _ _ rfl rfl 56 _ HST.out (by simpa [intsV, HW.out] using i94.out) (by rw [rowA_size]; simp [intsV, HW.out, rep128_length]) (intsV_one _) ?_; rw [World.setRow_alloc_new]))
        rw [← HWI.out, ← HBR.out]
        clear HST HG HWI HBR
        go_wp2_with fail
        clear c0
        go_loopw [32] (fun i wx => ∃ (b : Nat) (v : Value), b ≤ R ∧ i = .int .i64 b ∧ Hid (closeFine (closeAt D R k b)) ∧ Hid (ClSt w w3 wx bo R a bs.length cap v (closeAt D R k b)) ∧ Hid (wx.heap[br]? = some (.cells (rowA x) 56 (0,0)))) (fun i _ => R - (intOf i).toNat)
        case atStart => exact ⟨0, v, by omega, rfl, HFN, hstI, hxr⟩
        case round =>
          obtain ⟨b, v, hb, rfl, hfine, hst, hxr⟩ := hrel
          obtain ⟨wX, rfl⟩ : ∃ x : World, x = wr := ⟨wr, rfl⟩
          by_cases hlb : b < R
          · have bR : (b : Int) < (R : Int) := by omega
            have b128 : (b : Int) < 128 := by omega
            have b128' : b < 128 := by omega
            have cb : wX.cell? ⟨br, b, none⟩ = some (.int .i64 (D k b)) := by rw [cell_of_row _ _ _ _ _ _ hxr.out, rowA_get (by rw [HW.out]; omega), HV.out b hlb]
            have hskip := fun hh => closeAt_skip (D := D) (N := R) (a := k) (b := b) hh
            have htake := fun h1 h2 => closeAt_take (D := D) (N := R) (a := k) (b := b) h1 h2
            have hbb := fun h1 h2 h3 => close_bad (D := D) (N := R) (a := k) (b := b) hlt hlb h1 h2 h3
            have hff := fun h1 h2 h3 => close_full (D := D) (N := R) (a := k) (b := b) hlt hlb h1 h2 h3
            have hdb := HBD.out k b hlt hlb
            obtain ⟨d, hd⟩ : ∃ d, D k b = d := ⟨_, rfl⟩
            rw [hd] at cb hskip htake hbb hff hdb
            have HSK := hidE hskip
            have HTK := hidE htake
            have HBB := hidE hbb
            have HFF := hidE hff
            clear hskip htake hbb hff hd
            by_cases hkb : b = k
            · have HNX := hidE (HSK.out (.inl hkb))
              have t1 : ((k : Int) == (b : Int)) = true := by simp; omega
              have HKB := hidE hkb
              clear hkb
              go_wp2_with fail
              go_roundw
              case rel => exact ⟨b + 1, v, by omega, by go_num, hidE (by rw [HNX.out]; exact hfine.out), hidE (by rw [HNX.out]; exact hst.out), hxr⟩
              case measure => simp [intOf]; omega
            · have t1 : ((k : Int) == (b : Int)) = false := by simp; omega
              by_cases hfar : 1125899906842624 ≤ d
              · have HNX := hidE (HSK.out (.inr hfar))
                have t2 : decide (1125899906842624 ≤ d) = true := by simpa using hfar
                have t3 : decide (d < 1125899906842624) = false := by simpa using hfar
                clear hkb hfar
                go_wp2_with fail
                go_roundw
                case rel => exact ⟨b + 1, v, by omega, by go_num, hidE (by rw [HNX.out]; exact hfine.out), hidE (by rw [HNX.out]; exact hst.out), hxr⟩
                case measure => simp [intOf]; omega
              · have t2 : decide (1125899906842624 ≤ d) = false := by simpa using hfar
                have t3 : decide (d < 1125899906842624) = true := by simpa using hfar
                have hf2 : d < farI := by unfold farI; omega
                have HTK2 := hidE (HTK.out hkb hf2)
                have HBB2 := hidE (HBB.out hkb hf2)
                have HFF2 := hidE (HFF.out hkb hf2)
                obtain ⟨f, hf⟩ : ∃ f, inR d (-1000000) 1000000 = f := ⟨_, rfl⟩
                have hwi := within_any d (-1000000) 1000000 wX
                rw [hf] at hwi
                have HWI := hidE hwi
                have HF := hidE hf
                clear hkb hfar hf2 hf hwi HTK HBB HFF HSK
                obtain ⟨o6, c6, ev, _⟩ := boundsAt_of_out hst.out.own
                obtain ⟨n6, hn6⟩ : ∃ n, (closeAt D R k b).length = n := ⟨_, rfl⟩
                rw [hn6] at ev
                subst ev
                have HN6 := hidE hn6
                have c1 : wX.cell? ⟨bo, 1, none⟩ = some (.slice o6 n6 c6) := by rw [cell_of_row _ _ _ _ _ _ hst.out.xo]; rfl
                have g0 : wX.cell? ⟨w.heap.size + 1, 0, none⟩ = some (.int .i64 0) := by rw [cell_of_row _ _ _ _ _ _ hst.out.x1]; rfl
                have g1 : wX.cell? ⟨w.heap.size + 1, 1, none⟩ = some (.slice none 0 0) := by rw [cell_of_row _ _ _ _ _ _ hst.out.x1]; rfl
                have g2 : ∀ i, wX.frozen? ⟨w.heap.size + 1, i, none⟩ = false := fun i => frozen_of_row _ _ _ _ _ hst.out.x1
                clear hn6
                cases f with
                | false =>
                  go_wp2_with (go_at_call 23; refine HWI.out.mono ?_; rintro e w' ⟨rfl, rfl⟩)
                  refine bodyPost_ret (v := .tuple #[.agg #[.int .i64 0, .slice none 0 0], .int .i64 2]) (by simp [results, Tryz.results6, go_sem, g0, g1]) rfl ⟨?_, ?_⟩
                  · rw [HBA.out (.inl (HBB2.out HF.out))]
                    exact ⟨_, rfl, World.ownsRow_nil _ _ _ _⟩
                  · exact (hst.out.bl.setCell (by simp) _).setCell (by simp) _
                | true =>
                  by_cases hfull : 2000 ≤ n6
                  · have t4 : decide (2000 ≤ (n6 : Int)) = true := by simp; omega
                    have HFU := hidE (HFF2.out (by rw [HN6.out]; exact hfull))
                    clear hfull
                    go_wp2_with (go_at_call 23; refine HWI.out.mono ?_; rintro e w' ⟨rfl, rfl⟩)
                    refine bodyPost_ret (v := .tuple #[.agg #[.int .i64 0, .slice none 0 0], .int .i64 2]) (by simp [results, Tryz.results6, go_sem, g0, g1]) rfl ⟨?_, ?_⟩
                    · rw [HBA.out (.inr HFU.out)]
                      exact ⟨_, rfl, World.ownsRow_nil _ _ _ _⟩
                    · exact (hst.out.bl.setCell (by simp) _).setCell (by simp) _
                  · have t4 : decide (2000 ≤ (n6 : Int)) = false := by simp; omega
                    have HFI := hidE (closeFine_snoc hfine.out (x := ⟨(k : Int), (b : Int), d, 0⟩) HF.out (by rw [HN6.out]; omega))
                    obtain ⟨o7, n7, c7, W1, HR, HO1, HX1, HL1, HS1⟩ := (hst.out.grow (W' := wX.drew) (Below.refl _ _).drew).push h0o h1o ⟨(k : Int), (b : Int), d, 0⟩ (by rw [HN6.out]; omega) (br := br) hxr.out
                    have z1 : W1.cell? ⟨bo, 1, none⟩ = some (.slice o6 n6 c6) := by rw [cell_of_row _ _ _ _ _ _ HO1.out]; rfl
                    have z2 : W1.frozen? ⟨bo, 1, none⟩ = false := frozen_of_row _ _ _ _ _ HO1.out
                    have z3 : W1.cell? ⟨br, b, none⟩ = some (.int .i64 d) := by rw [← cb]; exact (World.cell?_of_block (w := wX) (HX1.out.trans hxr.out.symm))
                    have lo : bo < wX.heap.size := lt_of_block hst.out.xo
                    have lb : br < wX.heap.size := lt_of_block hxr.out
                    clear hfull g0 g1 g2
                    go_upto_region 14 with (go_at_call 23; refine HWI.out.mono ?_; rintro e w' ⟨rfl, rfl⟩)
                    refine wp_region_F (S := fun V => V.cell? ⟨bo, 1, none⟩ = some (.slice o6 n6 c6) ∧ V.cell? ⟨br, b, none⟩ = some (.int .i64 d)) (last := 11) (by kernel_rfl) ?_
                    have hS0 : wX.drew.cell? ⟨bo, 1, none⟩ = some (.slice o6 n6 c6) ∧ wX.drew.cell? ⟨br, b, none⟩ = some (.int .i64 d) := ⟨c1, cb⟩
                    refine wpAnyF_take (i := 0) (v := .pointer (some ⟨bo, 1, none⟩)) (by kernel_rfl) (by decide) rfl (by kernel_rfl) (by kernel_rfl) (by kernel_rfl) (fun _ _ _ h => h) (.inl ⟨rfl, fun V hV => ?_⟩) hS0 ?_
                    · simp [go_sem, execOp]
                    try simp only [Act.put, List.setIfInBounds_toArray]
                    refine wpAnyF_take (i := 1) (v := .slice o6 n6 c6) (by kernel_rfl) (by decide) rfl (by kernel_rfl) (by kernel_rfl) (by kernel_rfl) (fun _ _ _ h => h) (.inl ⟨rfl, fun V hV => ?_⟩) hS0 ?_
                    · obtain ⟨z0, z1⟩ := hV
                      simp [go_sem, execOp, z0]
                    try simp only [Act.put]
                    refine wpAnyF_take (i := 2) (v := .int .i64 (k : Int)) (by kernel_rfl) (by decide) rfl (by kernel_rfl) (by kernel_rfl) (by kernel_rfl) (fun _ _ _ h => h) (.inl ⟨rfl, fun V hV => ?_⟩) hS0 ?_
                    · simp [go_sem, execOp]
                    try simp only [Act.put]
                    refine wpAnyF_take (i := 3) (v := .int .i64 (b : Int)) (by kernel_rfl) (by decide) rfl (by kernel_rfl) (by kernel_rfl) (by kernel_rfl) (fun _ _ _ h => h) (.inl ⟨rfl, fun V hV => ?_⟩) hS0 ?_
                    · simp [go_sem, execOp]
                    try simp only [Act.put]
                    refine wpAnyF_take (i := 4) (v := .int .i64 (b : Int)) (by kernel_rfl) (by decide) rfl (by kernel_rfl) (by kernel_rfl) (by kernel_rfl) (fun _ _ _ h => h) (.inl ⟨rfl, fun V hV => ?_⟩) hS0 ?_
                    · simp [go_sem, execOp]
                    try simp only [Act.put]
                    refine wpAnyF_take (i := 5) (v := .pointer (some ⟨br, b, none⟩)) (by kernel_rfl) (by decide) rfl (by kernel_rfl) (by kernel_rfl) (by kernel_rfl) (fun _ _ _ h => h) (.inl ⟨rfl, fun V hV => ?_⟩) hS0 ?_
                    · simp [go_sem, execOp, b128]
                    try simp only [Act.put]
                    refine wpAnyF_take (i := 6) (v := .int .i64 d) (by kernel_rfl) (by decide) rfl (by kernel_rfl) (by kernel_rfl) (by kernel_rfl) (fun _ _ _ h => h) (.inl ⟨rfl, fun V hV => ?_⟩) hS0 ?_
                    · obtain ⟨z0, z1⟩ := hV
                      simp [go_sem, execOp, z1]
                    try simp only [Act.put]
                    refine wpAnyF_take (i := 7) (v := .agg #[.int .i64 (k : Int), .int .i64 (b : Int), .int .i64 d, .int .i64 0]) (by kernel_rfl) (by decide) rfl (by kernel_rfl) (by kernel_rfl) (by kernel_rfl) (fun _ _ _ h => h) (.inl ⟨rfl, fun V hV => ?_⟩) hS0 ?_
                    · simp [go_sem, execOp]
                    try simp only [Act.put]
                    have ba : Below wX.heap.size wX (wX.drew.alloc (.cells #[.int .i64 (k : Int), .int .i64 (b : Int), .int .i64 d, .int .i64 0] 47)) := ((Below.refl _ _).drew).alloc (Nat.le_refl _) _
                    have hS1 := And.intro ((ba.cell (p := ⟨bo, 1, none⟩) lo).trans c1) ((ba.cell (p := ⟨br, b, none⟩) lb).trans cb)
                    refine wpAnyF_step 8 rfl (by kernel_rfl) (fun K hK => ?_)
                    go_simp
                    refine hK.out _ _ (.inr hS1) ?_
                    clear hK K
                    try simp only [Act.put, List.setIfInBounds_toArray, List.set_cons_succ, List.set_cons_zero]
                    refine wpAnyF_step 9 rfl (by kernel_rfl) (fun K hK => ?_)
                    refine step_op_append rfl (s := .tmp 57) (x := .tmp 64) (t := 22) rfl rfl rfl HR.out ?_
                    refine hK.out _ _ (.inr ⟨z1, z3⟩) ?_
                    clear hK K
                    try simp only [Act.put, List.setIfInBounds_toArray]
                    refine wpAnyF_step 10 rfl (by kernel_rfl) (fun K hK => ?_)
                    go_simp
                    refine hK.out _ _ (.inr ⟨z1, z3⟩) ?_
                    clear hK K
                    try simp only [Act.put, List.setIfInBounds_toArray, List.set_cons_succ, List.set_cons_zero]
                    refine wpAnyF_step 11 rfl (by kernel_rfl) (fun K hK => ?_)
                    go_simp
                    refine hK.out _ _ (.inl rfl) ?_
                    clear hK K
                    try simp only [Act.put, List.setIfInBounds_toArray, List.set_cons_succ, List.set_cons_zero]
                    refine wpAnyF_done (by kernel_rfl) ?_ _
                    go_wp2_with fail
                    go_roundw
                    case rel => exact ⟨b + 1, .slice o7 n7 c7, by omega, by go_num, hidE (by rw [HTK2.out]; exact HFI.out), hidE (by rw [HTK2.out]; exact HS1.out), hidE (by rw [heap_setCell_other _ _ _ _ (by intro q; have q1 := HO1.out; rw [show bo = br from q.symm, HX1.out] at q1; injection q1 with q1; injection q1 with _ q4; exact absurd q4 (by decide))]; exact HX1.out)⟩
                    case measure => simp [intOf]; omega
          · obtain rfl : b = R := by omega
            go_wp2_with fail
            go_roundw
            case rel => exact ⟨k + 1, v, by omega, by go_num, hidE (by rw [← closeAt_row]; exact hfine.out), hidE (by rw [← closeAt_row]; exact hst.out)⟩
            case measure => simp [intOf]; omega
      · obtain rfl : k = R := by omega
        rw [closeAt_end] at hfine hst
        obtain ⟨o6, c6, ev, hba6, hso6⟩ := boundsAt_of_out hst.out.own
        have hso := sorted_still wO o6 c6 _ (by have := hfine.out.2; omega) (closeL_ordered k D) hso6 hba6
        have HGO := hidE (HGD.out hfine.out)
        obtain ⟨L, hL⟩ : ∃ L, closeL k D = L := ⟨_, rfl⟩
        rw [hL] at hst ev hso HGO
        obtain ⟨n6, hn6⟩ : ∃ n, L.length = n := ⟨_, rfl⟩
        rw [hn6] at ev hso
        subst ev
        have HSO := hidE hso
        have c1 : wO.cell? ⟨bo, 1, none⟩ = some (.slice o6 n6 c6) := by rw [cell_of_row _ _ _ _ _ _ hst.out.xo]; rfl
        clear hfine hba6 hso6 hso hL hn6
        go_wp2_with fail
        refine HSO.out.mono ?_
        rintro e w5 ⟨o5, c5, rfl, hbo5, hb5⟩
        have s5 := hst.out.grow hb5
        have HB5 := hidE hbo5
        have S5 := hidE s5
        have f0 : w5.cell? ⟨bo, 0, none⟩ = some (.int .i64 (k : Int)) := by rw [cell_of_row _ _ _ _ _ _ s5.xo]; rfl
        have f1 : w5.cell? ⟨bo, 1, none⟩ = some (.slice o6 n6 c6) := by rw [cell_of_row _ _ _ _ _ _ s5.xo]; rfl
        have f2 : ∀ i, w5.frozen? ⟨bo, i, none⟩ = false := fun i => frozen_of_row _ _ _ _ _ s5.xo
        have g0 : w5.cell? ⟨w.heap.size + 1, 0, none⟩ = some (.int .i64 0) := by rw [cell_of_row _ _ _ _ _ _ s5.x1]; rfl
        have g1 : w5.cell? ⟨w.heap.size + 1, 1, none⟩ = some (.slice none 0 0) := by rw [cell_of_row _ _ _ _ _ _ s5.x1]; rfl
        have g2 : ∀ i, w5.frozen? ⟨w.heap.size + 1, i, none⟩ = false := fun i => frozen_of_row _ _ _ _ _ s5.x1
        have hne : ¬ (bo = w.heap.size + 1) := by omega
        have hne' : ¬ (w.heap.size + 1 = bo) := by omega
        have hwB : w.heap.size ≤ wO.heap.size := hst.out.bl.size
        clear hbo5 s5 hb5 c1
        go_wp2_with fail
        refine bodyPost_ret (v := .tuple #[.agg #[.int .i64 (k : Int), .slice o5 n6 c5], .int .i64 0]) (by simp [results, Tryz.results6, go_sem, g0, g1]) rfl ⟨?_, ?_⟩
        · rw [HGO.out]
          refine ⟨_, rfl, ?_⟩
          have q := ownsRow_base HB5.out hwB
          refine ownsRow_of_block q (fun gg hg => ?_)
          have q1 := owns_type HB5.out S5.out.xo (by decide) hg
          have q2 := owns_type HB5.out S5.out.x1 (by decide) hg
          rw [heap_setCell_other _ _ _ _ q2, heap_setCell_other _ _ _ _ q2, heap_setCell_other _ _ _ _ q1]
        · exact ((S5.out.bl.setCell (by show w.heap.size ≤ bo; omega) _).setCell (by simp) _).setCell (by simp) _
  · have hE : closeE N bs = (0, [], askedE N bs []) := by unfold closeE; rw [if_neg he]
    obtain ⟨c, hc⟩ : ∃ c, askedE N bs [] = c := ⟨_, rfl⟩
    have hc1 : (c == 0) = false := by rw [← hc]; simpa using he
    have hc2 : (c != 0) = true := by rw [← hc]; simpa using he
    have HC := hidE hc
    have HD := hidE hE
    have HEE := hidE he
    have HA := hidE hask
    clear hE he hc hask
    go_enter Tryz.func6, Tryz.ntmps6
    go_upto_region 1 with fail
    rw [← HW0.out]
    go_wp2_with fail
    refine HA.out.mono ?_
    rintro e w1 ⟨hp, hb1⟩
    unfold AskedPost at hp
    rw [if_neg HEE.out, HC.out] at hp
    subst hp
    have x1 := blk_below hb1 (lt_of_block X1.out) X1.out
    have g0 : w1.cell? ⟨w.heap.size + 1, 0, none⟩ = some (.int .i64 0) := by rw [cell_of_row _ _ _ _ _ _ x1]; rfl
    have g1 : w1.cell? ⟨w.heap.size + 1, 1, none⟩ = some (.slice none 0 0) := by rw [cell_of_row _ _ _ _ _ _ x1]; rfl
    have g2 : ∀ i, w1.frozen? ⟨w.heap.size + 1, i, none⟩ = false := fun i => frozen_of_row _ _ _ _ _ x1
    have HB1 := hidE (HB0.out.trans (hb1.mono HB0.out.size))
    clear hb1 x1
    go_wp2_with fail
    refine bodyPost_ret (v := .tuple #[.agg #[.int .i64 0, .slice none 0 0], .int .i64 c]) (by simp [results, Tryz.results6, go_sem, g0, g1]) rfl ⟨?_, ?_⟩
    · rw [HD.out, HC.out]
      exact ⟨_, rfl, World.ownsRow_nil _ _ _ _⟩
    · exact (HB1.out.setCell (by simp) _).setCell (by simp) _


end Go.Proofs.YthcmjhellpjllaaGreat
