/- Walk: the reference's some. Conditions: a net that was asked for, at most 40 points. -/
import Derived.Test.YtejbpoclfjkllaaCYf
import Derived.Test.YtejbpoclfjkllaaP2
import Derived.Test.YtejbpoclfjkllaaA5
import Derived.IntWalk
namespace Go.Proofs.Ytejbpoclfjkllaa
open Go Go.RowKit Go.Shelf

theorem fill_skip {α : Type} (f : Nat → α) (z : α) {N k : Nat} (hk : k < N) (h : f k = z) : (List.range k).map f ++ List.replicate (N - k) z = (List.range (k + 1)).map f ++ List.replicate (N - (k + 1)) z := by
  obtain ⟨m, hm⟩ : ∃ m, N - k = m + 1 := ⟨N - k - 1, by omega⟩
  rw [hm, show N - (k + 1) = m by omega, List.replicate_succ, List.range_succ, List.map_append]
  simp [h]
theorem below_drewN_of' {B : Nat} {V W Y : World} {n : Nat} (h : Y = W.drewN n) (hb : Below B V W) : Hid (Below B V Y) := by
  subst h; exact hidE (hb.trans (below_drewN' _ _))

/-- What stands in the loop over the other points. -/
structure InSt (w1 W : World) (bo bg h : Nat) (out : List Int) (given : List Bool) (f : Fr) : Prop where
  o : W.heap[bo]? = some (.cells (rowA out) 3 (0,0))
  g : W.heap[bg]? = some (.cells (boolA given) 4 (0,0))
  box : W.heap[h]? = some (.cells #[.int .i64 f.s, .bool f.ok] 98 (0,0))
  bl : Below w1.heap.size w1 W

theorem InSt.grow {w1 W W' : World} {bo bg h : Nat} {out : List Int} {given : List Bool} {f : Fr} (s : InSt w1 W bo bg h out given f) (hb : Below W.heap.size W W') : InSt w1 W' bo bg h out given f :=
  ⟨blk_below hb (lt_of_block s.o) s.o, blk_below hb (lt_of_block s.g) s.g, blk_below hb (lt_of_block s.box) s.box, s.bl.trans (hb.mono s.bl.size)⟩
theorem InSt.drewN' {w1 W Y : World} {bo bg h : Nat} {out : List Int} {given : List Bool} {f : Fr} {n : Nat} (s : InSt w1 W bo bg h out given f) (e : Y = W.drewN n) : Hid (InSt w1 Y bo bg h out given f) :=
  hidE (s.grow (below_drewN_of' e (Below.refl _ _)).out)
theorem InSt.set {w1 W : World} {bo bg h : Nat} {out : List Int} {given : List Bool} {f : Fr} (s : InSt w1 W bo bg h out given f) (h1 : w1.heap.size ≤ h) (h2 : bo ≠ h) (h3 : bg ≠ h) (n : Int) (b : Bool) :
    InSt w1 ((W.setCell ⟨h, 0, none⟩ (.int .i64 n)).setCell ⟨h, 1, none⟩ (.bool b)) bo bg h out given ⟨n, b⟩ := by
  refine ⟨?_, ?_, ?_, (s.bl.setCell (by exact h1) _).setCell (by exact h1) _⟩
  · exact (heap_setCell_other _ _ _ _ h2).trans ((heap_setCell_other _ _ _ _ h2).trans s.o)
  · exact (heap_setCell_other _ _ _ _ h3).trans ((heap_setCell_other _ _ _ _ h3).trans s.g)
  · exact heap_setCell_same _ _ 1 _ _ (.bool b) (heap_setCell_same _ _ 0 _ _ (.int .i64 n) s.box)

/-- What stands between two points. -/
structure SmSt (w1 W : World) (bo bg : Nat) (out : List Int) (given : List Bool) : Prop where
  o : W.heap[bo]? = some (.cells (rowA out) 3 (0,0))
  g : W.heap[bg]? = some (.cells (boolA given) 4 (0,0))
  bl : Below w1.heap.size w1 W

theorem SmSt.set {w1 W : World} {bo bg : Nat} {out : List Int} {given : List Bool} (s : SmSt w1 W bo bg out given) (hne : bo ≠ bg) (h1 : w1.heap.size ≤ bo) (h2 : w1.heap.size ≤ bg) (p : Nat) (n : Int) (b : Bool) :
    SmSt w1 ((W.setCell ⟨bo, p, none⟩ (.int .i64 n)).setCell ⟨bg, p, none⟩ (.bool b)) bo bg (out.set p n) (given.set p b) := by
  refine ⟨?_, ?_, (s.bl.setCell (by exact h1) _).setCell (by exact h2) _⟩
  · refine (heap_setCell_other _ _ _ _ hne).trans ((heap_setCell_same _ _ _ _ _ _ s.o).trans ?_)
    rw [rowA_set]
  · refine (heap_setCell_same _ _ _ _ _ _ ((heap_setCell_other _ _ _ _ (Ne.symm hne)).trans s.g)).trans ?_
    rw [boolA_set]

set_option maxRecDepth 100000 in
set_option maxHeartbeats 4000000 in
theorem refsome_any (w : World) (R : Nat) (a : Option Addr) (cap : Nat) (bs : List Bd) (t : List Int) (HO : NetOk R bs t) (ht : openedP R bs = some t) (h40 : R ≤ 40) (hB : BoundsAt w a bs) :
    Calls Try.prog 110 #[.agg #[.int .i64 (R : Int), .slice a bs.length cap]] w fun e w' => IntsOut (someP R (tableP R t bs)) w.heap.size e w' ∧ Below w.heap.size w w' := by
  rw [← some_ref HO ht]
  have hn0 := HO.n0
  have hmat := fun W hb => matrix_net W R a cap bs t HO h40 hb
  have hdim := matrix_dim HO
  have hwi : ∀ k, k ≤ R → Within 6000000000 ((List.range k).foldl (someAtR R (matrixP R bs)) (someStartR R (matrixP R bs))).1 := by
    intro k hk
    rw [someFold_same HO.n1 (tabBd_of HO) (tabMat_of HO ht) HO.n0 k hk]
    intro i
    have := someFold_bd (tabBd_of HO) HO.n0 k hk i
    omega
  have hlen : ∀ k, k ≤ R → ((List.range k).foldl (someAtR R (matrixP R bs)) (someStartR R (matrixP R bs))).1.length = R ∧ ((List.range k).foldl (someAtR R (matrixP R bs)) (someStartR R (matrixP R bs))).2.length = R := by
    intro k hk
    rw [someFold_same HO.n1 (tabBd_of HO) (tabMat_of HO ht) HO.n0 k hk]
    exact someFold_len R _ k
  have hsz : ∀ i j, i < R → j < R → (mget (matrixP R bs) i j).ok = true → -128000000 ≤ (mget (matrixP R bs) i j).s ∧ (mget (matrixP R bs) i j).s ≤ 128000000 := by
    intro i j hi hj ho
    have hb := tabBd_of HO i j hi hj
    rcases tabMat_of HO ht i j hi hj with ⟨_, h2, h3⟩ | ⟨h1, _⟩
    · rw [h3]; exact ⟨hb.1, hb.2.2 h2⟩
    · rw [h1] at ho; simp at ho
  obtain ⟨d, hdd⟩ : ∃ d, matrixP R bs = d := ⟨_, rfl⟩
  rw [hdd] at hmat hdim hwi hlen hsz ⊢
  have HM := hidE hmat
  have HDIM := hidE hdim
  have HWI := hidE hwi
  have HLEN := hidE hlen
  have HSZ := hidE hsz
  have H := hidE hB
  clear hmat hdim hwi hlen hsz hB hdd ht HO
  have hmk3 := fun W => run_make_row' (P := Try.prog) 27 3 (.int .i64 0) 8 Try.underlying27 Try.info3' rfl .i64 .i64 R (by omega) (by omega) W
  have hmk4 := fun W => run_make_row' (P := Try.prog) 45 4 (.bool false) 1 Try.underlying45 Try.info4' rfl .i64 .i64 R (by omega) (by omega) W
  obtain ⟨w0, hw0⟩ : ∃ X, X = w.alloc (.cells #[.int .i64 (R : Int), .slice a bs.length cap] 24) := ⟨_, rfl⟩
  have b0 : Below w.heap.size w w0 := by rw [hw0]; exact (Below.refl _ _).alloc (Nat.le_refl _) _
  have X0 : Hid (w0.heap[w.heap.size]? = some (.cells #[.int .i64 (R : Int), .slice a bs.length cap] 24 (0,0))) := hidE (by rw [hw0]; exact heap_alloc_new _ _)
  have B0 := hidE b0
  have f0 : w0.cell? ⟨w.heap.size, 0, none⟩ = some (.int .i64 (R : Int)) := by rw [cell_of_row _ _ _ _ _ _ X0.out]; rfl
  have f1 : w0.cell? ⟨w.heap.size, 1, none⟩ = some (.slice a bs.length cap) := by rw [cell_of_row _ _ _ _ _ _ X0.out]; rfl
  go_enter Try.func110, Try.ntmps110
  go_upto_region 1 with fail
  rw [← hw0]
  clear hw0 b0
  go_wp2_with fail
  refine (HM.out _ (H.out.below B0.out (Nat.le_refl _))).mono ?_
  rintro e w1 ⟨rfl, hm, hb1⟩
  have X1 := hidE (blk_below hb1 (lt_of_block X0.out) X0.out)
  have B1 := hidE (B0.out.trans (hb1.mono B0.out.size))
  have MA := hidE hm
  have e1 : w1.cell? ⟨w.heap.size, 0, none⟩ = some (.int .i64 (R : Int)) := by rw [cell_of_row _ _ _ _ _ _ X1.out]; rfl
  have l1 : w.heap.size < w1.heap.size := lt_of_block X1.out
  clear f0 f1 hm hb1
  obtain ⟨B, hBB⟩ : ∃ B, w0.heap.size + 1 = B := ⟨_, rfl⟩
  rw [hBB] at MA ⊢
  clear hBB
  go_upto_region 4 with fail
  obtain ⟨W4, hW4⟩ : ∃ X, X = (w1.alloc (.cells (madeCells #[.int .i64 0] R) 3)).alloc (.cells (madeCells #[.bool false] R) 4) := ⟨_, rfl⟩
  rw [← hW4]
  obtain ⟨bo, hbo⟩ : ∃ b, b = w1.heap.size := ⟨_, rfl⟩
  obtain ⟨bg, hbg⟩ : ∃ b, b = w1.heap.size + 1 := ⟨_, rfl⟩
  rw [← hbg, ← hbo]
  have st4 : SmSt w1 W4 bo bg (List.replicate R 0) (List.replicate R false) := by
    rw [hW4, hbo, hbg]
    refine ⟨?_, ?_, ((Below.refl _ _).alloc (Nat.le_refl _) _).alloc (by simp) _⟩
    · rw [← madeInts]; exact (Below.heap_alloc _ _ _ (by simp)).trans (heap_alloc_new _ _)
    · rw [← madeBools]; exact heap_alloc_at _ _ _ (by simp)
  have hne : bo ≠ bg := by omega
  have lbo : w1.heap.size ≤ bo := by omega
  have lbg : w1.heap.size ≤ bg := by omega
  have ST4 := hidE st4
  clear hW4 hbo hbg st4 hmk3 hmk4 e1
  have e4 : W4.cell? ⟨w.heap.size, 0, none⟩ = some (.int .i64 (R : Int)) := by rw [cell_of_row _ _ _ _ _ _ (blk_below ST4.out.bl l1 X1.out)]; rfl
  go_wp2_with fail
  clear e4
  go_loopw [6] (fun i wr => ∃ k : Nat, k ≤ R ∧ i = .int .i64 k ∧ Hid (SmSt w1 wr bo bg ((List.range k).map (fun p => frV (mget d 0 p)) ++ List.replicate (R - k) 0) ((List.range k).map (fun p => (mget d 0 p).ok) ++ List.replicate (R - k) false))) (fun i _ => R - (intOf i).toNat)
  case atStart => exact ⟨0, Nat.zero_le _, rfl, by simpa using ST4⟩
  case round =>
    obtain ⟨k, hk, rfl, hst⟩ := hrel
    have e5 : wr.cell? ⟨w.heap.size, 0, none⟩ = some (.int .i64 (R : Int)) := by rw [cell_of_row _ _ _ _ _ _ (blk_below hst.out.bl l1 X1.out)]; rfl
    by_cases hlt : k < R
    · have kR : (k : Int) < (R : Int) := by omega
      have R0 : (0 : Int) < (R : Int) := by omega
      have R0' : 0 < R := by omega
      have hmr := MA.out.below hst.out.bl
      have s0 := hmr.slot (i := 0) R0'
      obtain ⟨r0, r1, _⟩ := hmr.cells HDIM.out (i := 0) (j := k) R0' hlt
      simp only [Nat.add_zero] at s0 r0 r1
      obtain ⟨xo, hxo⟩ : ∃ xo, ((List.range k).map (fun p => frV (mget d 0 p)) ++ List.replicate (R - k) 0).getD k 0 = xo := ⟨_, rfl⟩
      obtain ⟨xg, hxg⟩ : ∃ xg, ((List.range k).map (fun p => (mget d 0 p).ok) ++ List.replicate (R - k) false).getD k false = xg := ⟨_, rfl⟩
      have co : wr.cell? ⟨bo, k, none⟩ = some (.int .i64 xo) := by rw [cell_of_row _ _ _ _ _ _ hst.out.o, rowA_get (by simp; omega), hxo]
      have fo : wr.frozen? ⟨bo, k, none⟩ = false := frozen_of_row _ _ _ _ _ hst.out.o
      have cg : wr.cell? ⟨bg, k, none⟩ = some (.bool xg) := by rw [cell_of_row _ _ _ _ _ _ hst.out.g, boolA_get (by simp; omega), hxg]
      have fg : wr.frozen? ⟨bg, k, none⟩ = false := frozen_of_row _ _ _ _ _ hst.out.g
      have hne' : ¬ bg = bo := fun e => hne e.symm
      have nBo : ¬ B = bo := by have := lt_of_block MA.out.out; omega
      have nB1 : ¬ B + 1 = bo := by have := lt_of_block (MA.out.row 0 R0'); omega
      clear hmr hxo hxg
      obtain ⟨⟨s, o⟩, hso⟩ : ∃ f, mget d 0 k = f := ⟨_, rfl⟩
      rw [hso] at r0 r1
      simp only at r0 r1
      have HSO := hidE hso
      clear hso
      cases o with
      | false =>
        go_wp2_with fail
        go_roundw
        case rel => exact ⟨k + 1, by omega, by go_num, hidE (by
          rw [← fill_skip (fun p => frV (mget d 0 p)) 0 hlt (by show frV (mget d 0 k) = 0; rw [HSO.out]; rfl), ← fill_skip (fun p => (mget d 0 p).ok) false hlt (by show (mget d 0 k).ok = false; rw [HSO.out])]
          exact hst.out)⟩
        case measure => simp [intOf]; omega
      | true =>
        go_wp2_with fail
        go_roundw
        case rel => exact ⟨k + 1, by omega, by go_num, hidE (by
          rw [← fill_map (fun p => frV (mget d 0 p)) 0 hlt, ← fill_map (fun p => (mget d 0 p).ok) false hlt, show frV (mget d 0 k) = s by rw [HSO.out]; rfl, show (mget d 0 k).ok = true by rw [HSO.out]]
          exact hst.out.set hne lbo lbg _ _ _)⟩
        case measure => simp [intOf]; omega
    · obtain rfl : R = k := by omega
      have st5 : Hid (SmSt w1 wr bo bg ((List.range 0).foldl (someAtR R d) (someStartR R d)).1 ((List.range 0).foldl (someAtR R d) (someStartR R d)).2) := by simpa [someStartR] using hst
      clear hst
      obtain ⟨wA, rfl⟩ : ∃ x : World, x = wr := ⟨wr, rfl⟩
      go_wp2_with fail
      clear e5
      go_loopw [7] (fun i wr => ∃ p : Nat, p ≤ R ∧ i = .int .i64 p ∧ Hid (SmSt w1 wr bo bg ((List.range p).foldl (someAtR R d) (someStartR R d)).1 ((List.range p).foldl (someAtR R d) (someStartR R d)).2)) (fun i _ => R - (intOf i).toNat)
      case atStart => exact ⟨0, Nat.zero_le _, rfl, st5⟩
      case round =>
        obtain ⟨p, hp, rfl, hst⟩ := hrel
        have e5 : wr.cell? ⟨w.heap.size, 0, none⟩ = some (.int .i64 (R : Int)) := by rw [cell_of_row _ _ _ _ _ _ (blk_below hst.out.bl l1 X1.out)]; rfl
        by_cases hlt : p < R
        · have pR : (p : Int) < (R : Int) := by omega
          have hnext : (List.range (p + 1)).foldl (someAtR R d) (someStartR R d) = someAtR R d ((List.range p).foldl (someAtR R d) (someStartR R d)) p := by rw [List.range_succ, List.foldl_append]; rfl
          have hwi := HWI.out p hp
          have hlen := HLEN.out p hp
          obtain ⟨⟨out, given⟩, hog⟩ : ∃ st, (List.range p).foldl (someAtR R d) (someStartR R d) = st := ⟨_, rfl⟩
          rw [hog] at hst hwi hlen hnext
          simp only at hst hwi hlen
          have HNX := hidE hnext
          have HW := hidE hwi
          have HL := hidE hlen
          have cgp : wr.cell? ⟨bg, p, none⟩ = some (.bool (given.getD p false)) := by rw [cell_of_row _ _ _ _ _ _ hst.out.g, boolA_get (by omega)]
          clear hog hwi hlen hnext
          cases hgp : given.getD p false with
          | true =>
            rw [hgp] at cgp
            have hsame : someAtR R d (out, given) p = (out, given) := by unfold someAtR; rw [if_pos hgp]
            have HS := hidE hsame
            clear hgp hsame
            go_wp2_with fail
            go_roundw
            case rel => exact ⟨p + 1, by omega, by go_num, hidE (by rw [HNX.out, HS.out]; exact hst.out)⟩
            case measure => simp [intOf]; omega
          | false =>
            rw [hgp] at cgp
            have hsame : someAtR R d (out, given) p = (out.set p (someEndR ((List.range R).foldl (someInR d out given p) (0, fr0))), given.set p true) := by unfold someAtR; rw [if_neg (by rw [hgp]; simp)]
            have HS := hidE hsame
            clear hgp hsame
            go_upto_region 16 with fail
            obtain ⟨Wn, hWn⟩ : ∃ X, X = wr.alloc (.cells #[.int .i64 0, .bool false] 98) := ⟨_, rfl⟩
            rw [← hWn]
            obtain ⟨h, hh⟩ : ∃ b, b = wr.heap.size := ⟨_, rfl⟩
            rw [← hh]
            have sti : InSt w1 Wn bo bg h out given fr0 := by
              have hb : Below wr.heap.size wr Wn := by rw [hWn]; exact (Below.refl _ _).alloc (Nat.le_refl _) _
              refine ⟨blk_below hb (lt_of_block hst.out.o) hst.out.o, blk_below hb (lt_of_block hst.out.g) hst.out.g, ?_, hst.out.bl.trans (hb.mono hst.out.bl.size)⟩
              rw [hWn, hh]; exact heap_alloc_new _ _
            have hwh : w1.heap.size ≤ h := by rw [hh]; exact hst.out.bl.size
            have hoh : bo ≠ h := by have := lt_of_block hst.out.o; omega
            have hgh : bg ≠ h := by have := lt_of_block hst.out.g; omega
            have STI := hidE sti
            clear hWn hh sti e5 cgp hst
            go_wp2_with fail
            go_loopw [8, 10] (fun s8 i wx => ∃ q : Nat, q ≤ R ∧ i = .int .i64 q ∧ s8 = .int .i64 ((List.range q).foldl (someInR d out given p) (0, fr0)).1 ∧ Hid (InSt w1 wx bo bg h out given ((List.range q).foldl (someInR d out given p) (0, fr0)).2)) (fun _ i _ => R - (intOf i).toNat)
            case atStart => exact ⟨0, Nat.zero_le _, rfl, rfl, STI⟩
            case round =>
              obtain ⟨wx, rfl⟩ : ∃ x : World, x = wr := ⟨wr, rfl⟩
              obtain ⟨q, hq, rfl, rfl, hst⟩ := hrel
              have eR0 : wx.cell? ⟨w.heap.size, 0, none⟩ = some (.int .i64 (R : Int)) := by rw [cell_of_row _ _ _ _ _ _ (blk_below hst.out.bl l1 X1.out)]; rfl
              by_cases hql : q < R
              · have qR : (q : Int) < (R : Int) := by omega
                have hnx2 : (List.range (q + 1)).foldl (someInR d out given p) (0, fr0) = someInR d out given p ((List.range q).foldl (someInR d out given p) (0, fr0)) q := by rw [List.range_succ, List.foldl_append]; rfl
                obtain ⟨⟨va, ⟨fs, fo⟩⟩, hfold⟩ : ∃ s, (List.range q).foldl (someInR d out given p) (0, fr0) = s := ⟨_, rfl⟩
                rw [hfold] at hst hnx2 ⊢
                simp only at hst ⊢
                have HNX2 := hidE hnx2
                clear hfold hnx2
                have cg0 : wx.cell? ⟨bg, q, none⟩ = some (.bool (given.getD q false)) := by rw [cell_of_row _ _ _ _ _ _ hst.out.g, boolA_get (by have := HL.out; omega)]
                cases hgq : given.getD q false with
                | false =>
                  rw [hgq] at cg0
                  have hres : someInR d out given p (va, ⟨fs, fo⟩) q = (va, ⟨fs, fo⟩) := by unfold someInR; rw [if_neg (by rw [hgq]; simp), if_neg (by rw [hgq]; simp)]
                  have HRES := hidE hres
                  clear hgq hres
                  go_wp2_with fail
                  go_roundw
                  case rel => exact ⟨q + 1, by omega, by go_num, by rw [HNX2.out, HRES.out], hidE (by rw [HNX2.out, HRES.out]; exact hst.out)⟩
                  case measure => simp [intOf]; omega
                | true =>
                  rw [hgq] at cg0
                  have MMx := hidE (MA.out.below hst.out.bl)
                  have s1 := MMx.out.slot hlt
                  have s20 := MMx.out.slot hql
                  obtain ⟨r0, r1, _⟩ := MMx.out.cells HDIM.out hlt hql
                  obtain ⟨t00, t10, _⟩ := MMx.out.cells HDIM.out hql hlt
                  have b1 := HSZ.out p q hlt hql
                  have b2 := HSZ.out q p hql hlt
                  have cx0 : wx.cell? ⟨bo, q, none⟩ = some (.int .i64 (out.getD q 0)) := by rw [cell_of_row _ _ _ _ _ _ hst.out.o, rowA_get (by have := HL.out; omega)]
                  obtain ⟨bx1, bx2⟩ := HW.out q
                  obtain ⟨x, hx⟩ : ∃ x, out.getD q 0 = x := ⟨_, rfl⟩
                  obtain ⟨v1, hv1⟩ : ∃ x, (mget d p q).s = x := ⟨_, rfl⟩
                  obtain ⟨v2, hv2⟩ : ∃ x, (mget d q p).s = x := ⟨_, rfl⟩
                  rw [hx] at cx0 bx1 bx2
                  rw [hv1] at r0 b1
                  rw [hv2] at t00 b2
                  cases o1 : (mget d p q).ok with
                  | false =>
                    rw [o1] at r1 b1
                    clear b1
                    cases o2 : (mget d q p).ok with
                    | false =>
                      rw [o2] at t10 b2
                      clear b2
                      have hres : someInR d out given p (va, ⟨fs, fo⟩) q = (va, ⟨fs, fo⟩) := by
                        unfold someInR
                        rw [if_neg (by rw [o1]; simp), if_neg (by rw [o2]; simp)]
                      have HRES := hidE hres
                      clear hres hx hv1 hv2 o1 o2 hgq
                      have MM := MMx
                      have cx := cx0
                      have cg := cg0
                      have s2 := s20
                      have t0 := t00
                      have t1 := t10
                      have eR := eR0
                      clear cx0 cg0 s20 t00 t10 eR0
                      have HSY := hst
                      go_wp2_with fail
                      go_roundw
                      case rel => exact ⟨q + 1, by omega, by go_num, by rw [HNX2.out, HRES.out], hidE (by rw [HNX2.out, HRES.out]; exact HSY.out)⟩
                      case measure => simp [intOf]; omega
                    | true =>
                      rw [o2] at t10 b2
                      obtain ⟨b21, b22⟩ := b2 rfl
                      have hres : someInR d out given p (va, ⟨fs, fo⟩) q = (va, lesserP ⟨fs, fo⟩ ⟨x + v2, true⟩) := by
                        unfold someInR
                        rw [if_neg (by rw [o1]; simp), if_pos ⟨hgq, o2⟩]
                        rw [hx, hv2]
                      have HRES := hidE hres
                      have wxv : IntKind.i64.wrap (x + v2) = x + v2 := IntWalk.i64_in _ (by omega)
                      clear hres hx hv1 hv2 o1 o2 hgq
                      have MM := MMx
                      have cx := cx0
                      have cg := cg0
                      have s2 := s20
                      have t0 := t00
                      have t1 := t10
                      have eR := eR0
                      clear cx0 cg0 s20 t00 t10 eR0
                      have HSY := hst
                      go_upto_region 22 with fail
                      have c0 : wx.cell? ⟨h, 0, none⟩ = some (.int .i64 fs) := by rw [cell_of_row _ _ _ _ _ _ HSY.out.box]; rfl
                      have c1 : wx.cell? ⟨h, 1, none⟩ = some (.bool fo) := by rw [cell_of_row _ _ _ _ _ _ HSY.out.box]; rfl
                      have lh : h < wx.heap.size := lt_of_block HSY.out.box
                      have lo : bo < wx.heap.size := lt_of_block HSY.out.o
                      have lB : B < wx.heap.size := lt_of_block MM.out.out
                      have lq : B + 1 + q < wx.heap.size := lt_of_block (MM.out.row q hql)
                      refine wp_region_F (S := fun V => V.cell? ⟨h, 0, none⟩ = some (.int .i64 fs) ∧ V.cell? ⟨h, 1, none⟩ = some (.bool fo) ∧ V.cell? ⟨bo, q, none⟩ = some (.int .i64 x) ∧ V.cell? ⟨B, q, none⟩ = some (.slice (some ⟨B + 1 + q, 0, none⟩) R R) ∧ V.cell? ⟨B + 1 + q, p * 2, none⟩ = some (.int .i64 v2)) (last := 16) (by kernel_rfl) ?_
                      have hS0 : wx.drew.cell? ⟨h, 0, none⟩ = some (.int .i64 fs) ∧ wx.drew.cell? ⟨h, 1, none⟩ = some (.bool fo) ∧ wx.drew.cell? ⟨bo, q, none⟩ = some (.int .i64 x) ∧ wx.drew.cell? ⟨B, q, none⟩ = some (.slice (some ⟨B + 1 + q, 0, none⟩) R R) ∧ wx.drew.cell? ⟨B + 1 + q, p * 2, none⟩ = some (.int .i64 v2) := ⟨c0, c1, cx, s2, t0⟩
                      refine wpAnyF_take (i := 0) (v := (.agg #[.int .i64 fs, .bool fo])) (by kernel_rfl) (by decide) rfl (by kernel_rfl) (by kernel_rfl) (by kernel_rfl) (fun _ _ _ h => h) (.inl ⟨rfl, fun V hV => ?_⟩) hS0 ?_
                      · obtain ⟨v0, v1', v2', v3', v4'⟩ := hV
                        simp [go_sem, execOp, v0, v1']
                      simp only [Act.put, List.setIfInBounds_toArray]
                      refine wpAnyF_take (i := 1) (v := (.slice (some ⟨bo, 0, none⟩) R R)) (by kernel_rfl) (by decide) rfl (by kernel_rfl) (by kernel_rfl) (by kernel_rfl) (fun _ _ _ h => h) (.inl ⟨rfl, fun V hV => ?_⟩) hS0 ?_
                      · obtain ⟨v0, v1', v2', v3', v4'⟩ := hV
                        simp [go_sem, execOp]
                      simp only [Act.put]
                      refine wpAnyF_take (i := 2) (v := (.int .i64 (q : Int))) (by kernel_rfl) (by decide) rfl (by kernel_rfl) (by kernel_rfl) (by kernel_rfl) (fun _ _ _ h => h) (.inl ⟨rfl, fun V hV => ?_⟩) hS0 ?_
                      · obtain ⟨v0, v1', v2', v3', v4'⟩ := hV
                        simp [go_sem, execOp]
                      simp only [Act.put]
                      refine wpAnyF_take (i := 3) (v := (.pointer (some ⟨bo, q, none⟩))) (by kernel_rfl) (by decide) rfl (by kernel_rfl) (by kernel_rfl) (by kernel_rfl) (fun _ _ _ h => h) (.inl ⟨rfl, fun V hV => ?_⟩) hS0 ?_
                      · obtain ⟨v0, v1', v2', v3', v4'⟩ := hV
                        simp [go_sem, execOp, qR]
                      simp only [Act.put]
                      refine wpAnyF_take (i := 4) (v := (.int .i64 x)) (by kernel_rfl) (by decide) rfl (by kernel_rfl) (by kernel_rfl) (by kernel_rfl) (fun _ _ _ h => h) (.inl ⟨rfl, fun V hV => ?_⟩) hS0 ?_
                      · obtain ⟨v0, v1', v2', v3', v4'⟩ := hV
                        simp [go_sem, execOp, v2']
                      simp only [Act.put]
                      refine wpAnyF_take (i := 5) (v := (.slice (some ⟨B, 0, none⟩) R R)) (by kernel_rfl) (by decide) rfl (by kernel_rfl) (by kernel_rfl) (by kernel_rfl) (fun _ _ _ h => h) (.inl ⟨rfl, fun V hV => ?_⟩) hS0 ?_
                      · obtain ⟨v0, v1', v2', v3', v4'⟩ := hV
                        simp [go_sem, execOp]
                      simp only [Act.put]
                      refine wpAnyF_take (i := 6) (v := (.int .i64 (q : Int))) (by kernel_rfl) (by decide) rfl (by kernel_rfl) (by kernel_rfl) (by kernel_rfl) (fun _ _ _ h => h) (.inl ⟨rfl, fun V hV => ?_⟩) hS0 ?_
                      · obtain ⟨v0, v1', v2', v3', v4'⟩ := hV
                        simp [go_sem, execOp]
                      simp only [Act.put]
                      refine wpAnyF_take (i := 7) (v := (.pointer (some ⟨B, q, none⟩))) (by kernel_rfl) (by decide) rfl (by kernel_rfl) (by kernel_rfl) (by kernel_rfl) (fun _ _ _ h => h) (.inl ⟨rfl, fun V hV => ?_⟩) hS0 ?_
                      · obtain ⟨v0, v1', v2', v3', v4'⟩ := hV
                        simp [go_sem, execOp, qR]
                      simp only [Act.put]
                      refine wpAnyF_take (i := 8) (v := (.slice (some ⟨B + 1 + q, 0, none⟩) R R)) (by kernel_rfl) (by decide) rfl (by kernel_rfl) (by kernel_rfl) (by kernel_rfl) (fun _ _ _ h => h) (.inl ⟨rfl, fun V hV => ?_⟩) hS0 ?_
                      · obtain ⟨v0, v1', v2', v3', v4'⟩ := hV
                        simp [go_sem, execOp, v3']
                      simp only [Act.put]
                      refine wpAnyF_take (i := 9) (v := (.int .i64 (p : Int))) (by kernel_rfl) (by decide) rfl (by kernel_rfl) (by kernel_rfl) (by kernel_rfl) (fun _ _ _ h => h) (.inl ⟨rfl, fun V hV => ?_⟩) hS0 ?_
                      · obtain ⟨v0, v1', v2', v3', v4'⟩ := hV
                        simp [go_sem, execOp]
                      simp only [Act.put]
                      refine wpAnyF_take (i := 10) (v := (.pointer (some ⟨B + 1 + q, p * 2, none⟩))) (by kernel_rfl) (by decide) rfl (by kernel_rfl) (by kernel_rfl) (by kernel_rfl) (fun _ _ _ h => h) (.inl ⟨rfl, fun V hV => ?_⟩) hS0 ?_
                      · obtain ⟨v0, v1', v2', v3', v4'⟩ := hV
                        simp [go_sem, execOp, pR]
                      simp only [Act.put]
                      refine wpAnyF_take (i := 11) (v := (.pointer (some ⟨B + 1 + q, p * 2, none⟩))) (by kernel_rfl) (by decide) rfl (by kernel_rfl) (by kernel_rfl) (by kernel_rfl) (fun _ _ _ h => h) (.inl ⟨rfl, fun V hV => ?_⟩) hS0 ?_
                      · obtain ⟨v0, v1', v2', v3', v4'⟩ := hV
                        simp [go_sem, execOp]
                      simp only [Act.put]
                      refine wpAnyF_take (i := 12) (v := (.int .i64 v2)) (by kernel_rfl) (by decide) rfl (by kernel_rfl) (by kernel_rfl) (by kernel_rfl) (fun _ _ _ h => h) (.inl ⟨rfl, fun V hV => ?_⟩) hS0 ?_
                      · obtain ⟨v0, v1', v2', v3', v4'⟩ := hV
                        simp [go_sem, execOp, v4']
                      simp only [Act.put]
                      refine wpAnyF_take (i := 13) (v := (.int .i64 (x + v2))) (by kernel_rfl) (by decide) rfl (by kernel_rfl) (by kernel_rfl) (by kernel_rfl) (fun _ _ _ h => h) (.inl ⟨rfl, fun V hV => ?_⟩) hS0 ?_
                      · obtain ⟨v0, v1', v2', v3', v4'⟩ := hV
                        simp [go_sem, execOp, wxv]
                      simp only [Act.put]
                      refine wpAnyF_take (i := 14) (v := (.agg #[.int .i64 (x + v2), .bool true])) (by kernel_rfl) (by decide) rfl (by kernel_rfl) (by kernel_rfl) (by kernel_rfl) (fun _ _ _ h => h) (.inl ⟨rfl, fun V hV => ?_⟩) hS0 ?_
                      · obtain ⟨v0, v1', v2', v3', v4'⟩ := hV
                        simp [go_sem, execOp]
                      simp only [Act.put]
                      refine wpAnyF_step 15 rfl (by kernel_rfl) (fun K hK => ?_)
                      go_simp
                      go_at_call 136
                      refine (lesser_at _ _ _ _ _).mono ?_
                      rintro e w3 ⟨rfl, hb3⟩
                      go_wp2_with fail
                      have k0 := (hb3.cell (p := ⟨h, 0, none⟩) lh).trans c0
                      have k1 := (hb3.cell (p := ⟨h, 1, none⟩) lh).trans c1
                      have k2 := (hb3.cell (p := ⟨bo, q, none⟩) lo).trans cx
                      have k3 := (hb3.cell (p := ⟨B, q, none⟩) lB).trans s2
                      have k4 := (hb3.cell (p := ⟨B + 1 + q, p * 2, none⟩) lq).trans t0
                      have hst3 := HSY.out.grow (W' := w3) (below_of_drew hb3)
                      have k6 : ∀ i, w3.frozen? ⟨h, i, none⟩ = false := fun i => frozen_of_row _ _ _ _ _ hst3.box
                      have HST3 := hidE hst3
                      clear hst3 hb3
                      refine hK.out _ _ (.inr ⟨k0, k1, k2, k3, k4⟩) ?_
                      clear hK K
                      try simp only [Act.put, List.setIfInBounds_toArray, List.set_cons_succ, List.set_cons_zero]
                      refine wpAnyF_step 16 rfl (by kernel_rfl) (fun K hK => ?_)
                      go_simp
                      refine hK.out _ _ (.inl rfl) ?_
                      clear hK K
                      refine wpAnyF_done (by kernel_rfl) ?_ _
                      go_wp2_with fail
                      go_roundw
                      case rel => exact ⟨q + 1, by omega, by go_num, by rw [HNX2.out, HRES.out], hidE (by rw [HNX2.out, HRES.out]; exact HST3.out.set hwh hoh hgh _ _)⟩
                      case measure => simp [intOf]; omega
                  | true =>
                    rw [o1] at r1 b1
                    obtain ⟨b11, b12⟩ := b1 rfl
                    clear b1
                    cases o2 : (mget d q p).ok with
                    | false =>
                      rw [o2] at t10 b2
                      clear b2
                      have hres : someInR d out given p (va, ⟨fs, fo⟩) q = (max va (x - v1), ⟨fs, fo⟩) := by
                        unfold someInR
                        rw [if_pos ⟨hgq, o1⟩, if_neg (by rw [o2]; simp)]
                        rw [hx, hv1]
                      have HRES := hidE hres
                      have wxw : IntKind.i64.wrap (x - v1) = x - v1 := IntWalk.i64_in _ (by omega)
                      clear hres hx hv1 hv2 o1 o2 hgq
                      go_wp2_with fail
                      go_quiet (fail)
                      obtain ⟨Y, hY⟩ : ∃ Y, Y = wx.drewN nq := ⟨_, rfl⟩
                      rw [← hY]
                      have HSY := hst.out.drewN' hY
                      have MM := hidE (MMx.out.below (below_drewN_of' (B := wx.heap.size) hY (Below.refl _ _)).out)
                      have cx : Y.cell? ⟨bo, q, none⟩ = some (.int .i64 x) := by subst hY; exact cx0
                      have cg : Y.cell? ⟨bg, q, none⟩ = some (.bool true) := by subst hY; exact cg0
                      have s2 : Y.cell? ⟨B, q, none⟩ = some (.slice (some ⟨B + 1 + q, 0, none⟩) R R) := by subst hY; exact s20
                      have t0 : Y.cell? ⟨B + 1 + q, p * 2, none⟩ = some (.int .i64 v2) := by subst hY; exact t00
                      have t1 : Y.cell? ⟨B + 1 + q, p * 2 + 1, none⟩ = some (.bool false) := by subst hY; exact t10
                      clear hY cx0 cg0 s1 s20 r0 r1 t00 t10 wxw eR0
                      have eR : Y.cell? ⟨w.heap.size, 0, none⟩ = some (.int .i64 (R : Int)) := by rw [cell_of_row _ _ _ _ _ _ (blk_below HSY.out.bl l1 X1.out)]; rfl
                      go_wp2_with fail
                      go_roundw
                      case rel => exact ⟨q + 1, by omega, by go_num, by rw [HNX2.out, HRES.out], hidE (by rw [HNX2.out, HRES.out]; exact HSY.out)⟩
                      case measure => simp [intOf]; omega
                    | true =>
                      rw [o2] at t10 b2
                      obtain ⟨b21, b22⟩ := b2 rfl
                      have hres : someInR d out given p (va, ⟨fs, fo⟩) q = (max va (x - v1), lesserP ⟨fs, fo⟩ ⟨x + v2, true⟩) := by
                        unfold someInR
                        rw [if_pos ⟨hgq, o1⟩, if_pos ⟨hgq, o2⟩]
                        rw [hx, hv1, hv2]
                      have HRES := hidE hres
                      have wxw : IntKind.i64.wrap (x - v1) = x - v1 := IntWalk.i64_in _ (by omega)
                      have wxv : IntKind.i64.wrap (x + v2) = x + v2 := IntWalk.i64_in _ (by omega)
                      clear hres hx hv1 hv2 o1 o2 hgq
                      go_wp2_with fail
                      go_quiet (fail)
                      obtain ⟨Y, hY⟩ : ∃ Y, Y = wx.drewN nq := ⟨_, rfl⟩
                      rw [← hY]
                      have HSY := hst.out.drewN' hY
                      have MM := hidE (MMx.out.below (below_drewN_of' (B := wx.heap.size) hY (Below.refl _ _)).out)
                      have cx : Y.cell? ⟨bo, q, none⟩ = some (.int .i64 x) := by subst hY; exact cx0
                      have cg : Y.cell? ⟨bg, q, none⟩ = some (.bool true) := by subst hY; exact cg0
                      have s2 : Y.cell? ⟨B, q, none⟩ = some (.slice (some ⟨B + 1 + q, 0, none⟩) R R) := by subst hY; exact s20
                      have t0 : Y.cell? ⟨B + 1 + q, p * 2, none⟩ = some (.int .i64 v2) := by subst hY; exact t00
                      have t1 : Y.cell? ⟨B + 1 + q, p * 2 + 1, none⟩ = some (.bool true) := by subst hY; exact t10
                      clear hY cx0 cg0 s1 s20 r0 r1 t00 t10 wxw eR0
                      have eR : Y.cell? ⟨w.heap.size, 0, none⟩ = some (.int .i64 (R : Int)) := by rw [cell_of_row _ _ _ _ _ _ (blk_below HSY.out.bl l1 X1.out)]; rfl
                      go_upto_region 22 with fail
                      have c0 : Y.cell? ⟨h, 0, none⟩ = some (.int .i64 fs) := by rw [cell_of_row _ _ _ _ _ _ HSY.out.box]; rfl
                      have c1 : Y.cell? ⟨h, 1, none⟩ = some (.bool fo) := by rw [cell_of_row _ _ _ _ _ _ HSY.out.box]; rfl
                      have lh : h < Y.heap.size := lt_of_block HSY.out.box
                      have lo : bo < Y.heap.size := lt_of_block HSY.out.o
                      have lB : B < Y.heap.size := lt_of_block MM.out.out
                      have lq : B + 1 + q < Y.heap.size := lt_of_block (MM.out.row q hql)
                      refine wp_region_F (S := fun V => V.cell? ⟨h, 0, none⟩ = some (.int .i64 fs) ∧ V.cell? ⟨h, 1, none⟩ = some (.bool fo) ∧ V.cell? ⟨bo, q, none⟩ = some (.int .i64 x) ∧ V.cell? ⟨B, q, none⟩ = some (.slice (some ⟨B + 1 + q, 0, none⟩) R R) ∧ V.cell? ⟨B + 1 + q, p * 2, none⟩ = some (.int .i64 v2)) (last := 16) (by kernel_rfl) ?_
                      have hS0 : Y.drew.cell? ⟨h, 0, none⟩ = some (.int .i64 fs) ∧ Y.drew.cell? ⟨h, 1, none⟩ = some (.bool fo) ∧ Y.drew.cell? ⟨bo, q, none⟩ = some (.int .i64 x) ∧ Y.drew.cell? ⟨B, q, none⟩ = some (.slice (some ⟨B + 1 + q, 0, none⟩) R R) ∧ Y.drew.cell? ⟨B + 1 + q, p * 2, none⟩ = some (.int .i64 v2) := ⟨c0, c1, cx, s2, t0⟩
                      refine wpAnyF_take (i := 0) (v := (.agg #[.int .i64 fs, .bool fo])) (by kernel_rfl) (by decide) rfl (by kernel_rfl) (by kernel_rfl) (by kernel_rfl) (fun _ _ _ h => h) (.inl ⟨rfl, fun V hV => ?_⟩) hS0 ?_
                      · obtain ⟨v0, v1', v2', v3', v4'⟩ := hV
                        simp [go_sem, execOp, v0, v1']
                      simp only [Act.put, List.setIfInBounds_toArray]
                      refine wpAnyF_take (i := 1) (v := (.slice (some ⟨bo, 0, none⟩) R R)) (by kernel_rfl) (by decide) rfl (by kernel_rfl) (by kernel_rfl) (by kernel_rfl) (fun _ _ _ h => h) (.inl ⟨rfl, fun V hV => ?_⟩) hS0 ?_
                      · obtain ⟨v0, v1', v2', v3', v4'⟩ := hV
                        simp [go_sem, execOp]
                      simp only [Act.put]
                      refine wpAnyF_take (i := 2) (v := (.int .i64 (q : Int))) (by kernel_rfl) (by decide) rfl (by kernel_rfl) (by kernel_rfl) (by kernel_rfl) (fun _ _ _ h => h) (.inl ⟨rfl, fun V hV => ?_⟩) hS0 ?_
                      · obtain ⟨v0, v1', v2', v3', v4'⟩ := hV
                        simp [go_sem, execOp]
                      simp only [Act.put]
                      refine wpAnyF_take (i := 3) (v := (.pointer (some ⟨bo, q, none⟩))) (by kernel_rfl) (by decide) rfl (by kernel_rfl) (by kernel_rfl) (by kernel_rfl) (fun _ _ _ h => h) (.inl ⟨rfl, fun V hV => ?_⟩) hS0 ?_
                      · obtain ⟨v0, v1', v2', v3', v4'⟩ := hV
                        simp [go_sem, execOp, qR]
                      simp only [Act.put]
                      refine wpAnyF_take (i := 4) (v := (.int .i64 x)) (by kernel_rfl) (by decide) rfl (by kernel_rfl) (by kernel_rfl) (by kernel_rfl) (fun _ _ _ h => h) (.inl ⟨rfl, fun V hV => ?_⟩) hS0 ?_
                      · obtain ⟨v0, v1', v2', v3', v4'⟩ := hV
                        simp [go_sem, execOp, v2']
                      simp only [Act.put]
                      refine wpAnyF_take (i := 5) (v := (.slice (some ⟨B, 0, none⟩) R R)) (by kernel_rfl) (by decide) rfl (by kernel_rfl) (by kernel_rfl) (by kernel_rfl) (fun _ _ _ h => h) (.inl ⟨rfl, fun V hV => ?_⟩) hS0 ?_
                      · obtain ⟨v0, v1', v2', v3', v4'⟩ := hV
                        simp [go_sem, execOp]
                      simp only [Act.put]
                      refine wpAnyF_take (i := 6) (v := (.int .i64 (q : Int))) (by kernel_rfl) (by decide) rfl (by kernel_rfl) (by kernel_rfl) (by kernel_rfl) (fun _ _ _ h => h) (.inl ⟨rfl, fun V hV => ?_⟩) hS0 ?_
                      · obtain ⟨v0, v1', v2', v3', v4'⟩ := hV
                        simp [go_sem, execOp]
                      simp only [Act.put]
                      refine wpAnyF_take (i := 7) (v := (.pointer (some ⟨B, q, none⟩))) (by kernel_rfl) (by decide) rfl (by kernel_rfl) (by kernel_rfl) (by kernel_rfl) (fun _ _ _ h => h) (.inl ⟨rfl, fun V hV => ?_⟩) hS0 ?_
                      · obtain ⟨v0, v1', v2', v3', v4'⟩ := hV
                        simp [go_sem, execOp, qR]
                      simp only [Act.put]
                      refine wpAnyF_take (i := 8) (v := (.slice (some ⟨B + 1 + q, 0, none⟩) R R)) (by kernel_rfl) (by decide) rfl (by kernel_rfl) (by kernel_rfl) (by kernel_rfl) (fun _ _ _ h => h) (.inl ⟨rfl, fun V hV => ?_⟩) hS0 ?_
                      · obtain ⟨v0, v1', v2', v3', v4'⟩ := hV
                        simp [go_sem, execOp, v3']
                      simp only [Act.put]
                      refine wpAnyF_take (i := 9) (v := (.int .i64 (p : Int))) (by kernel_rfl) (by decide) rfl (by kernel_rfl) (by kernel_rfl) (by kernel_rfl) (fun _ _ _ h => h) (.inl ⟨rfl, fun V hV => ?_⟩) hS0 ?_
                      · obtain ⟨v0, v1', v2', v3', v4'⟩ := hV
                        simp [go_sem, execOp]
                      simp only [Act.put]
                      refine wpAnyF_take (i := 10) (v := (.pointer (some ⟨B + 1 + q, p * 2, none⟩))) (by kernel_rfl) (by decide) rfl (by kernel_rfl) (by kernel_rfl) (by kernel_rfl) (fun _ _ _ h => h) (.inl ⟨rfl, fun V hV => ?_⟩) hS0 ?_
                      · obtain ⟨v0, v1', v2', v3', v4'⟩ := hV
                        simp [go_sem, execOp, pR]
                      simp only [Act.put]
                      refine wpAnyF_take (i := 11) (v := (.pointer (some ⟨B + 1 + q, p * 2, none⟩))) (by kernel_rfl) (by decide) rfl (by kernel_rfl) (by kernel_rfl) (by kernel_rfl) (fun _ _ _ h => h) (.inl ⟨rfl, fun V hV => ?_⟩) hS0 ?_
                      · obtain ⟨v0, v1', v2', v3', v4'⟩ := hV
                        simp [go_sem, execOp]
                      simp only [Act.put]
                      refine wpAnyF_take (i := 12) (v := (.int .i64 v2)) (by kernel_rfl) (by decide) rfl (by kernel_rfl) (by kernel_rfl) (by kernel_rfl) (fun _ _ _ h => h) (.inl ⟨rfl, fun V hV => ?_⟩) hS0 ?_
                      · obtain ⟨v0, v1', v2', v3', v4'⟩ := hV
                        simp [go_sem, execOp, v4']
                      simp only [Act.put]
                      refine wpAnyF_take (i := 13) (v := (.int .i64 (x + v2))) (by kernel_rfl) (by decide) rfl (by kernel_rfl) (by kernel_rfl) (by kernel_rfl) (fun _ _ _ h => h) (.inl ⟨rfl, fun V hV => ?_⟩) hS0 ?_
                      · obtain ⟨v0, v1', v2', v3', v4'⟩ := hV
                        simp [go_sem, execOp, wxv]
                      simp only [Act.put]
                      refine wpAnyF_take (i := 14) (v := (.agg #[.int .i64 (x + v2), .bool true])) (by kernel_rfl) (by decide) rfl (by kernel_rfl) (by kernel_rfl) (by kernel_rfl) (fun _ _ _ h => h) (.inl ⟨rfl, fun V hV => ?_⟩) hS0 ?_
                      · obtain ⟨v0, v1', v2', v3', v4'⟩ := hV
                        simp [go_sem, execOp]
                      simp only [Act.put]
                      refine wpAnyF_step 15 rfl (by kernel_rfl) (fun K hK => ?_)
                      go_simp
                      go_at_call 136
                      refine (lesser_at _ _ _ _ _).mono ?_
                      rintro e w3 ⟨rfl, hb3⟩
                      go_wp2_with fail
                      have k0 := (hb3.cell (p := ⟨h, 0, none⟩) lh).trans c0
                      have k1 := (hb3.cell (p := ⟨h, 1, none⟩) lh).trans c1
                      have k2 := (hb3.cell (p := ⟨bo, q, none⟩) lo).trans cx
                      have k3 := (hb3.cell (p := ⟨B, q, none⟩) lB).trans s2
                      have k4 := (hb3.cell (p := ⟨B + 1 + q, p * 2, none⟩) lq).trans t0
                      have hst3 := HSY.out.grow (W' := w3) (below_of_drew hb3)
                      have k6 : ∀ i, w3.frozen? ⟨h, i, none⟩ = false := fun i => frozen_of_row _ _ _ _ _ hst3.box
                      have HST3 := hidE hst3
                      clear hst3 hb3
                      refine hK.out _ _ (.inr ⟨k0, k1, k2, k3, k4⟩) ?_
                      clear hK K
                      try simp only [Act.put, List.setIfInBounds_toArray, List.set_cons_succ, List.set_cons_zero]
                      refine wpAnyF_step 16 rfl (by kernel_rfl) (fun K hK => ?_)
                      go_simp
                      refine hK.out _ _ (.inl rfl) ?_
                      clear hK K
                      refine wpAnyF_done (by kernel_rfl) ?_ _
                      go_wp2_with fail
                      go_roundw
                      case rel => exact ⟨q + 1, by omega, by go_num, by rw [HNX2.out, HRES.out], hidE (by rw [HNX2.out, HRES.out]; exact HST3.out.set hwh hoh hgh _ _)⟩
                      case measure => simp [intOf]; omega
              · obtain rfl : q = R := by omega
                have hsame := HS.out
                obtain ⟨⟨va, ⟨fs, fo⟩⟩, hfold⟩ : ∃ s, (List.range q).foldl (someInR d out given p) (0, fr0) = s := ⟨_, rfl⟩
                rw [hfold] at hst hsame ⊢
                simp only at hst ⊢
                have HS2 := hidE hsame
                clear hfold hsame HS
                have co2 : wx.cell? ⟨bo, p, none⟩ = some (.int .i64 (out.getD p 0)) := by rw [cell_of_row _ _ _ _ _ _ hst.out.o, rowA_get (by have := HL.out; omega)]
                have cg2 : wx.cell? ⟨bg, p, none⟩ = some (.bool (given.getD p false)) := by rw [cell_of_row _ _ _ _ _ _ hst.out.g, boolA_get (by have := HL.out; omega)]
                have fo2 : wx.frozen? ⟨bo, p, none⟩ = false := frozen_of_row _ _ _ _ _ hst.out.o
                have fg2 : wx.frozen? ⟨bg, p, none⟩ = false := frozen_of_row _ _ _ _ _ hst.out.g
                have c0 : wx.cell? ⟨h, 0, none⟩ = some (.int .i64 fs) := by rw [cell_of_row _ _ _ _ _ _ hst.out.box]; rfl
                have c1 : wx.cell? ⟨h, 1, none⟩ = some (.bool fo) := by rw [cell_of_row _ _ _ _ _ _ hst.out.box]; rfl
                have hne' : ¬ bg = bo := fun e => hne e.symm
                obtain ⟨vo, hvo⟩ : ∃ v, out.getD p 0 = v := ⟨_, rfl⟩
                obtain ⟨vg, hvg⟩ : ∃ v, given.getD p false = v := ⟨_, rfl⟩
                rw [hvo] at co2
                rw [hvg] at cg2
                have hsm : Hid (SmSt w1 wx bo bg out given) := hidE ⟨hst.out.o, hst.out.g, hst.out.bl⟩
                clear hvo hvg
                cases fo with
                | false =>
                  go_wp2_with fail
                  go_roundw
                  case rel => exact ⟨p + 1, by omega, by go_num, hidE (by rw [HNX.out, HS2.out]; exact hsm.out.set hne lbo lbg _ _ _)⟩
                  case measure => simp [intOf]; omega
                | true =>
                  go_wp2_with fail
                  go_roundw
                  case rel => exact ⟨p + 1, by omega, by go_num, hidE (by rw [HNX.out, HS2.out]; exact hsm.out.set hne lbo lbg _ _ _)⟩
                  case measure => simp [intOf]; omega
        · obtain rfl : p = R := by omega
          have hlen := (HLEN.out p (Nat.le_refl _)).1
          have HL := hidE hlen
          have hoo : Hid (wr.heap[bo]? = some (.cells (rowA (someR p d)) 3 (0,0))) := hidE hst.out.o
          have HBL := hidE (B1.out.trans (hst.out.bl.mono B1.out.size))
          have hsz : w.heap.size ≤ bo := by omega
          clear hlen hst
          go_wp2_with fail
          go_ret
          refine ⟨⟨_, rfl, ?_⟩, HBL.out⟩
          have hll : (someR p d).length = p := HL.out
          have := owns_of_block (base := w.heap.size) (l := someR p d) hsz hoo.out (by omega)
          rw [hll] at this ⊢
          exact this

end Go.Proofs.Ytejbpoclfjkllaa
