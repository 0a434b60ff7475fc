/- Walk: the reference's Distances. Conditions: at most 40 points where the system is checked. -/
import Derived.Test.YtejbpoclfjkllaaCYf
namespace Go.Proofs.Ytejbpoclfjkllaa
open Go Go.RowKit Go.Shelf

/-- What stands between two rounds of the reference's Distances. -/
structure RdSt (w w2 W : World) (R : Nat) (a : Option Addr) (len cap : Nat) (B x : Nat) (row : List Fr) (v9 v10 : Value) (l1 : List Int) (l2 : List Bool) : Prop where
  box : W.heap[w.heap.size]? = some (.cells #[.int .i64 (R : Int), .slice a len cap] 24 (0,0))
  row : W.heap[B + 1 + x]? = some (.cells (frCells row).toArray 98 (0,0))
  o1 : W.ownsRow w2.heap.size 3 1 v9 l1.length (intsV l1)
  o2 : W.ownsRow w2.heap.size 4 1 v10 l2.length (boolsV l2)
  lt0 : w.heap.size < w2.heap.size
  lt1 : B + 1 + x < w2.heap.size
  bl : Below w2.heap.size w2 W

theorem RdSt.next {w w2 W : World} {R : Nat} {a : Option Addr} {len cap B x : Nat} {row : List Fr} {v9 v10 : Value} {l1 : List Int} {l2 : List Bool} (h : RdSt w w2 W R a len cap B x row v9 v10 l1 l2) (s : Int) (o : Bool) (h1 : l1.length ≤ 1000) (h2 : l2.length ≤ 1000) :
    ∃ v9' W1 v10' W2, Hid ((Builtin.append_ #[27, 27] 27 #[v9, .slice (some ⟨W.heap.size, 0, none⟩) 1 1]).run Try.prog (W.alloc (.cells #[.int .i64 s] 3)) = .ok v9' W1) ∧ Hid (W1.heap[B + 1 + x]? = some (.cells (frCells row).toArray 98 (0,0))) ∧
      Hid ((Builtin.append_ #[45, 45] 45 #[v10, .slice (some ⟨W1.heap.size, 0, none⟩) 1 1]).run Try.prog (W1.alloc (.cells #[.bool o] 4)) = .ok v10' W2) ∧ Hid (RdSt w w2 W2 R a len cap B x row v9' v10' (l1 ++ [s]) (l2 ++ [o])) := by
  have b1 : Below W.heap.size W (W.alloc (.cells #[.int .i64 s] 3)) := (Below.refl _ _).alloc (Nat.le_refl _) _
  obtain ⟨v9', W1, r1, p1, q1, k1⟩ := append_int (W.alloc (.cells #[.int .i64 s] 3)) w2.heap.size v9 l1 (h.o1.alloc _) W.heap.size s (heap_alloc_new _ _) (by omega) (Nat.le_trans h.bl.size b1.size) 27
  have n1 : W1.ownsRow w2.heap.size 4 1 v10 l2.length (boolsV l2) := owns_apart (h.o2.alloc (.cells #[.int .i64 s] 3)) k1 (h.o1.alloc (.cells #[.int .i64 s] 3)) (by decide)
  have b2 : Below W1.heap.size W1 (W1.alloc (.cells #[.bool o] 4)) := (Below.refl _ _).alloc (Nat.le_refl _) _
  have c1 : Below w2.heap.size W W1 := ((b1.mono h.bl.size).trans q1)
  obtain ⟨v10', W2, r2, p2, q2, k2⟩ := append_bool (W1.alloc (.cells #[.bool o] 4)) w2.heap.size v10 l2 (n1.alloc _) W1.heap.size o (heap_alloc_new _ _) (by omega) (Nat.le_trans (Nat.le_trans h.bl.size c1.size) b2.size) 45
  have n2 : W2.ownsRow w2.heap.size 3 1 v9' (l1 ++ [s]).length (intsV (l1 ++ [s])) := owns_apart (p1.alloc (.cells #[.bool o] 4)) k2 (n1.alloc (.cells #[.bool o] 4)) (by decide)
  have c2 : Below w2.heap.size W W2 := c1.trans ((b2.mono (Nat.le_trans h.bl.size c1.size)).trans q2)
  exact ⟨v9', W1, v10', W2, hidE r1, hidE ((c1.block _ h.lt1).trans h.row), hidE r2, hidE ⟨(c2.block _ h.lt0).trans h.box, (c2.block _ h.lt1).trans h.row, n2, p2, h.lt0, h.lt1, h.bl.trans c2⟩⟩

set_option maxRecDepth 100000 in
set_option maxHeartbeats 4000000 in
theorem refdistances_any (w : World) (N : Int) (a : Option Addr) (cap : Nat) (bs : List Bd) (x : Int) (hN : i64ok N) (hl : bs.length ≤ 9223372036854775807) (h : BoundsAt w a bs) (hsm : checkP N bs = 0 → N ≤ 40) :
    Calls Try.prog 42 #[.agg #[.int .i64 N, .slice a bs.length cap], .int .i64 x] w fun e w' => DistPost (distancesP N bs x) e w' ∧ Below w.heap.size w w' := by
  have H := hidE h
  have HN := hidE hN
  clear h hN
  have hB0 : Below w.heap.size w ((w.alloc (.cells #[.int .i64 N, .slice a bs.length cap] 24)).alloc (.cells #[.int .i64 x] 3)) := ((Below.refl _ _).alloc (Nat.le_refl _) _).alloc (by simp) _
  have hx0 : ((w.alloc (.cells #[.int .i64 N, .slice a bs.length cap] 24)).alloc (.cells #[.int .i64 x] 3)).heap[w.heap.size]? = some (.cells #[.int .i64 N, .slice a bs.length cap] 24 (0,0)) :=
    (Below.heap_alloc _ _ _ (by simp)).trans (heap_alloc_new _ _)
  have hints := ints_one (w.alloc (.cells #[.int .i64 N, .slice a bs.length cap] 24)) x
  simp only [World.size_alloc] at hints
  have hask : Calls Try.prog 90 #[.agg #[.int .i64 N, .slice a bs.length cap], .slice (some ⟨w.heap.size + 1, 0, none⟩) 1 1] ((w.alloc (.cells #[.int .i64 N, .slice a bs.length cap] 24)).alloc (.cells #[.int .i64 x] 3)) _ :=
    pointed_any _ N a cap bs (some ⟨w.heap.size + 1, 0, none⟩) 1 [x] HN.out hl (by simp) ((H.out.alloc (.cells #[.int .i64 N, .slice a bs.length cap] 24)).alloc (.cells #[.int .i64 x] 3)) hints
  have X0 := hidE hx0
  clear hints hx0
  by_cases he : askedE N bs [x] = 0
  · have h40 := hsm (askedE_zero he).1
    obtain ⟨R, x', t, rfl, rfl, hx, ht, HO⟩ := asked1 he
    have h40' : R ≤ 40 := by omega
    rw [he] at hask
    have hdim := matrix_dim HO
    have hd : distancesP R bs x' = ((List.range R).map (fun b => frV (mget (matrixP R bs) x' b)), (List.range R).map (fun b => (mget (matrixP R bs) x' b).ok), 0) := by
      unfold distancesP; rw [if_pos he]; simp only [Int.toNat_natCast]
      have e1 : (List.range R).map (fun b => nV (distN R bs x' b)) = (List.range R).map (fun b => frV (mget (matrixP R bs) x' b)) := List.map_congr_left fun b hb => (frV_dist HO ht hx (List.mem_range.1 hb)).1.symm
      have e2 : (List.range R).map (fun b => nB (distN R bs x' b)) = (List.range R).map (fun b => (mget (matrixP R bs) x' b).ok) := List.map_congr_left fun b hb => (frV_dist HO ht hx (List.mem_range.1 hb)).2.symm
      rw [e1, e2]
    have hmat := fun W hb => matrix_net W R a cap bs t HO h40' hb
    obtain ⟨d, hdd⟩ : ∃ d, matrixP R bs = d := ⟨_, rfl⟩
    rw [hdd] at hd hdim hmat
    obtain ⟨row, hrow⟩ : ∃ r, d.getD x' [] = r := ⟨_, rfl⟩
    have hrl : row.length = R := by rw [← hrow]; exact hdim.2 x' hx
    have hget : ∀ b, mget d x' b = row.getD b fr0 := fun b => by unfold mget; rw [hrow]
    simp only [hget] at hd
    have xR : (x' : Int) < (R : Int) := by omega
    have HD := hidE hd
    have HM := hidE hmat
    have HA := hidE hask
    have HRW := hidE hrow
    have HRL := hidE hrl
    clear hd hmat hask hrow hrl hdd he ht hdim hget HO
    go_enter Try.func42, Try.ntmps42
    go_wp2_with fail
    refine HA.out.mono ?_
    rintro e w1 ⟨rfl, hb1⟩
    have x1 := blk_below hb1 (by simp; omega) X0.out
    have e0 : w1.cell? ⟨w.heap.size, 0, none⟩ = some (.int .i64 (R : Int)) := by rw [cell_of_row _ _ _ _ _ _ x1]; rfl
    have e1 : w1.cell? ⟨w.heap.size, 1, none⟩ = some (.slice a bs.length cap) := by rw [cell_of_row _ _ _ _ _ _ x1]; rfl
    have B1 := hidE (hB0.trans (hb1.mono hB0.size))
    have X1 := hidE x1
    have l1 : w.heap.size < w1.heap.size := lt_of_block x1
    clear x1 hb1
    go_wp2_with fail
    refine (HM.out _ (H.out.below B1.out (Nat.le_refl _))).mono ?_
    rintro e w2 ⟨rfl, hm, hb2⟩
    have q0 := hm.slot hx
    have hr2 := hm.row x' hx
    rw [HRW.out] at hr2
    have st2 : RdSt w w2 w2 R a bs.length cap (w1.heap.size + 1) x' row (.slice none 0 0) (.slice none 0 0) [] [] := ⟨blk_below hb2 l1 X1.out, hr2, World.ownsRow_nil _ _ _ _, World.ownsRow_nil _ _ _ _, Nat.lt_of_lt_of_le l1 hb2.size, lt_of_block hr2, Below.refl _ _⟩
    have ST2 := hidE st2
    have B2 := hidE (B1.out.trans (hb2.mono B1.out.size))
    clear e0 e1 hb2 hm hr2 st2
    go_wp2_with fail
    clear q0
    go_loopw [9, 10, 11] (fun s9 s10 i wr => ∃ k : Nat, k ≤ R ∧ i = .int .i64 k ∧ Hid (RdSt w w2 wr R a bs.length cap (w1.heap.size + 1) x' row s9 s10 ((List.range k).map (fun b => frV (row.getD b fr0))) ((List.range k).map (fun b => (row.getD b fr0).ok)))) (fun _ _ i _ => R - (intOf i).toNat)
    case atStart => exact ⟨0, by omega, rfl, ST2⟩
    case round =>
      obtain ⟨k, hk, rfl, hst⟩ := hrel
      have e0 : wr.cell? ⟨w.heap.size, 0, none⟩ = some (.int .i64 (R : Int)) := by rw [cell_of_row _ _ _ _ _ _ hst.out.box]; rfl
      have l0 : w.heap.size < wr.heap.size := lt_of_block hst.out.box
      by_cases hlt : k < R
      · have kR : (k : Int) < (R : Int) := by omega
        have hkl : k < row.length := by rw [HRL.out]; exact hlt
        have g0 : wr.cell? ⟨w1.heap.size + 1 + 1 + x', k * 2, none⟩ = some (.int .i64 (row.getD k fr0).s) := by rw [cell_of_row _ _ _ _ _ _ hst.out.row, List.getElem?_toArray, frCells_get0 _ _ hkl]
        have g1 : wr.cell? ⟨w1.heap.size + 1 + 1 + x', k * 2 + 1, none⟩ = some (.bool (row.getD k fr0).ok) := by rw [cell_of_row _ _ _ _ _ _ hst.out.row, List.getElem?_toArray, frCells_get1 _ _ hkl]
        have lr : w1.heap.size + 1 + 1 + x' < wr.heap.size := lt_of_block hst.out.row
        obtain ⟨⟨s, o⟩, hso⟩ : ∃ f, row.getD k fr0 = f := ⟨_, rfl⟩
        have hn1 : (List.range (k + 1)).map (fun b => frV (row.getD b fr0)) = (List.range k).map (fun b => frV (row.getD b fr0)) ++ [frV ⟨s, o⟩] := by rw [List.range_succ, List.map_append, ← hso]; rfl
        have hn2 : (List.range (k + 1)).map (fun b => (row.getD b fr0).ok) = (List.range k).map (fun b => (row.getD b fr0).ok) ++ [o] := by rw [List.range_succ, List.map_append]; simp only [List.map_cons, List.map_nil, hso]
        rw [hso] at g0 g1
        obtain ⟨v9', W1, v10', W2, HR1, HROW, HR2, HST⟩ := hst.out.next (frV ⟨s, o⟩) o (by simp; omega) (by simp; omega)
        have k1 : W1.cell? ⟨w1.heap.size + 1 + 1 + x', k * 2 + 1, none⟩ = some (.bool o) := by
          rw [cell_of_row _ _ _ _ _ _ HROW.out, List.getElem?_toArray, frCells_get1 _ _ hkl, hso]
        have HN1 := hidE hn1
        have HN2 := hidE hn2
        clear hn1 hn2 hso
        cases o with
        | false =>
          go_wp2_with (first
            | (at_builtin; refine wpList_op_append rfl (s := .tmp 43) (x := .tmp 44) (t := 27) rfl rfl rfl HR1.out ?_)
            | (at_builtin; refine wpList_op_append rfl (s := .tmp 46) (x := .tmp 52) (t := 45) rfl rfl rfl HR2.out ?_))
          go_roundw
          case rel => exact ⟨k + 1, by omega, by go_num, hidE (by rw [HN1.out, HN2.out]; exact HST.out)⟩
          case measure => simp [intOf]; omega
        | true =>
          go_wp2_with (first
            | (at_builtin; refine wpList_op_append rfl (s := .tmp 35) (x := .tmp 41) (t := 27) rfl rfl rfl HR1.out ?_)
            | (at_builtin; refine wpList_op_append rfl (s := .tmp 46) (x := .tmp 52) (t := 45) rfl rfl rfl HR2.out ?_))
          go_roundw
          case rel => exact ⟨k + 1, by omega, by go_num, hidE (by rw [HN1.out, HN2.out]; exact HST.out)⟩
          case measure => simp [intOf]; omega
      · obtain rfl : k = R := by omega
        obtain ⟨o9, c9, e9, i9, _⟩ := intsAt_of_owns hst.out.o1
        obtain ⟨o10, c10, e10, i10⟩ := boolsAt_of_owns hst.out.o2
        subst e9
        subst e10
        have hbb := B2.out.trans (hst.out.bl.mono B2.out.size)
        have HBB := hidE hbb
        have I9 := hidE i9
        have I10 := hidE i10
        clear hst hbb i9 i10
        go_wp2_with fail
        refine bodyPost_ret (v := .tuple #[.slice o9 ((List.range k).map (fun b => frV (row.getD b fr0))).length c9, .slice o10 ((List.range k).map (fun b => (row.getD b fr0).ok)).length c10, .int .i64 0]) (by simp [results, Try.results42, go_sem]) rfl ⟨?_, HBB.out⟩
        rw [HD.out]
        exact ⟨_, _, _, _, rfl, I9.out, I10.out⟩
  · have hd : distancesP N bs x = ([], [], askedE N bs [x]) := by unfold distancesP; rw [if_neg he]
    obtain ⟨c, hc⟩ : ∃ c, askedE N bs [x] = c := ⟨_, rfl⟩
    rw [hc] at hd hask he
    have hc2 : (c != 0) = true := by simpa using he
    have HD := hidE hd
    have HA := hidE hask
    clear hd he hc hask
    go_enter Try.func42, Try.ntmps42
    go_wp2_with fail
    refine HA.out.mono ?_
    rintro e w1 ⟨rfl, hb1⟩
    go_wp2_with fail
    refine bodyPost_ret (v := .tuple #[.slice none 0 0, .slice none 0 0, .int .i64 c]) (by simp [results, Try.results42, go_sem]) rfl ⟨?_, hB0.trans (hb1.mono hB0.size)⟩
    rw [HD.out]
    exact ⟨none, 0, none, 0, rfl, .inl rfl, .inl rfl⟩

end Go.Proofs.Ytejbpoclfjkllaa
