/- Walk: Rigid. No conditions beyond those stated. -/
import Derived.Test.YtejbpoclfjkllaaCZk
import Derived.Test.YtejbpoclfjkllaaCPlZ
import Derived.Test.YtejbpoclfjkllaaA3b
import Derived.Test.YtejbpoclfjkllaaCYk
import Derived.IntWalk
namespace Go.Proofs.Ytejbpoclfjkllaa
open Go Go.RowKit Go.Shelf

theorem below_drewN_of {B : Nat} {V W Y : World} {n : Nat} (h : Y = W.drewN n) (hb : Below B V W) : Hid (Below B V Y) := by
  subst h; exact hidE (hb.trans (below_drewN' _ _))

/-- What stands between two points of Rigid. -/
structure RgSt (w2 W : World) (bd : Nat) (v : Value) (fl : List Bool) (ls : List (List Int)) : Prop where
  d : W.heap[bd]? = some (.cells (boolA fl) 4 (0,0))
  o : OwnsL W w2.heap.size v ls
  bl : Below w2.heap.size w2 W
/-- What stands between two looks at one class. -/
structure RiSt (w2 wr W : World) (bd : Nat) (v : Value) (fl : List Bool) (l : List Int) : Prop where
  d : W.heap[bd]? = some (.cells (boolA fl) 4 (0,0))
  o : W.ownsRow wr.heap.size 3 1 v l.length (intsV l)
  keep : ∀ q, q ≠ bd → q < wr.heap.size → W.heap[q]? = wr.heap[q]?
  sz : wr.heap.size ≤ W.heap.size
  bl : Below w2.heap.size w2 W

theorem RgSt.inner {w2 W : World} {bd : Nat} {v : Value} {fl : List Bool} {ls : List (List Int)} (s : RgSt w2 W bd v fl ls) : RiSt w2 W W bd (.slice none 0 0) fl [] :=
  ⟨s.d, World.ownsRow_nil _ _ _ _, fun _ _ _ => rfl, Nat.le_refl _, s.bl⟩
theorem RiSt.grow {w2 wr W W' : World} {bd : Nat} {v : Value} {fl : List Bool} {l : List Int} (s : RiSt w2 wr W bd v fl l) (hb : Below W.heap.size W W') : RiSt w2 wr W' bd v fl l :=
  ⟨blk_below hb (lt_of_block s.d) s.d, ownsRow_of_block s.o (fun g hg => hb.block g (owns_lt' s.o hg)), fun q h1 h2 => (hb.block q (Nat.lt_of_lt_of_le h2 s.sz)).trans (s.keep q h1 h2), Nat.le_trans s.sz hb.size, s.bl.trans (hb.mono s.bl.size)⟩
theorem RiSt.push {w2 wr W : World} {bd : Nat} {v : Value} {fl : List Bool} {l : List Int} (s : RiSt w2 wr W bd v fl l) (_hbd : bd < wr.heap.size) (h2 : w2.heap.size ≤ bd) (hc : w2.heap.size ≤ wr.heap.size) (b : Nat) (hl : l.length ≤ 100000) :
    ∃ v' W1, Hid ((Builtin.append_ #[27, 27] 27 #[v, .slice (some ⟨W.heap.size, 0, none⟩) 1 1]).run Try.prog (W.alloc (.cells #[.int .i64 (b : Int)] 3)) = .ok v' W1) ∧ Hid (W1.heap[bd]? = some (.cells (boolA fl) 4 (0,0))) ∧
      Hid (RiSt w2 wr (W1.setCell ⟨bd, b, none⟩ (.bool true)) bd v' (fl.set b true) (l ++ [(b : Int)])) := by
  have ba : Below W.heap.size W (W.alloc (.cells #[.int .i64 (b : Int)] 3)) := (Below.refl _ _).alloc (Nat.le_refl _) _
  have d0 : (W.alloc (.cells #[.int .i64 (b : Int)] 3)).heap[bd]? = some (.cells (boolA fl) 4 (0,0)) := blk_below ba (lt_of_block s.d) s.d
  have o0 : (W.alloc (.cells #[.int .i64 (b : Int)] 3)).ownsRow wr.heap.size 3 1 v l.length (intsV l) := World.ownsRow.alloc s.o _
  obtain ⟨v', W1, r1, p1, q1, k1⟩ := append_int (W.alloc (.cells #[.int .i64 (b : Int)] 3)) wr.heap.size v l o0 W.heap.size (b : Int) (heap_alloc_new _ _) hl (Nat.le_trans s.sz ba.size) 27
  have d1 : W1.heap[bd]? = some (.cells (boolA fl) 4 (0,0)) := (k1 bd (lt_of_block d0) (fun e => owns_type o0 d0 (by decide) e rfl)).trans d0
  refine ⟨v', W1, hidE r1, hidE d1, hidE ⟨?_, ?_, ?_, ?_, ?_⟩⟩
  · rw [← boolA_set]; exact heap_setCell_same _ _ _ _ _ _ d1
  · exact ownsRow_of_block p1 (fun g hg => heap_setCell_other _ _ _ _ (owns_type p1 d1 (by decide) hg))
  · intro q e1 e2
    exact (heap_setCell_other _ _ _ _ e1).trans ((q1.block q e2).trans ((ba.block q (Nat.lt_of_lt_of_le e2 s.sz)).trans (s.keep q e1 e2)))
  · have := q1.size
    have := ba.size
    have := s.sz
    rw [World.size_setCell]; omega
  · exact (s.bl.trans ((ba.mono s.bl.size).trans (q1.mono hc))).setCell (by exact h2) _
theorem RgSt.close {w2 wr wx : World} {bd : Nat} {v8 v10 : Value} {fl0 fl : List Bool} {ls : List (List Int)} {l : List Int} (g : RgSt w2 wr bd v8 fl0 ls) (s : RiSt w2 wr wx bd v10 fl l) (hl : ls.length ≤ 100000) :
    ∃ v' W2, Hid ((Builtin.append_ #[62, 62] 62 #[v8, .slice (some ⟨wx.heap.size, 0, none⟩) 1 1]).run Try.prog (wx.alloc (.cells #[v10] 27)) = .ok v' W2) ∧ Hid (RgSt w2 W2 bd v' fl (ls ++ [l])) := by
  have o8 : OwnsL wx w2.heap.size v8 ls := g.o.keep g.d (by decide) (by decide) s.keep
  have hs : wx.ownsRow w2.heap.size 3 1 v10 l.length (intsV l) := ownsRow_base s.o g.bl.size
  obtain ⟨v', W2, r, p, q, k⟩ := o8.append hs hl (Nat.le_trans g.bl.size s.sz) 62
  obtain ⟨sls, h1, _⟩ := o8
  exact ⟨v', W2, hidE r, hidE ⟨(k bd (lt_of_block s.d) (fun e => owns_type h1 s.d (by decide) e rfl)).trans s.d, p, s.bl.trans q⟩⟩

set_option maxRecDepth 100000 in
set_option maxHeartbeats 4000000 in
theorem rigid_any (w : World) (N : Int) (a : Option Addr) (cap : Nat) (bs : List Bd) (hN : i64ok N) (hl : bs.length ≤ 9223372036854775807) (h : BoundsAt w a bs) :
    Calls Try.prog 65 #[.agg #[.int .i64 N, .slice a bs.length cap]] w fun e w' => ListsPost (rigidE N bs).1 (rigidE N bs).2 w.heap.size e w' ∧ Below w.heap.size w w' := by
  have H := hidE h
  have HN := hidE hN
  clear h hN
  have hB0 : Below w.heap.size w (w.alloc (.cells #[.int .i64 N, .slice a bs.length cap] 24)) := (Below.refl _ _).alloc (Nat.le_refl _) _
  have hx0 : (w.alloc (.cells #[.int .i64 N, .slice a bs.length cap] 24)).heap[w.heap.size]? = some (.cells #[.int .i64 N, .slice a bs.length cap] 24 (0,0)) := heap_alloc_new _ _
  have hask : Calls Try.prog 88 #[.agg #[.int .i64 N, .slice a bs.length cap], .slice none 0 0] (w.alloc (.cells #[.int .i64 N, .slice a bs.length cap] 24)) _ :=
    asked_any _ N a cap bs none 0 [] HN.out hl (by simp) (H.out.alloc _) (.inl rfl)
  have X0 := hidE hx0
  clear hx0
  by_cases he : askedE N bs [] = 0
  · obtain ⟨R, t, rfl, ht, HO⟩ := asked0 he
    have hE : rigidE R bs = (rigidL R (distN R bs), 0) := by unfold rigidE; rw [if_pos he]; simp only [Int.toNat_natCast]
    have hn0 := HO.n0
    have hn1 := HO.n1
    have heq := eqvD_of HO ht
    have htg := fun (p q : Nat) (hp : p < R) => tget_dist ht q hp
    have htl := tableP_length R t bs
    have hbd : ∀ p q, p < R → q < R → -1000000000000000 ≤ distN R bs p q := fun p q hp hq => by
      have := HO.row_bd hp hq
      unfold distN; rw [heightsP_of ht]
      omega
    have hrl : ∀ r ∈ tableP R t bs, r.length = 128 := by
      intro r hr
      simp only [tableP, List.mem_map, List.mem_range] at hr
      obtain ⟨q, hq, rfl⟩ := hr
      exact (HO.row hq).1
    obtain ⟨D, hD⟩ : ∃ D, distN R bs = D := ⟨_, rfl⟩
    rw [hD] at hE heq hbd
    have htg' : ∀ p q : Nat, p < R → tget (tableP R t bs) p q = D p q := fun p q hp => by rw [← hD]; exact htg p q hp
    have HE := hidE hE
    have HA := hidE hask
    have HEE := hidE he
    have HT := hidE ht
    have HTG := hidE htg'
    have HTL := hidE htl
    have HRL := hidE hrl
    have HBD := hidE hbd
    have HEQ := hidE heq
    clear hE hask he ht htg htl hrl hbd heq htg' hD
    have hmk4 := fun W => run_make_row' (P := Try.prog) 45 4 (.bool false) 1 Try.underlying45 Try.info4' rfl .i64 .i64 R (by omega) (by omega) W
    go_enter Try.func65, Try.ntmps65
    go_wp2_with fail
    refine HA.out.mono ?_
    rintro e w1 ⟨hp, hb1⟩
    unfold AskedPost at hp
    rw [if_pos HEE.out] at hp
    obtain ⟨bn, t', ht', rfl, hbn, hcell⟩ := hp
    have htt : t' = t := by have := HT.out; rw [ht'] at this; exact Option.some.inj this
    subst htt
    have B1 := hB0.trans (hb1.mono hB0.size)
    have htab := table_any w1 bn R a cap bs t' HO (H.out.below B1 (Nat.le_refl _)) hcell
    have x1 := blk_below hb1 (by simp) X0.out
    have HTAB := hidE htab
    have HB1 := hidE B1
    have X1 := hidE x1
    clear htab hcell ht' hb1 B1 hbn x1 HO
    go_wp2_with fail
    refine HTAB.out.mono ?_
    rintro e w2 ⟨v, rfl, hb2, hown⟩
    obtain ⟨R', hR'⟩ : ∃ R', R = R' + 1 := ⟨R - 1, by omega⟩
    have hown' := hown
    rw [hR'] at hown'
    obtain ⟨g, cp, rfl⟩ := ownsRow_succ hown'
    rw [← hR'] at hown
    obtain ⟨hra, hgl⟩ := rowsAt_of_owns hown HRL.out
    have x2 := blk_below hb2 (lt_of_block X1.out) X1.out
    have HRA := hidE hra
    have HB2 := hidE (HB1.out.trans (hb2.mono HB1.out.size))
    have X2 := hidE x2
    have l2 : w.heap.size < w2.heap.size := lt_of_block x2
    have e0 : w2.cell? ⟨w.heap.size, 0, none⟩ = some (.int .i64 (R : Int)) := by rw [cell_of_row _ _ _ _ _ _ x2]; rfl
    rw [← hR']
    clear hra hown hown' hb2 x2 hR'
    go_upto_region 6 with fail
    obtain ⟨W3, hW3⟩ : ∃ X, X = w2.alloc (.cells (madeCells #[.bool false] R) 4) := ⟨_, rfl⟩
    rw [← hW3]
    obtain ⟨bd, hbd⟩ : ∃ b, b = w2.heap.size := ⟨_, rfl⟩
    rw [← hbd]
    have st3 : Hid (RgSt w2 W3 bd (.slice none 0 0) (rigidS R D 0).1 (rigidS R D 0).2) := hidE (by
      rw [hW3, hbd]
      refine ⟨?_, ownsL_nil _ _, (Below.refl _ _).alloc (Nat.le_refl _) _⟩
      rw [heap_alloc_new, madeBools]; rfl)
    have h2d : w2.heap.size ≤ bd := by omega
    clear hW3 hbd hmk4 e0
    have e0 : W3.cell? ⟨w.heap.size, 0, none⟩ = some (.int .i64 (R : Int)) := by rw [cell_of_row _ _ _ _ _ _ (blk_below st3.out.bl l2 X2.out)]; rfl
    go_wp2_with fail
    clear e0
    go_loopw [8, 27] (fun v8 i wr => ∃ k : Nat, k ≤ R ∧ i = .int .i64 k ∧ Hid (RgSt w2 wr bd v8 (rigidS R D k).1 (rigidS R D k).2)) (fun _ i _ => R - (intOf i).toNat)
    case atStart => exact ⟨0, by omega, rfl, st3⟩
    case round =>
      obtain ⟨k, hk, rfl, hst⟩ := hrel
      by_cases hlt : k < R
      · have kR : (k : Int) < (R : Int) := by omega
        have hlen := rigidS_len R D k
        have hskip := fun hh => rigidS_skip (N := R) (D := D) (k := k) hh
        have htake := fun hh => rigidS_take (N := R) (D := D) (k := k) hh
        obtain ⟨⟨fl, ls⟩, hfl⟩ : ∃ s, rigidS R D k = s := ⟨_, rfl⟩
        rw [hfl] at hst hlen hskip htake
        simp only at hst hlen hskip htake
        have cd : wr.cell? ⟨bd, k, none⟩ = some (.bool (fl.getD k false)) := by rw [cell_of_row _ _ _ _ _ _ hst.out.d, boolA_get (by omega)]
        have HSK := hidE hskip
        have HTK := hidE htake
        have HLN := hidE hlen
        clear hfl hlen hskip htake
        obtain ⟨wO, rfl⟩ : ∃ x : World, x = wr := ⟨wr, rfl⟩
        cases hf : fl.getD k false with
        | true =>
          rw [hf] at cd
          have HN2 := hidE (HSK.out hf)
          clear hf
          go_wp2_with fail
          go_roundw
          case rel => exact ⟨k + 1, by omega, by go_num, hidE (by rw [HN2.out]; exact hst.out)⟩
          case measure => simp [intOf]; omega
        | false =>
          rw [hf] at cd
          have HN2 := hidE (HTK.out hf)
          have ldO : bd < wO.heap.size := lt_of_block hst.out.d
          have l2O : w2.heap.size ≤ wO.heap.size := hst.out.bl.size
          have STI := hidE hst.out.inner
          have HG := hst
          clear hf hst
          go_wp2_with fail
          clear cd
          go_loopw [10, 11] (fun v10 i wx => ∃ b : Nat, k ≤ b ∧ b ≤ R ∧ i = .int .i64 b ∧ Hid (RiSt w2 wO wx bd v10 (doneTo R D fl k b) (classTo D k b))) (fun _ i _ => R - (intOf i).toNat)
          case atStart => exact ⟨k, by omega, by omega, rfl, hidE (by rw [doneTo_start k HLN.out.1, classTo_start]; exact STI.out)⟩
          case round =>
            obtain ⟨b, hkb, hb, rfl, hst⟩ := hrel
            have e1 : wr.cell? ⟨w.heap.size, 0, none⟩ = some (.int .i64 (R : Int)) := by rw [cell_of_row _ _ _ _ _ _ (blk_below hst.out.bl l2 X2.out)]; rfl
            by_cases hlb : b < R
            · have hra2 := HRA.out.below hst.out.bl hgl
              have c1 := hra2 k b (by rw [HTL.out]; omega) (by omega)
              have c2 := hra2 b k (by rw [HTL.out]; omega) (by omega)
              have g0 := HTG.out k b (by omega)
              have g1 := HTG.out b k (by omega)
              unfold tget at g0 g1
              rw [g0] at c1
              rw [g1] at c2
              clear g0 g1 hra2
              have hb0 := HBD.out k b (by omega) hlb
              have hb9 := HBD.out b k hlb (by omega)
              obtain ⟨v1, hv1⟩ : ∃ v, D k b = v := ⟨_, rfl⟩
              obtain ⟨v2, hv2⟩ : ∃ v, D b k = v := ⟨_, rfl⟩
              rw [hv1] at c1 hb0
              rw [hv2] at c2 hb9
              have k128 : (k : Int) < 128 := by omega
              have k128' : k < 128 := by omega
              have b128 : (b : Int) < 128 := by omega
              have b128' : b < 128 := by omega
              have bR : (b : Int) < (R : Int) := by omega
              by_cases f1 : v1 < 1125899906842624
              · by_cases f2 : v2 < 1125899906842624
                · by_cases f3 : v1 + v2 = 0
                  · skip
                    have hs : sameD D k b = true := by
                      unfold sameD
                      rw [hv1, hv2]
                      simp [f1, f2, f3]
                    have wxw : IntKind.i64.wrap (v1 + v2) = v1 + v2 := IntWalk.i64_in _ (by omega)
                    have d1 : decide (v1 < 1125899906842624) = true := by simp; omega
                    have d2 : decide (v2 < 1125899906842624) = true := by simp; omega
                    have d3 : ((v1 + v2) == 0) = true := by simpa using f3
                    have HSM := hidE hs
                    clear hs hv1 hv2 
                    clear f3
                    go_wp2_with fail
                    go_quiet (fail)
                    obtain ⟨Y, hY⟩ : ∃ Y, Y = wr.drewN nq := ⟨_, rfl⟩
                    rw [← hY]
                    have HSY := hidE (hst.out.grow (below_drewN_of (B := wr.heap.size) hY (Below.refl _ _)).out)
                    clear hY c1 c2 d1 d2 d3 wxw e1
                    obtain ⟨v10', W1, HR1, HD1, HS1⟩ := HSY.out.push (by omega) (by omega) (by omega) b (by have := classTo_len D k b; omega)
                    have hdl := doneTo_len R D fl k b
                    have co : W1.cell? ⟨bd, b, none⟩ = some (.bool ((doneTo R D fl k b).getD b false)) := by rw [cell_of_row _ _ _ _ _ _ HD1.out, boolA_get (by omega)]
                    have fo : W1.frozen? ⟨bd, b, none⟩ = false := frozen_of_row _ _ _ _ _ HD1.out
                    obtain ⟨xo, hxo⟩ : ∃ x, (doneTo R D fl k b).getD b false = x := ⟨_, rfl⟩
                    rw [hxo] at co
                    clear hxo hdl
                    go_wp2_with (at_builtin; refine wpList_op_append rfl (s := .tmp 73) (x := .tmp 75) (t := 27) rfl rfl rfl HR1.out ?_)
                    go_roundw
                    case rel => exact ⟨b + 1, by omega, by omega, by go_num, hidE (by rw [doneTo_yes hkb hlb HSM.out, classTo_yes hkb HSM.out]; exact HS1.out)⟩
                    case measure => simp [intOf]; omega
                  · skip
                    have hs : sameD D k b = false := by
                      unfold sameD
                      rw [hv1, hv2]
                      simp [f1, f2, f3]
                    have wxw : IntKind.i64.wrap (v1 + v2) = v1 + v2 := IntWalk.i64_in _ (by omega)
                    have d1 : decide (v1 < 1125899906842624) = true := by simp; omega
                    have d2 : decide (v2 < 1125899906842624) = true := by simp; omega
                    have d3 : ((v1 + v2) == 0) = false := by simpa using f3
                    have HSM := hidE hs
                    clear hs hv1 hv2 f3
                    go_wp2_with fail
                    go_quiet (fail)
                    obtain ⟨Y, hY⟩ : ∃ Y, Y = wr.drewN nq := ⟨_, rfl⟩
                    rw [← hY]
                    have HSY := hidE (hst.out.grow (below_drewN_of (B := wr.heap.size) hY (Below.refl _ _)).out)
                    clear hY c1 c2 d1 d2 d3 wxw e1
                    go_wp2_with fail
                    go_roundw
                    case rel => exact ⟨b + 1, by omega, by omega, by go_num, hidE (by rw [doneTo_no HSM.out, classTo_no HSM.out]; exact HSY.out)⟩
                    case measure => simp [intOf]; omega
                · skip
                  have hs : sameD D k b = false := by
                    unfold sameD
                    rw [hv1, hv2]
                    simp [f1, f2]
                  have d1 : decide (v1 < 1125899906842624) = true := by simp; omega
                  have d2 : decide (v2 < 1125899906842624) = false := by simp; omega
                  have HSM := hidE hs
                  clear hs hv1 hv2 
                  go_wp2_with fail
                  go_quiet (fail)
                  obtain ⟨Y, hY⟩ : ∃ Y, Y = wr.drewN nq := ⟨_, rfl⟩
                  rw [← hY]
                  have HSY := hidE (hst.out.grow (below_drewN_of (B := wr.heap.size) hY (Below.refl _ _)).out)
                  clear hY c1 c2 d1 d2 e1
                  go_wp2_with fail
                  go_roundw
                  case rel => exact ⟨b + 1, by omega, by omega, by go_num, hidE (by rw [doneTo_no HSM.out, classTo_no HSM.out]; exact HSY.out)⟩
                  case measure => simp [intOf]; omega
              · skip
                have hs : sameD D k b = false := by
                  unfold sameD
                  rw [hv1, hv2]
                  simp [f1]
                have d1 : decide (v1 < 1125899906842624) = false := by simp; omega
                have HSM := hidE hs
                clear hs hv1 hv2 
                go_wp2_with fail
                go_quiet (fail)
                obtain ⟨Y, hY⟩ : ∃ Y, Y = wr.drewN nq := ⟨_, rfl⟩
                rw [← hY]
                have HSY := hidE (hst.out.grow (below_drewN_of (B := wr.heap.size) hY (Below.refl _ _)).out)
                clear hY c1 c2 d1  e1
                go_wp2_with fail
                go_roundw
                case rel => exact ⟨b + 1, by omega, by omega, by go_num, hidE (by rw [doneTo_no HSM.out, classTo_no HSM.out]; exact HSY.out)⟩
                case measure => simp [intOf]; omega
            · obtain rfl : b = R := by omega
              obtain ⟨o10, c10, e10, _, _⟩ := intsAt_of_owns hst.out.o
              obtain ⟨n10, hn10⟩ : ∃ n, (classTo D k b).length = n := ⟨_, rfl⟩
              subst e10
              obtain ⟨v8', W2, HR, HS⟩ := HG.out.close hst.out (by have := HLN.out.2; omega)
              rw [hn10] at HR ⊢
              clear hn10
              go_wp2_with (at_builtin; refine wpList_op_append rfl (s := .tmp 80) (x := .tmp 82) (t := 62) rfl rfl rfl HR.out ?_)
              go_roundw
              case rel => exact ⟨k + 1, by omega, by go_num, hidE (by rw [HN2.out]; exact HS.out)⟩
              case measure => simp [intOf]; omega
      · obtain rfl : k = R := by omega
        have hend := rigidS_end (N := k) (D := D) HEQ.out
        obtain ⟨o8, c8, e8, _⟩ := hst.out.o.lists
        subst e8
        have HBF := hidE (HB2.out.trans (hst.out.bl.mono HB2.out.size))
        have HOW := hidE (hst.out.o.base HB2.out.size)
        have HEN := hidE hend
        obtain ⟨n8, hn8⟩ : ∃ n, (rigidS k D k).2.length = n := ⟨_, rfl⟩
        rw [hn8] at HOW ⊢
        clear hend hn8 hst
        go_wp2_with fail
        refine bodyPost_ret (v := .tuple #[.slice o8 n8 c8, .int .i64 0]) (by simp [results, Try.results65, go_sem]) rfl ⟨?_, HBF.out⟩
        rw [HE.out]
        exact ⟨_, rfl, by rw [← HEN.out]; exact HOW.out⟩
  · have hE : rigidE N bs = ([], askedE N bs []) := by unfold rigidE; rw [if_neg he]
    obtain ⟨c, hc⟩ : ∃ c, askedE N bs [] = c := ⟨_, rfl⟩
    have hc1 : (c == 0) = false := by rw [← hc]; simpa using he
    have hc2 : (c != 0) = true := by rw [← hc]; simpa using he
    have HC := hidE hc
    have HD := hidE hE
    have HEE := hidE he
    have HA := hidE hask
    clear hE he hc hask
    go_enter Try.func65, Try.ntmps65
    go_wp2_with fail
    refine HA.out.mono ?_
    rintro e w1 ⟨hp, hb1⟩
    unfold AskedPost at hp
    rw [if_neg HEE.out, HC.out] at hp
    subst hp
    go_wp2_with fail
    refine bodyPost_ret (v := .tuple #[.slice none 0 0, .int .i64 c]) (by simp [results, Try.results65, go_sem]) rfl ⟨?_, hB0.trans (hb1.mono hB0.size)⟩
    rw [HD.out, HC.out]
    exact ⟨_, rfl, ownsL_nil _ _⟩

end Go.Proofs.Ytejbpoclfjkllaa
