/- Walks: Distances, of the program and of the reference. Conditions: at most 40 points where the system is checked (the reference). -/
import Derived.Test.YtejbpoclfjkllaaCYa
import Derived.Test.YtejbpoclfjkllaaCYd
import Derived.Test.YtejbpoclfjkllaaA3b
namespace Go.Proofs.Ytejbpoclfjkllaa
open Go Go.RowKit Go.Shelf

/-- Distances: the numbers, whether there are paths, the error. -/
def distancesP (N : Int) (bs : List Bd) (x : Int) : List Int × List Bool × Int :=
  if askedE N bs [x] = 0 then ((List.range N.toNat).map (fun b => nV (distN N.toNat bs x.toNat b)), (List.range N.toNat).map (fun b => nB (distN N.toNat bs x.toNat b)), 0) else ([], [], askedE N bs [x])
/-- Two lists and an error are handed back. -/
def DistPost (d : List Int × List Bool × Int) (e : Ending) (w' : World) : Prop :=
  ∃ a1 c1 a2 c2, e = .returned (.tuple #[.slice a1 d.1.length c1, .slice a2 d.2.1.length c2, .int .i64 d.2.2]) ∧ IntsAt w' a1 d.1 ∧ BoolsAt w' a2 d.2.1

theorem ints_of_row {w : World} {b : Nat} {l : List Int} (h : w.heap[b]? = some (.cells (rowA l) 3 (0,0))) : IntsAt w (some ⟨b, 0, none⟩) l :=
  .inr ⟨b, 0, rfl, lt_of_block h, fun i hi => by rw [cell_of_row _ _ _ _ _ _ h, Nat.zero_add, rowA_get hi, getD_get l 0 hi]⟩
theorem bools_of_row {w : World} {b : Nat} {l : List Bool} (h : w.heap[b]? = some (.cells (boolA l) 4 (0,0))) : BoolsAt w (some ⟨b, 0, none⟩) l :=
  .inr ⟨b, 0, rfl, lt_of_block h, fun i hi => by rw [cell_of_row _ _ _ _ _ _ h, Nat.zero_add, boolA_get hi]; simp [List.getD_eq_getElem?_getD, hi]⟩

set_option maxRecDepth 100000 in
set_option maxHeartbeats 4000000 in
theorem distances0_any (w : World) (N : Int) (a : Option Addr) (cap : Nat) (bs : List Bd) (x : Int) (hN : i64ok N) (hl : bs.length ≤ 9223372036854775807) (h : BoundsAt w a bs) :
    Calls Try.prog 41 #[.agg #[.int .i64 N, .slice a bs.length cap], .int .i64 x] w fun e w' => DistPost (distancesP N bs x) e w' ∧ Below w.heap.size w w' := by
  have H := hidE h
  have HN := hidE hN
  clear h hN
  have i94 : Hid ((Try.prog.info? 94).map (·.size) = some 128) := hidE (by kernel_rfl)
  have hB0 : Below w.heap.size w ((w.alloc (.cells #[.int .i64 N, .slice a bs.length cap] 24)).alloc (.cells #[.int .i64 x] 3)) := ((Below.refl _ _).alloc (Nat.le_refl _) _).alloc (by simp) _
  have hx0 : ((w.alloc (.cells #[.int .i64 N, .slice a bs.length cap] 24)).alloc (.cells #[.int .i64 x] 3)).heap[w.heap.size]? = some (.cells #[.int .i64 N, .slice a bs.length cap] 24 (0,0)) :=
    (Below.heap_alloc _ _ _ (by simp)).trans (heap_alloc_new _ _)
  have hints := ints_one (w.alloc (.cells #[.int .i64 N, .slice a bs.length cap] 24)) x
  simp only [World.size_alloc] at hints
  have hask : Calls Try.prog 88 #[.agg #[.int .i64 N, .slice a bs.length cap], .slice (some ⟨w.heap.size + 1, 0, none⟩) 1 1] ((w.alloc (.cells #[.int .i64 N, .slice a bs.length cap] 24)).alloc (.cells #[.int .i64 x] 3)) _ :=
    asked_any _ N a cap bs (some ⟨w.heap.size + 1, 0, none⟩) 1 [x] HN.out hl (by simp) ((H.out.alloc (.cells #[.int .i64 N, .slice a bs.length cap] 24)).alloc (.cells #[.int .i64 x] 3)) hints
  have X0 := hidE hx0
  clear hints hx0
  by_cases he : askedE N bs [x] = 0
  · obtain ⟨R, x', t, rfl, rfl, hx, ht, HO⟩ := asked1 he
    obtain ⟨r, hr⟩ : ∃ r, distP R t bs x' = r := ⟨_, rfl⟩
    have hd : distancesP R bs x' = ((List.range R).map (fun b => nV (r.getD b 0)), (List.range R).map (fun b => nB (r.getD b 0)), 0) := by
      unfold distancesP; rw [if_pos he]; simp only [Int.toNat_natCast]
      unfold distN; rw [heightsP_of ht, hr]
    have hrl : r.length = 128 := by rw [← hr]; exact (HO.row hx).1
    have hn0 := HO.n0
    have hn1 := HO.n1
    have hmk3 := fun W => run_make_row' (P := Try.prog) 27 3 (.int .i64 0) 8 Try.underlying27 Try.info3' rfl .i64 .i64 R (by omega) (by omega) W
    have hmk4 := fun W => run_make_row' (P := Try.prog) 45 4 (.bool false) 1 Try.underlying45 Try.info4' rfl .i64 .i64 R (by omega) (by omega) W
    have HD := hidE hd
    have HE := hidE he
    have HT := hidE ht
    have HR := hidE hr
    have HRL := hidE hrl
    have HA := hidE hask
    clear hd he ht hr hrl hask
    go_enter Try.func41, Try.ntmps41
    go_wp2_with fail
    refine HA.out.mono ?_
    rintro e w1 ⟨hp, hb1⟩
    unfold AskedPost at hp
    rw [if_pos HE.out] at hp
    obtain ⟨bn, t', ht', rfl, hbn, hcell⟩ := hp
    have htt : t' = t := by have := HT.out; rw [ht'] at this; exact Option.some.inj this
    subst htt
    have B1 := hB0.trans (hb1.mono hB0.size)
    have hdist := dist_net w1 bn R a cap bs t' x' HO hx (H.out.below B1 (Nat.le_refl _)) hcell
    rw [HR.out] at hdist
    have x1 := blk_below hb1 (by simp; omega) X0.out
    have HDI := hidE hdist
    have HB1 := hidE B1
    have X1 := hidE x1
    clear hdist hcell ht' hb1 B1 hbn x1
    go_wp2_with fail
    refine HDI.out.mono ?_
    rintro e w2 ⟨rfl, hb2⟩
    have x2 := blk_below hb2 (lt_of_block X1.out) X1.out
    have HB2 := hidE (HB1.out.trans (hb2.mono HB1.out.size))
    have hst : (w2.alloc (.cells Try.zeroCells94 94)).heap[w2.heap.size]? = some (.cells (rowA (rep128 0)) 94 (0,0)) := by rw [zc94]; exact heap_alloc_new _ _
    have HST := hidE hst
    have hsr : (rowA r).size = 128 := by rw [rowA_size]; exact HRL.out
    have hsr2 : (rowA (rep128 0)).size = 128 := by rw [rowA_size, rep128_length]
    have X2 := hidE x2
    have HSR := hidE hsr
    have HSR2 := hidE hsr2
    clear hb2 x2 hst hsr hsr2
    go_wp2_with (first
      | (refine wpList_store_row rfl 94 _ _ rfl _ _ rfl rfl 94 _ HST.out (by rw [HSR.out]; exact i94.out) (by rw [HSR.out, HSR2.out]) (intsV_one _) ?_; rw [World.setRow_alloc_new]))
    obtain ⟨W3, hW3⟩ : ∃ W3, W3 = w2.alloc (.cells (rowA r) 94) := ⟨_, rfl⟩
    rw [← hW3]
    have hb3 : Below w2.heap.size w2 W3 := by rw [hW3]; exact (Below.refl _ _).alloc (Nat.le_refl _) _
    have hr3 : W3.heap[w2.heap.size]? = some (.cells (rowA r) 94 (0,0)) := by rw [hW3]; exact heap_alloc_new _ _
    have X3 := hidE (blk_below hb3 (lt_of_block X2.out) X2.out)
    have HB3 := hidE (HB2.out.trans (hb3.mono HB2.out.size))
    have HR3 := hidE hr3
    have e0 : W3.cell? ⟨w.heap.size, 0, none⟩ = some (.int .i64 (R : Int)) := by rw [cell_of_row _ _ _ _ _ _ X3.out]; rfl
    have l0 : w.heap.size < W3.heap.size := lt_of_block X3.out
    have l2 : w2.heap.size < W3.heap.size := lt_of_block hr3
    clear hW3 hb3 hr3
    go_wp2_with fail
    simp only [Act.put]
    go_cut [10, 11] (fun s4 s5 wx => ∃ bo bg : Nat, s4 = .slice (some ⟨bo, 0, none⟩) R R ∧ s5 = .slice (some ⟨bg, 0, none⟩) R R ∧ bo ≠ bg ∧ W3.heap.size ≤ bo ∧ W3.heap.size ≤ bg ∧ Hid (wx.heap[bo]? = some (.cells (rowA (List.replicate R 0)) 3 (0,0))) ∧ Hid (wx.heap[bg]? = some (.cells (boolA (List.replicate R false)) 4 (0,0))) ∧ Hid (Below W3.heap.size W3 wx))
    case first =>
      go_region_held3 (fun w' => w'.cell? ⟨w.heap.size, 0, none⟩ = some (.int .i64 (R : Int))) (go_keep) (fail)
      all_goals (go_wp2_with fail; go_meet)
      all_goals first
        | exact ⟨W3.heap.size, W3.heap.size + 1, rfl, rfl, by omega, by omega, by omega, hidE (by rw [← madeInts]; exact (Below.heap_alloc _ _ _ (by simp)).trans (heap_alloc_new _ _)), hidE (by rw [← madeBools]; exact heap_alloc_at _ _ _ (by simp)), hidE (((Below.refl _ _).alloc (Nat.le_refl _) _).alloc (by simp) _).drew⟩
        | exact ⟨W3.heap.size + 1, W3.heap.size, rfl, rfl, by omega, by omega, by omega, hidE (by rw [← madeInts]; exact heap_alloc_at _ _ _ (by simp)), hidE (by rw [← madeBools]; exact (Below.heap_alloc _ _ _ (by simp)).trans (heap_alloc_new _ _)), hidE (((Below.refl _ _).alloc (Nat.le_refl _) _).alloc (by simp) _).drew⟩
    case rest =>
      obtain ⟨bo, bg, rfl, rfl, hne, hbo, hbg, ho, hg, hbl⟩ := hcut
      obtain ⟨w4, rfl⟩ : ∃ x : World, x = wc := ⟨wc, rfl⟩
      have e4 : w4.cell? ⟨w.heap.size, 0, none⟩ = some (.int .i64 (R : Int)) := (hbl.out.cell (by exact l0)).trans e0
      have HB4 := hidE (HB3.out.trans (hbl.out.mono HB3.out.size))
      have R4 := hidE (blk_below hbl.out l2 HR3.out)
      have lo := lt_of_block ho.out
      have lg := lt_of_block hg.out
      have lr := lt_of_block R4.out
      have HBS := hidE HB3.out.size
      clear hmk3 hmk4 e0
      go_wp2_with fail
      go_loopw [34] (fun i wr => ∃ k : Nat, k ≤ R ∧ i = .int .i64 k ∧ Hid (wr.heap[bo]? = some (.cells (rowA ((List.range k).map (fun b => nV (r.getD b 0)) ++ List.replicate (R - k) 0)) 3 (0,0))) ∧ Hid (wr.heap[bg]? = some (.cells (boolA ((List.range k).map (fun b => nB (r.getD b 0)) ++ List.replicate (R - k) false)) 4 (0,0))) ∧ Hid (∀ b, b ≠ bo → b ≠ bg → b < w4.heap.size → wr.heap[b]? = w4.heap[b]?) ∧ Hid (Below w.heap.size w wr))
        (fun i _ => R - (intOf i).toNat)
      case atStart => exact ⟨0, Nat.zero_le _, rfl, by simpa using ho, by simpa using hg, hidE (fun _ _ _ _ => rfl), HB4⟩
      case round =>
        obtain ⟨k, hk, rfl, h1, h2, h3, h4⟩ := hrel
        by_cases hlt : k < R
        · have k128 : (k : Int) < 128 := by omega
          have k128' : k < 128 := by omega
          have cT : wr.cell? ⟨w2.heap.size, k, none⟩ = some (.int .i64 (r.getD k 0)) := by
            rw [World.cell?_of_block (w := w4) (h3.out w2.heap.size (by omega) (by omega) lr), cell_of_row _ _ _ _ _ _ R4.out, rowA_get (by rw [HRL.out]; omega)]
          obtain ⟨xo, hxo⟩ : ∃ xo, ((List.range k).map (fun b => nV (r.getD b 0)) ++ List.replicate (R - k) 0).getD k 0 = xo := ⟨_, rfl⟩
          obtain ⟨xg, hxg⟩ : ∃ xg, ((List.range k).map (fun b => nB (r.getD b 0)) ++ List.replicate (R - k) false).getD k false = xg := ⟨_, rfl⟩
          have co : wr.cell? ⟨bo, k, none⟩ = some (.int .i64 xo) := by rw [cell_of_row _ _ _ _ _ _ h1.out, rowA_get (by simp; omega), hxo]
          have fo : wr.frozen? ⟨bo, k, none⟩ = false := frozen_of_row _ _ _ _ _ h1.out
          have cg : wr.cell? ⟨bg, k, none⟩ = some (.bool xg) := by rw [cell_of_row _ _ _ _ _ _ h2.out, boolA_get (by simp; omega), hxg]
          have fg : wr.frozen? ⟨bg, k, none⟩ = false := frozen_of_row _ _ _ _ _ h2.out
          have hne' : ¬ bg = bo := fun e => hne e.symm
          obtain ⟨vT, hvT⟩ : ∃ vT, r.getD k 0 = vT := ⟨_, rfl⟩
          rw [hvT] at cT
          have HVT := hidE hvT
          clear hvT hxo hxg
          go_wp2_with (go_at_call 96; refine (number_num _ _).mono ?_; rintro e w' ⟨rfl, rfl⟩)
          go_roundw
          case rel =>
            refine ⟨k + 1, by omega, by go_num, hidE ?_, hidE ?_, hidE ?_, hidE ((h4.out.setCell (by have := HBS.out; simp; omega) _).setCell (by have := HBS.out; simp; omega) _)⟩
            · refine (heap_setCell_other _ _ _ _ hne).trans ((heap_setCell_same _ _ _ _ _ _ h1.out).trans ?_)
              rw [show numV vT = (fun b => nV (r.getD b 0)) k from by show numV vT = nV (r.getD k 0); rw [HVT.out]; rfl, rowA_set, fill_map _ _ hlt]
            · refine (heap_setCell_same _ _ _ _ _ _ ((heap_setCell_other _ _ _ _ hne').trans h2.out)).trans ?_
              rw [show numB vT = (fun b => nB (r.getD b 0)) k from by show numB vT = nB (r.getD k 0); rw [HVT.out]; rfl, boolA_set, fill_map _ _ hlt]
            · intro b b1 b2 b3
              exact (heap_setCell_other _ _ _ _ b2).trans ((heap_setCell_other _ _ _ _ b1).trans (h3.out b b1 b2 b3))
          case measure => simp [intOf]; omega
        · obtain rfl : k = R := by omega
          have g1 : Hid (wr.heap[bo]? = some (.cells (rowA ((List.range k).map (fun b => nV (r.getD b 0)))) 3 (0,0))) := by simpa using h1
          have g2 : Hid (wr.heap[bg]? = some (.cells (boolA ((List.range k).map (fun b => nB (r.getD b 0)))) 4 (0,0))) := by simpa using h2
          clear h1 h2 e4
          go_wp2_with fail
          refine bodyPost_ret (v := .tuple #[.slice (some ⟨bo, 0, none⟩) k k, .slice (some ⟨bg, 0, none⟩) k k, .int .i64 0]) (by simp [results, Try.results41, go_sem]) rfl ⟨?_, h4.out⟩
          rw [HD.out]
          exact ⟨_, _, _, _, by simp; exact ⟨rfl, rfl⟩, ints_of_row g1.out, bools_of_row g2.out⟩
  · have hd : distancesP N bs x = ([], [], askedE N bs [x]) := by unfold distancesP; rw [if_neg he]
    have HD := hidE hd
    have HE := hidE he
    obtain ⟨c, hc⟩ : ∃ c, askedE N bs [x] = c := ⟨_, rfl⟩
    have hc1 : (c == 0) = false := by rw [← hc]; simpa using he
    have hc2 : (c != 0) = true := by rw [← hc]; simpa using he
    have HC := hidE hc
    have HA := hidE hask
    clear hd he hc hask
    go_enter Try.func41, Try.ntmps41
    go_wp2_with fail
    refine HA.out.mono ?_
    rintro e w1 ⟨hp, hb1⟩
    unfold AskedPost at hp
    rw [if_neg HE.out, HC.out] at hp
    subst hp
    go_wp2_with fail
    refine bodyPost_ret (v := .tuple #[.slice none 0 0, .slice none 0 0, .int .i64 c]) (by simp [results, Try.results41, go_sem]) rfl ⟨?_, hB0.trans (hb1.mono hB0.size)⟩
    rw [HD.out, HC.out]
    exact ⟨none, 0, none, 0, rfl, .inl rfl, .inl rfl⟩

theorem boolsV_oneV (l : List Bool) : ∀ u ∈ boolsV l, u.oneCell' = true := by intro u hu; simp [boolsV] at hu; rcases hu with ⟨_, rfl⟩ | ⟨_, rfl⟩ <;> rfl
theorem boolsV_cat (a b : List Bool) : boolsV (a ++ b) = boolsV a ++ boolsV b := by simp [boolsV]
theorem append_bool (w : World) (base : Nat) (v : Value) (xs : List Bool) (hown : w.ownsRow base 4 1 v xs.length (boolsV xs)) (b : Nat) (q : Bool) (h : w.heap[b]? = some (.cells #[.bool q] 4 (0,0))) (hx : xs.length ≤ 100000) (hb : base ≤ w.heap.size) (ty : TypeId) :
    ∃ v' w', (Builtin.append_ #[45, 45] ty #[v, .slice (some ⟨b, 0, none⟩) 1 1]).run Try.prog w = .ok v' w' ∧ w'.ownsRow base 4 1 v' (xs ++ [q]).length (boolsV (xs ++ [q])) ∧ Below base w w' ∧ (∀ q, q < w.heap.size → v.ownBlock ≠ some q → w'.heap[q]? = w.heap[q]?) := by
  obtain ⟨i0, hi, hz0, hz1, hz2⟩ := info_parts Try.info4'
  have hnews : ∀ j u, (boolsV [q])[j]? = some u → w.cell? ((⟨b, 0, none⟩ : Addr).add j) = some u := by
    intro j u hj
    rw [show ((⟨b, 0, none⟩ : Addr).add j) = ⟨b, 0 + j, none⟩ from by unfold Addr.add; split <;> simp_all]
    rw [cell_of_row _ _ _ _ _ _ h, Nat.zero_add]
    simpa [boolsV] using hj
  obtain ⟨v', w', hrun, h2, h3, _, h5⟩ := run_append_own_at (P := Try.prog) w base 45 ty 4 i0 _ 1 1 Try.underlying45 hi hz0 hz1 hz2 rfl (by decide) v _ _ hown ⟨b, 0, none⟩ 1 1 (boolsV [q]) (by simp [boolsV]) hnews (boolsV_oneV _) (by unfold maxLen; omega) (by omega) hb
  refine ⟨v', w', hrun, by rw [List.length_append, boolsV_cat]; exact h2, (Below.refl base w).grown h3 hb (fun q e => ?_), fun q hq hne => h3.block q hq (fun e => hne e.symm)⟩
  rcases hown.2 with ⟨e1, _⟩ | ⟨g1, cp', cu, e1, hge, hh, _⟩
  · rw [e1] at e; simp [Value.ownBlock] at e
  · rw [e1] at e
    simp only [Value.ownBlock, Option.some.injEq] at e
    omega
theorem append_int (w : World) (base : Nat) (v : Value) (xs : List Int) (hown : w.ownsRow base 3 1 v xs.length (intsV xs)) (b : Nat) (q : Int) (h : w.heap[b]? = some (.cells #[.int .i64 q] 3 (0,0))) (hx : xs.length ≤ 100000) (hb : base ≤ w.heap.size) (ty : TypeId) :
    ∃ v' w', (Builtin.append_ #[27, 27] ty #[v, .slice (some ⟨b, 0, none⟩) 1 1]).run Try.prog w = .ok v' w' ∧ w'.ownsRow base 3 1 v' (xs ++ [q]).length (intsV (xs ++ [q])) ∧ Below base w w' ∧ (∀ q, q < w.heap.size → v.ownBlock ≠ some q → w'.heap[q]? = w.heap[q]?) := by
  obtain ⟨i0, hi, hz0, hz1, hz2⟩ := info_parts info3
  have hnews : ∀ j u, (intsV [q])[j]? = some u → w.cell? ((⟨b, 0, none⟩ : Addr).add j) = some u := by
    intro j u hj
    rw [show ((⟨b, 0, none⟩ : Addr).add j) = ⟨b, 0 + j, none⟩ from by unfold Addr.add; split <;> simp_all]
    rw [cell_of_row _ _ _ _ _ _ h, Nat.zero_add]
    simpa [intsV] using hj
  obtain ⟨v', w', hrun, h2, h3, _, h5⟩ := run_append_own_at (P := Try.prog) w base 27 ty 3 i0 _ 1 8 Try.underlying27 hi hz0 hz1 hz2 rfl (by decide) v _ _ hown ⟨b, 0, none⟩ 1 1 (intsV [q]) (by simp [intsV]) hnews (intsV_oneV _) (by unfold maxLen; omega) (by omega) hb
  refine ⟨v', w', hrun, by rw [List.length_append, intsV_cat]; exact h2, (Below.refl base w).grown h3 hb (fun q e => ?_), fun q hq hne => h3.block q hq (fun e => hne e.symm)⟩
  rcases hown.2 with ⟨e1, _⟩ | ⟨g1, cp', cu, e1, hge, hh, _⟩
  · rw [e1] at e; simp [Value.ownBlock] at e
  · rw [e1] at e
    simp only [Value.ownBlock, Option.some.injEq] at e
    omega
theorem boolsAt_of_owns {W : World} {base : Nat} {v : Value} {l : List Bool} (h : W.ownsRow base 4 1 v l.length (boolsV l)) : ∃ o cap, v = .slice o l.length cap ∧ BoolsAt W o l := by
  rcases h.2 with ⟨e, h0⟩ | ⟨gb, cp, cur, e, _, hh, hn, _, hsz, htk⟩
  · exact ⟨none, 0, by rw [e, h0], .inl (List.length_eq_zero_iff.1 h0)⟩
  · refine ⟨_, _, e, .inr ⟨gb, 0, rfl, lt_of_block hh, fun i hi => ?_⟩⟩
    rw [cell_of_row _ _ _ _ _ _ hh, Nat.zero_add]
    have h2 : (cur.toList.take (l.length * 1))[i]? = (boolsV l)[i]? := by rw [htk]
    rw [List.getElem?_take_of_lt (by omega)] at h2
    rw [← Array.getElem?_toList, h2]
    simp [boolsV, hi]
/-- A run that appends keeps what another value owns. -/
theorem owns_apart {W W' : World} {base base' : Nat} {e e' : TypeId} {size size' : Nat} {v v' : Value} {n n' : Nat} {xs xs' : List Value} (h : W.ownsRow base e size v n xs) (k : ∀ q, q < W.heap.size → v'.ownBlock ≠ some q → W'.heap[q]? = W.heap[q]?) (h' : W.ownsRow base' e' size' v' n' xs') (hne : e ≠ e') : W'.ownsRow base e size v n xs :=
  ownsRow_of_block h (fun q hq => k q (owns_lt' h hq) (fun hq' => by
    rcases h.2 with ⟨e1, _⟩ | ⟨g1, cp1, cu1, e1, _, hh1, _⟩
    · rw [e1] at hq; simp [Value.ownBlock] at hq
    · rcases h'.2 with ⟨e2, _⟩ | ⟨g2, cp2, cu2, e2, _, hh2, _⟩
      · rw [e2] at hq'; simp [Value.ownBlock] at hq'
      · rw [e1] at hq
        rw [e2] at hq'
        simp only [Value.ownBlock, Option.some.injEq] at hq hq'
        subst hq
        subst hq'
        rw [hh1] at hh2
        cases hh2
        exact hne rfl))

end Go.Proofs.Ytejbpoclfjkllaa
