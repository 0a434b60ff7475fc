/- Walks: extreme, Greatest, Least. -/
import Derived.Test.YtejbpoclfjkllaaA3b
import Derived.Test.YtejbpoclfjkllaaA4
import Derived.Test.YtejbpoclfjkllaaP2
import Derived.Test.YtejbpoclfjkllaaA5
import Derived.Deep.RegionHeld3
namespace Go.Proofs.Ytejbpoclfjkllaa
open Go Go.RowKit Go.Shelf


set_option maxRecDepth 100000 in
set_option maxHeartbeats 4000000 in
theorem extreme_high (w : World) (N : Int) (a : Option Addr) (cap : Nat) (bs : List Bd) (hN : i64ok N) (hl : bs.length ≤ 9223372036854775807) (h : BoundsAt w a bs) :
    Calls Try.prog 109 #[.agg #[.int .i64 N, .slice a bs.length cap], .string ⟨#[104, 105, 103, 104]⟩] w fun e w' => PathPost (greatestE N bs).1 (greatestE N bs).2 w.heap.size e w' ∧ Below w.heap.size w w' := by
  have H := hidE h
  have HN := hidE hN
  clear h hN
  have hB0 : Below w.heap.size w (w.alloc (.cells #[.int .i64 N, .slice a bs.length cap] 24)) := (Below.refl _ _).alloc (Nat.le_refl _) _
  have hx0 : (w.alloc (.cells #[.int .i64 N, .slice a bs.length cap] 24)).heap[w.heap.size]? = some (.cells #[.int .i64 N, .slice a bs.length cap] 24 (0,0)) := heap_alloc_new _ _
  have hask : Calls Try.prog 88 #[.agg #[.int .i64 N, .slice a bs.length cap], .slice none 0 0] (w.alloc (.cells #[.int .i64 N, .slice a bs.length cap] 24)) _ :=
    asked_any _ N a cap bs none 0 [] HN.out hl (by simp) (H.out.alloc _) (.inl rfl)
  have X0 := hidE hx0
  clear hx0
  by_cases he : askedE N bs [] = 0
  · obtain ⟨R, t, rfl, ht, HO⟩ := asked0 he
    have hE : greatestE R bs = if (List.range R).any (fun p => !nB (distN R bs 0 p)) = true then ([], 5) else (highV R bs, 0) := by
      unfold greatestE extremeE; rw [if_pos he]; simp only [Int.toNat_natCast]
    have hn0 := HO.n0
    have hn1 := HO.n1
    have htg := fun (p q : Nat) (hp : p < R) => tget_dist ht q hp
    have htl := tableP_length R t bs
    have hbd : ∀ p q, p < R → q < R → -1000000000000000 ≤ distN R bs p q := fun p q hp hq => by
      have := HO.row_bd hp hq
      unfold distN; rw [heightsP_of ht]
      omega
    have hrl : ∀ r ∈ tableP R t bs, r.length = 128 := by
      intro r hr
      simp only [tableP, List.mem_map, List.mem_range] at hr
      obtain ⟨q, hq, rfl⟩ := hr
      exact (HO.row hq).1
    have HE := hidE hE
    have HA := hidE hask
    have HEE := hidE he
    have HT := hidE ht
    have HTG := hidE htg
    have HTL := hidE htl
    have HRL := hidE hrl
    have HBD := hidE hbd
    clear hE hask he ht htg htl hrl hbd
    go_enter Try.func109, Try.ntmps109
    go_wp2_with fail
    refine HA.out.mono ?_
    rintro e w1 ⟨hp, hb1⟩
    unfold AskedPost at hp
    rw [if_pos HEE.out] at hp
    obtain ⟨bn, t', ht', rfl, hbn, hcell⟩ := hp
    have htt : t' = t := by have := HT.out; rw [ht'] at this; exact Option.some.inj this
    subst htt
    have B1 := hB0.trans (hb1.mono hB0.size)
    have htab := table_any w1 bn R a cap bs t' HO (H.out.below B1 (Nat.le_refl _)) hcell
    have x1 := blk_below hb1 (by simp) X0.out
    have HTAB := hidE htab
    have HB1 := hidE B1
    have X1 := hidE x1
    clear htab hcell ht' hb1 B1 hbn x1
    go_wp2_with fail
    refine HTAB.out.mono ?_
    rintro e w2 ⟨v, rfl, hb2, hown⟩
    obtain ⟨R', hR'⟩ : ∃ R', R = R' + 1 := ⟨R - 1, by omega⟩
    have hown' := hown
    rw [hR'] at hown'
    obtain ⟨g, cp, rfl⟩ := ownsRow_succ hown'
    rw [← hR'] at hown
    obtain ⟨hra, hgl⟩ := rowsAt_of_owns hown HRL.out
    have x2 := blk_below hb2 (lt_of_block X1.out) X1.out
    have HRA := hidE hra
    have HB2 := hidE (HB1.out.trans (hb2.mono HB1.out.size))
    have X2 := hidE x2
    have e0 : w2.cell? ⟨w.heap.size, 0, none⟩ = some (.int .i64 (R : Int)) := by rw [cell_of_row _ _ _ _ _ _ x2]; rfl
    rw [← hR']
    clear hra hown hown' hb2 x2 hR'
    go_wp2_with fail
    clear e0
    go_loopw [9, 25] (fun v9 i wr => ∃ k : Nat, k ≤ R ∧ i = .int .i64 k ∧ Hid (∀ p, p < k → nB (distN R bs 0 p) = true) ∧ Hid (wr.ownsRow w2.heap.size 3 1 v9 ((List.range k).map (fun p : Nat => nV (distN R bs 0 p))).length (intsV ((List.range k).map (fun p : Nat => nV (distN R bs 0 p))))) ∧ Hid (Below w2.heap.size w2 wr)) (fun _ i _ => R - (intOf i).toNat)
    case atStart => exact ⟨0, by omega, rfl, hidE (fun p hp => by omega), hidE (World.ownsRow_nil _ _ _ _), hidE (Below.refl _ _)⟩
    case round =>
      obtain ⟨k, hk, rfl, hall, hown, hb⟩ := hrel
      by_cases hlt : k < R
      · have hra2 := HRA.out.below hb.out hgl
        have c0 := hra2 0 k (by rw [HTL.out]; omega) (by omega)
        have c1 := hra2 k 0 (by rw [HTL.out]; omega) (by omega)
        have g0 := HTG.out 0 k (by omega)
        have g1 := HTG.out k 0 (by omega)
        unfold tget at g0 g1
        rw [g0, Nat.zero_mul, Nat.zero_add] at c0
        rw [g1, Nat.add_zero] at c1
        clear g0 g1
        have hb0 := HBD.out 0 k (by omega) hlt
        have hb9 := HBD.out k 0 hlt (by omega)
        obtain ⟨v1, hv1⟩ : ∃ v, distN R bs 0 k = v := ⟨_, rfl⟩
        obtain ⟨v2, hv2⟩ : ∃ v, distN R bs k 0 = v := ⟨_, rfl⟩
        rw [hv1] at c0 hb0
        rw [hv2] at c1 hb9
        have hgw : g < wr.heap.size := Nat.lt_of_lt_of_le hgl hb.out.size
        have k128 : (k : Int) < 128 := by omega
        have k128' : k < 128 := by omega
        have kR : (k : Int) < (R : Int) := by omega
        have R0 : (0 : Int) < (R : Int) := by omega
        have R0' : 0 < R := by omega
        have HV1 := hidE hv1
        have HV2 := hidE hv2
        have hsn : (List.range (k + 1)).map (fun p : Nat => nV (distN R bs 0 p)) = (List.range k).map (fun p : Nat => nV (distN R bs 0 p)) ++ [numV v1] := by
          rw [List.range_succ, List.map_append]
          simp only [List.map_cons, List.map_nil]
          rw [HV1.out]; rfl
        have HSN := hidE hsn
        obtain ⟨nb, hnb⟩ : ∃ b, numB v1 = b := ⟨_, rfl⟩
        have hnb2 : nB (distN R bs 0 k) = nb := by rw [HV1.out]; exact hnb
        have HNB := hidE hnb2
        obtain ⟨nv, hnv⟩ : ∃ v, numV v1 = v := ⟨_, rfl⟩
        rw [hnv] at HSN
        clear hv1 hv2 hsn hnb2 hra2
        obtain ⟨wq, rfl⟩ : ∃ y : World, y = wr := ⟨wr, rfl⟩
        have lh : (Instr.lookup 133 (.map (some wq.heap.size)) (.string ⟨#[104, 105, 103, 104]⟩) false).run Try.prog (wq.alloc endsObj).drew = .ok (.func (.func 152) #[] #[]) (wq.alloc endsObj).drew :=
          run_lookup_string (r := wq.heap.size) (i := 0) Try.underlying133 Try.underlying9 (heap_alloc_at wq endsObj _ rfl) (by rfl)
        go_wp2_with fail
        go_cut [11, 12] (fun s11 s12 wx => s11 = .int .i64 nv ∧ s12 = .bool nb ∧ Hid (Below wq.heap.size wq wx))
        case first =>
          have ba : Below wq.heap.size wq (wq.alloc endsObj).drew := ((Below.refl _ _).alloc (Nat.le_refl _) _).drew
          have d0 := (ba.cell (p := ⟨g, k, none⟩) hgw).trans c0
          have d1 := (ba.cell (p := ⟨g, k * 128, none⟩) hgw).trans c1
          go_region_held3 (fun V => V.cell? ⟨g, k, none⟩ = some (.int .i64 v1) ∧ V.cell? ⟨g, k * 128, none⟩ = some (.int .i64 v2))
            (first | (exact ⟨u0, u1⟩) | (exact ⟨d0, d1⟩) | (exact ⟨c0, c1⟩) | go_keep)
            (first
              | (go_at_call 135; refine (ends_any _).mono ?_; rintro e W2 ⟨rfl, rfl⟩)
              | (go_at_call 152; refine (high_any _ _ _).mono ?_; rintro e W3 ⟨rfl, h1⟩; (rw [hnb, hnv]); (have h2 : Below wq.heap.size wq W3 := ba.trans (h1.mono (by simp))); (have u0 := (h2.cell (p := ⟨g, k, none⟩) hgw).trans c0); (have u1 := (h2.cell (p := ⟨g, k * 128, none⟩) hgw).trans c1); (have HH := hidE h2); clear h1 h2))
          all_goals (go_wp2_with fail; go_meet)
          all_goals exact ⟨rfl, rfl, HH⟩
        case rest =>
          obtain ⟨rfl, rfl, hbx⟩ := hcut
          obtain ⟨wf, rfl⟩ : ∃ x : World, x = wc := ⟨wc, rfl⟩
          have hbf := hidE (hb.out.trans (hbx.out.mono hb.out.size))
          have hof := ownsRow_of_block hown.out (fun q hq => hbx.out.block q (owns_lt' hown.out hq))
          have HOF := hidE hof
          clear lh c0 c1 hof hnb hnv
          cases nb with
          | false =>
            go_wp2_with fail
            refine bodyPost_ret (v := .tuple #[.slice none 0 0, .int .i64 5]) (by simp [results, Try.results109, go_sem]) rfl ⟨?_, HB2.out.trans (hbf.out.mono HB2.out.size)⟩
            have hany : (List.range R).any (fun p => !nB (distN R bs 0 p)) = true := List.any_eq_true.2 ⟨k, List.mem_range.2 hlt, by rw [HNB.out]; rfl⟩
            rw [show greatestE R bs = ([], 5) by rw [HE.out, if_pos hany]]
            exact ⟨_, rfl, World.ownsRow_nil _ _ _ _⟩
          | true =>
            have ba : Below wf.heap.size wf (wf.alloc (.cells #[.int .i64 nv] 3)) := (Below.refl _ _).alloc (Nat.le_refl _) _
            obtain ⟨v', W', hr', ho', hb'⟩ := append_ints (wf.alloc (.cells #[.int .i64 nv] 3)) w2.heap.size u9 ((List.range k).map (fun p : Nat => nV (distN R bs 0 p))) (World.ownsRow.alloc HOF.out _) (some ⟨wf.heap.size, 0, none⟩) 1 [nv] (ints_one wf nv) (by simp; omega) (by simp) (Nat.le_trans hbf.out.size ba.size) 27
            have HR' := hidE hr'
            have HO' := hidE ho'
            have HB' := hidE (hbf.out.trans ((ba.mono hbf.out.size).trans hb'))
            clear hr' ho' hb' ba
            go_wp2_with (at_builtin; refine wpList_op_append rfl (s := .tmp 48) (x := .tmp 50) (t := 27) rfl rfl rfl HR'.out ?_)
            go_roundw
            case rel =>
              refine ⟨k + 1, by omega, by go_num, hidE (fun p hp => ?_), hidE (by rw [HSN.out]; exact HO'.out), HB'⟩
              by_cases e : p = k
              · subst e; exact HNB.out
              · exact hall.out p (by omega)
            case measure => simp [intOf]; omega
      · obtain rfl : k = R := by omega
        have hmap : (List.range k).map (fun p : Nat => nV (distN k bs 0 p)) = highV k bs := by
          unfold highV
          exact List.map_congr_left fun p hp => by rw [nV_near (by have q := hall.out p (List.mem_range.1 hp); unfold nB at q; unfold farI; exact of_decide_eq_true q)]
        have hany : (List.range k).any (fun p => !nB (distN k bs 0 p)) = false := by
          rw [List.any_eq_false]
          intro p hp
          rw [hall.out p (List.mem_range.1 hp)]; simp
        rw [hmap] at hown
        have HAN := hidE hany
        have HOW := hidE (ownsRow_base hown.out HB2.out.size)
        obtain ⟨o9, c9, e9, _, _⟩ := intsAt_of_owns hown.out
        subst e9
        have HBF := hidE (HB2.out.trans (hb.out.mono HB2.out.size))
        clear hmap hany hown hall hb
        go_wp2_with fail
        refine bodyPost_ret (v := .tuple #[.slice o9 (highV k bs).length c9, .int .i64 0]) (by simp [results, Try.results109, go_sem]) rfl ⟨?_, HBF.out⟩
        rw [show greatestE k bs = (highV k bs, 0) by rw [HE.out, if_neg (by rw [HAN.out]; simp)]]
        exact ⟨_, rfl, HOW.out⟩
  · have hE : greatestE N bs = ([], askedE N bs []) := by unfold greatestE extremeE; rw [if_neg he]
    obtain ⟨c, hc⟩ : ∃ c, askedE N bs [] = c := ⟨_, rfl⟩
    have hc1 : (c == 0) = false := by rw [← hc]; simpa using he
    have hc2 : (c != 0) = true := by rw [← hc]; simpa using he
    have HC := hidE hc
    have HD := hidE hE
    have HEE := hidE he
    have HA := hidE hask
    clear hE he hc hask
    go_enter Try.func109, Try.ntmps109
    go_wp2_with fail
    refine HA.out.mono ?_
    rintro e w1 ⟨hp, hb1⟩
    unfold AskedPost at hp
    rw [if_neg HEE.out, HC.out] at hp
    subst hp
    go_wp2_with fail
    refine bodyPost_ret (v := .tuple #[.slice none 0 0, .int .i64 c]) (by simp [results, Try.results109, go_sem]) rfl ⟨?_, hB0.trans (hb1.mono hB0.size)⟩
    rw [HD.out, HC.out]
    exact ⟨_, rfl, World.ownsRow_nil _ _ _ _⟩

set_option maxRecDepth 100000 in
set_option maxHeartbeats 4000000 in
theorem extreme_low (w : World) (N : Int) (a : Option Addr) (cap : Nat) (bs : List Bd) (hN : i64ok N) (hl : bs.length ≤ 9223372036854775807) (h : BoundsAt w a bs) :
    Calls Try.prog 109 #[.agg #[.int .i64 N, .slice a bs.length cap], .string ⟨#[108, 111, 119]⟩] w fun e w' => PathPost (leastE N bs).1 (leastE N bs).2 w.heap.size e w' ∧ Below w.heap.size w w' := by
  have H := hidE h
  have HN := hidE hN
  clear h hN
  have hB0 : Below w.heap.size w (w.alloc (.cells #[.int .i64 N, .slice a bs.length cap] 24)) := (Below.refl _ _).alloc (Nat.le_refl _) _
  have hx0 : (w.alloc (.cells #[.int .i64 N, .slice a bs.length cap] 24)).heap[w.heap.size]? = some (.cells #[.int .i64 N, .slice a bs.length cap] 24 (0,0)) := heap_alloc_new _ _
  have hask : Calls Try.prog 88 #[.agg #[.int .i64 N, .slice a bs.length cap], .slice none 0 0] (w.alloc (.cells #[.int .i64 N, .slice a bs.length cap] 24)) _ :=
    asked_any _ N a cap bs none 0 [] HN.out hl (by simp) (H.out.alloc _) (.inl rfl)
  have X0 := hidE hx0
  clear hx0
  by_cases he : askedE N bs [] = 0
  · obtain ⟨R, t, rfl, ht, HO⟩ := asked0 he
    have hE : leastE R bs = if (List.range R).any (fun p => !nB (distN R bs p 0)) = true then ([], 5) else (lowV R bs, 0) := by
      unfold leastE extremeE; rw [if_pos he]; simp only [Int.toNat_natCast]
    have hn0 := HO.n0
    have hn1 := HO.n1
    have htg := fun (p q : Nat) (hp : p < R) => tget_dist ht q hp
    have htl := tableP_length R t bs
    have hbd : ∀ p q, p < R → q < R → -1000000000000000 ≤ distN R bs p q := fun p q hp hq => by
      have := HO.row_bd hp hq
      unfold distN; rw [heightsP_of ht]
      omega
    have hrl : ∀ r ∈ tableP R t bs, r.length = 128 := by
      intro r hr
      simp only [tableP, List.mem_map, List.mem_range] at hr
      obtain ⟨q, hq, rfl⟩ := hr
      exact (HO.row hq).1
    have HE := hidE hE
    have HA := hidE hask
    have HEE := hidE he
    have HT := hidE ht
    have HTG := hidE htg
    have HTL := hidE htl
    have HRL := hidE hrl
    have HBD := hidE hbd
    clear hE hask he ht htg htl hrl hbd
    go_enter Try.func109, Try.ntmps109
    go_wp2_with fail
    refine HA.out.mono ?_
    rintro e w1 ⟨hp, hb1⟩
    unfold AskedPost at hp
    rw [if_pos HEE.out] at hp
    obtain ⟨bn, t', ht', rfl, hbn, hcell⟩ := hp
    have htt : t' = t := by have := HT.out; rw [ht'] at this; exact Option.some.inj this
    subst htt
    have B1 := hB0.trans (hb1.mono hB0.size)
    have htab := table_any w1 bn R a cap bs t' HO (H.out.below B1 (Nat.le_refl _)) hcell
    have x1 := blk_below hb1 (by simp) X0.out
    have HTAB := hidE htab
    have HB1 := hidE B1
    have X1 := hidE x1
    clear htab hcell ht' hb1 B1 hbn x1
    go_wp2_with fail
    refine HTAB.out.mono ?_
    rintro e w2 ⟨v, rfl, hb2, hown⟩
    obtain ⟨R', hR'⟩ : ∃ R', R = R' + 1 := ⟨R - 1, by omega⟩
    have hown' := hown
    rw [hR'] at hown'
    obtain ⟨g, cp, rfl⟩ := ownsRow_succ hown'
    rw [← hR'] at hown
    obtain ⟨hra, hgl⟩ := rowsAt_of_owns hown HRL.out
    have x2 := blk_below hb2 (lt_of_block X1.out) X1.out
    have HRA := hidE hra
    have HB2 := hidE (HB1.out.trans (hb2.mono HB1.out.size))
    have X2 := hidE x2
    have e0 : w2.cell? ⟨w.heap.size, 0, none⟩ = some (.int .i64 (R : Int)) := by rw [cell_of_row _ _ _ _ _ _ x2]; rfl
    rw [← hR']
    clear hra hown hown' hb2 x2 hR'
    go_wp2_with fail
    clear e0
    go_loopw [9, 25] (fun v9 i wr => ∃ k : Nat, k ≤ R ∧ i = .int .i64 k ∧ Hid (∀ p, p < k → nB (distN R bs p 0) = true) ∧ Hid (wr.ownsRow w2.heap.size 3 1 v9 ((List.range k).map (fun p : Nat => -nV (distN R bs p 0))).length (intsV ((List.range k).map (fun p : Nat => -nV (distN R bs p 0))))) ∧ Hid (Below w2.heap.size w2 wr)) (fun _ i _ => R - (intOf i).toNat)
    case atStart => exact ⟨0, by omega, rfl, hidE (fun p hp => by omega), hidE (World.ownsRow_nil _ _ _ _), hidE (Below.refl _ _)⟩
    case round =>
      obtain ⟨k, hk, rfl, hall, hown, hb⟩ := hrel
      by_cases hlt : k < R
      · have hra2 := HRA.out.below hb.out hgl
        have c0 := hra2 0 k (by rw [HTL.out]; omega) (by omega)
        have c1 := hra2 k 0 (by rw [HTL.out]; omega) (by omega)
        have g0 := HTG.out 0 k (by omega)
        have g1 := HTG.out k 0 (by omega)
        unfold tget at g0 g1
        rw [g0, Nat.zero_mul, Nat.zero_add] at c0
        rw [g1, Nat.add_zero] at c1
        clear g0 g1
        have hb0 := HBD.out 0 k (by omega) hlt
        have hb9 := HBD.out k 0 hlt (by omega)
        obtain ⟨v1, hv1⟩ : ∃ v, distN R bs 0 k = v := ⟨_, rfl⟩
        obtain ⟨v2, hv2⟩ : ∃ v, distN R bs k 0 = v := ⟨_, rfl⟩
        rw [hv1] at c0 hb0
        rw [hv2] at c1 hb9
        have hgw : g < wr.heap.size := Nat.lt_of_lt_of_le hgl hb.out.size
        have k128 : (k : Int) < 128 := by omega
        have k128' : k < 128 := by omega
        have kR : (k : Int) < (R : Int) := by omega
        have R0 : (0 : Int) < (R : Int) := by omega
        have R0' : 0 < R := by omega
        have HV1 := hidE hv1
        have HV2 := hidE hv2
        have hsn : (List.range (k + 1)).map (fun p : Nat => -nV (distN R bs p 0)) = (List.range k).map (fun p : Nat => -nV (distN R bs p 0)) ++ [-numV v2] := by
          rw [List.range_succ, List.map_append]
          simp only [List.map_cons, List.map_nil]
          rw [HV2.out]; rfl
        have HSN := hidE hsn
        obtain ⟨nb, hnb⟩ : ∃ b, numB v2 = b := ⟨_, rfl⟩
        have hnb2 : nB (distN R bs k 0) = nb := by rw [HV2.out]; exact hnb
        have HNB := hidE hnb2
        obtain ⟨nv, hnv⟩ : ∃ v, -numV v2 = v := ⟨_, rfl⟩
        rw [hnv] at HSN
        clear hv1 hv2 hsn hnb2 hra2
        obtain ⟨wq, rfl⟩ : ∃ y : World, y = wr := ⟨wr, rfl⟩
        have lh : (Instr.lookup 133 (.map (some wq.heap.size)) (.string ⟨#[108, 111, 119]⟩) false).run Try.prog (wq.alloc endsObj).drew = .ok (.func (.func 153) #[] #[]) (wq.alloc endsObj).drew :=
          run_lookup_string (r := wq.heap.size) (i := 1) Try.underlying133 Try.underlying9 (heap_alloc_at wq endsObj _ rfl) (by rfl)
        go_wp2_with fail
        go_cut [11, 12] (fun s11 s12 wx => s11 = .int .i64 nv ∧ s12 = .bool nb ∧ Hid (Below wq.heap.size wq wx))
        case first =>
          have ba : Below wq.heap.size wq (wq.alloc endsObj).drew := ((Below.refl _ _).alloc (Nat.le_refl _) _).drew
          have d0 := (ba.cell (p := ⟨g, k, none⟩) hgw).trans c0
          have d1 := (ba.cell (p := ⟨g, k * 128, none⟩) hgw).trans c1
          go_region_held3 (fun V => V.cell? ⟨g, k, none⟩ = some (.int .i64 v1) ∧ V.cell? ⟨g, k * 128, none⟩ = some (.int .i64 v2))
            (first | (exact ⟨u0, u1⟩) | (exact ⟨d0, d1⟩) | (exact ⟨c0, c1⟩) | go_keep)
            (first
              | (go_at_call 135; refine (ends_any _).mono ?_; rintro e W2 ⟨rfl, rfl⟩)
              | (go_at_call 153; refine (low_any _ _ _ (by omega)).mono ?_; rintro e W3 ⟨rfl, h1⟩; (rw [hnb, hnv]); (have h2 : Below wq.heap.size wq W3 := ba.trans (h1.mono (by simp))); (have u0 := (h2.cell (p := ⟨g, k, none⟩) hgw).trans c0); (have u1 := (h2.cell (p := ⟨g, k * 128, none⟩) hgw).trans c1); (have HH := hidE h2); clear h1 h2))
          all_goals (go_wp2_with fail; go_meet)
          all_goals exact ⟨rfl, rfl, HH⟩
        case rest =>
          obtain ⟨rfl, rfl, hbx⟩ := hcut
          obtain ⟨wf, rfl⟩ : ∃ x : World, x = wc := ⟨wc, rfl⟩
          have hbf := hidE (hb.out.trans (hbx.out.mono hb.out.size))
          have hof := ownsRow_of_block hown.out (fun q hq => hbx.out.block q (owns_lt' hown.out hq))
          have HOF := hidE hof
          clear lh c0 c1 hof hnb hnv
          cases nb with
          | false =>
            go_wp2_with fail
            refine bodyPost_ret (v := .tuple #[.slice none 0 0, .int .i64 5]) (by simp [results, Try.results109, go_sem]) rfl ⟨?_, HB2.out.trans (hbf.out.mono HB2.out.size)⟩
            have hany : (List.range R).any (fun p => !nB (distN R bs p 0)) = true := List.any_eq_true.2 ⟨k, List.mem_range.2 hlt, by rw [HNB.out]; rfl⟩
            rw [show leastE R bs = ([], 5) by rw [HE.out, if_pos hany]]
            exact ⟨_, rfl, World.ownsRow_nil _ _ _ _⟩
          | true =>
            have ba : Below wf.heap.size wf (wf.alloc (.cells #[.int .i64 nv] 3)) := (Below.refl _ _).alloc (Nat.le_refl _) _
            obtain ⟨v', W', hr', ho', hb'⟩ := append_ints (wf.alloc (.cells #[.int .i64 nv] 3)) w2.heap.size u9 ((List.range k).map (fun p : Nat => -nV (distN R bs p 0))) (World.ownsRow.alloc HOF.out _) (some ⟨wf.heap.size, 0, none⟩) 1 [nv] (ints_one wf nv) (by simp; omega) (by simp) (Nat.le_trans hbf.out.size ba.size) 27
            have HR' := hidE hr'
            have HO' := hidE ho'
            have HB' := hidE (hbf.out.trans ((ba.mono hbf.out.size).trans hb'))
            clear hr' ho' hb' ba
            go_wp2_with (at_builtin; refine wpList_op_append rfl (s := .tmp 48) (x := .tmp 50) (t := 27) rfl rfl rfl HR'.out ?_)
            go_roundw
            case rel =>
              refine ⟨k + 1, by omega, by go_num, hidE (fun p hp => ?_), hidE (by rw [HSN.out]; exact HO'.out), HB'⟩
              by_cases e : p = k
              · subst e; exact HNB.out
              · exact hall.out p (by omega)
            case measure => simp [intOf]; omega
      · obtain rfl : k = R := by omega
        have hmap : (List.range k).map (fun p : Nat => -nV (distN k bs p 0)) = lowV k bs := by
          unfold lowV
          exact List.map_congr_left fun p hp => by rw [nV_near (by have q := hall.out p (List.mem_range.1 hp); unfold nB at q; unfold farI; exact of_decide_eq_true q)]
        have hany : (List.range k).any (fun p => !nB (distN k bs p 0)) = false := by
          rw [List.any_eq_false]
          intro p hp
          rw [hall.out p (List.mem_range.1 hp)]; simp
        rw [hmap] at hown
        have HAN := hidE hany
        have HOW := hidE (ownsRow_base hown.out HB2.out.size)
        obtain ⟨o9, c9, e9, _, _⟩ := intsAt_of_owns hown.out
        subst e9
        have HBF := hidE (HB2.out.trans (hb.out.mono HB2.out.size))
        clear hmap hany hown hall hb
        go_wp2_with fail
        refine bodyPost_ret (v := .tuple #[.slice o9 (lowV k bs).length c9, .int .i64 0]) (by simp [results, Try.results109, go_sem]) rfl ⟨?_, HBF.out⟩
        rw [show leastE k bs = (lowV k bs, 0) by rw [HE.out, if_neg (by rw [HAN.out]; simp)]]
        exact ⟨_, rfl, HOW.out⟩
  · have hE : leastE N bs = ([], askedE N bs []) := by unfold leastE extremeE; rw [if_neg he]
    obtain ⟨c, hc⟩ : ∃ c, askedE N bs [] = c := ⟨_, rfl⟩
    have hc1 : (c == 0) = false := by rw [← hc]; simpa using he
    have hc2 : (c != 0) = true := by rw [← hc]; simpa using he
    have HC := hidE hc
    have HD := hidE hE
    have HEE := hidE he
    have HA := hidE hask
    clear hE he hc hask
    go_enter Try.func109, Try.ntmps109
    go_wp2_with fail
    refine HA.out.mono ?_
    rintro e w1 ⟨hp, hb1⟩
    unfold AskedPost at hp
    rw [if_neg HEE.out, HC.out] at hp
    subst hp
    go_wp2_with fail
    refine bodyPost_ret (v := .tuple #[.slice none 0 0, .int .i64 c]) (by simp [results, Try.results109, go_sem]) rfl ⟨?_, hB0.trans (hb1.mono hB0.size)⟩
    rw [HD.out, HC.out]
    exact ⟨_, rfl, World.ownsRow_nil _ _ _ _⟩

set_option maxRecDepth 100000 in
theorem greatest_any (w : World) (N : Int) (a : Option Addr) (cap : Nat) (bs : List Bd) (hN : i64ok N) (hl : bs.length ≤ 9223372036854775807) (h : BoundsAt w a bs) :
    Calls Try.prog 54 #[.agg #[.int .i64 N, .slice a bs.length cap]] w fun e w' => PathPost (greatestE N bs).1 (greatestE N bs).2 w.heap.size e w' ∧ Below w.heap.size w w' := by
  have b0 : Below w.heap.size w (w.alloc (.cells #[.int .i64 N, .slice a bs.length cap] 24)) := (Below.refl _ _).alloc (Nat.le_refl _) _
  have hex := extreme_high (w.alloc (.cells #[.int .i64 N, .slice a bs.length cap] 24)) N a cap bs hN hl (h.alloc _)
  obtain ⟨⟨L, c⟩, hLc⟩ : ∃ t, greatestE N bs = t := ⟨_, rfl⟩
  rw [hLc] at hex ⊢
  have HEX := hidE hex
  have B0 := hidE b0
  clear hex b0 hLc
  go_enter Try.func54, Try.ntmps54
  go_wp2_with fail
  refine HEX.out.mono ?_
  rintro e w1 ⟨⟨v, rfl, ho⟩, hb1⟩
  have HO := hidE ho
  have HB := hidE hb1
  clear ho hb1
  go_wp2_with fail
  refine bodyPost_ret (v := .tuple #[v, .int .i64 c]) (by simp [results, Try.results54, go_sem]) rfl ⟨⟨v, rfl, ownsRow_base HO.out B0.out.size⟩, B0.out.trans (HB.out.mono B0.out.size)⟩

set_option maxRecDepth 100000 in
theorem least_any (w : World) (N : Int) (a : Option Addr) (cap : Nat) (bs : List Bd) (hN : i64ok N) (hl : bs.length ≤ 9223372036854775807) (h : BoundsAt w a bs) :
    Calls Try.prog 56 #[.agg #[.int .i64 N, .slice a bs.length cap]] w fun e w' => PathPost (leastE N bs).1 (leastE N bs).2 w.heap.size e w' ∧ Below w.heap.size w w' := by
  have b0 : Below w.heap.size w (w.alloc (.cells #[.int .i64 N, .slice a bs.length cap] 24)) := (Below.refl _ _).alloc (Nat.le_refl _) _
  have hex := extreme_low (w.alloc (.cells #[.int .i64 N, .slice a bs.length cap] 24)) N a cap bs hN hl (h.alloc _)
  obtain ⟨⟨L, c⟩, hLc⟩ : ∃ t, leastE N bs = t := ⟨_, rfl⟩
  rw [hLc] at hex ⊢
  have HEX := hidE hex
  have B0 := hidE b0
  clear hex b0 hLc
  go_enter Try.func56, Try.ntmps56
  go_wp2_with fail
  refine HEX.out.mono ?_
  rintro e w1 ⟨⟨v, rfl, ho⟩, hb1⟩
  have HO := hidE ho
  have HB := hidE hb1
  clear ho hb1
  go_wp2_with fail
  refine bodyPost_ret (v := .tuple #[v, .int .i64 c]) (by simp [results, Try.results56, go_sem]) rfl ⟨⟨v, rfl, ownsRow_base HO.out B0.out.size⟩, B0.out.trans (HB.out.mono B0.out.size)⟩

end Go.Proofs.Ytejbpoclfjkllaa
