/- Walks: the reference's Greatest, Least. Conditions: at most 40 points where the system is checked. -/
import Derived.Test.YtejbpoclfjkllaaCYk
import Derived.Test.YtejbpoclfjkllaaCYf
namespace Go.Proofs.Ytejbpoclfjkllaa
open Go Go.RowKit Go.Shelf

set_option maxRecDepth 100000 in
set_option maxHeartbeats 4000000 in
theorem refgreatest_any (w : World) (N : Int) (a : Option Addr) (cap : Nat) (bs : List Bd) (hN : i64ok N) (hl : bs.length ≤ 9223372036854775807) (h : BoundsAt w a bs) (hsm : checkP N bs = 0 → N ≤ 40) :
    Calls Try.prog 55 #[.agg #[.int .i64 N, .slice a bs.length cap]] w fun e w' => PathPost (greatestE N bs).1 (greatestE N bs).2 w.heap.size e w' ∧ Below w.heap.size w w' := by
  have H := hidE h
  have HN := hidE hN
  clear h hN
  have hB0 : Below w.heap.size w (w.alloc (.cells #[.int .i64 N, .slice a bs.length cap] 24)) := (Below.refl _ _).alloc (Nat.le_refl _) _
  have hx0 : (w.alloc (.cells #[.int .i64 N, .slice a bs.length cap] 24)).heap[w.heap.size]? = some (.cells #[.int .i64 N, .slice a bs.length cap] 24 (0,0)) := heap_alloc_new _ _
  have hask : Calls Try.prog 90 #[.agg #[.int .i64 N, .slice a bs.length cap], .slice none 0 0] (w.alloc (.cells #[.int .i64 N, .slice a bs.length cap] 24)) _ :=
    pointed_any _ N a cap bs none 0 [] HN.out hl (by simp) (H.out.alloc _) (.inl rfl)
  have X0 := hidE hx0
  clear hx0
  by_cases he : askedE N bs [] = 0
  · have h40 := hsm (askedE_zero he).1
    obtain ⟨R, t, rfl, ht, HO⟩ := asked0 he
    have h40' : R ≤ 40 := by omega
    have hn0 := HO.n0
    rw [he] at hask
    have hdim := matrix_dim HO
    have hE : greatestE R bs = if (List.range R).any (fun p => !nB (distN R bs 0 p)) = true then ([], 5) else (highV R bs, 0) := by
      unfold greatestE extremeE; rw [if_pos he]; simp only [Int.toNat_natCast]
    have hmap : (List.range R).map (fun p : Nat => nV (distN R bs 0 p)) = highV R bs ∨ (List.range R).any (fun p => !nB (distN R bs 0 p)) = true := by
      by_cases ha : (List.range R).any (fun p => !nB (distN R bs 0 p)) = true
      · exact .inr ha
      · refine .inl ?_
        unfold highV
        refine List.map_congr_left fun p hp => ?_
        have q := extreme_all ha (List.mem_range.1 hp)
        rw [show nV (distN R bs 0 p) = distN R bs 0 p from nV_near q]
    have hfr : ∀ p, p < R → frV (mget (matrixP R bs) 0 p) = nV (distN R bs 0 p) ∧ (mget (matrixP R bs) 0 p).ok = nB (distN R bs 0 p) := fun p hp => frV_dist HO ht (by omega) hp
    have hsz : ∀ p, p < R → -2000000000000000000 ≤ (mget (matrixP R bs) 0 p).s ∧ (mget (matrixP R bs) 0 p).s ≤ 2000000000000000000 := fun p hp => matrix_size HO h40' (by omega) hp
    have hmat := fun W hb => matrix_net W R a cap bs t HO h40' hb
    obtain ⟨d, hdd⟩ : ∃ d, matrixP R bs = d := ⟨_, rfl⟩
    obtain ⟨D, hD⟩ : ∃ D : Nat → Int, (fun p => distN R bs 0 p) = D := ⟨_, rfl⟩
    have hD' : ∀ p, distN R bs 0 p = D p := fun p => congrFun hD p
    simp only [hD'] at hE hmap hfr
    rw [hdd] at hfr hdim hmat hsz
    have HE := hidE hE
    have HMP := hidE hmap
    have HM := hidE hmat
    have HA := hidE hask
    have HDIM := hidE hdim
    have HF := hidE hfr
    have HSZ := hidE hsz
    have HN0 := hidE hn0
    clear hE hmap hmat hask hdim hfr hsz hdd he ht HO hD hD' hsm
    go_enter Try.func55, Try.ntmps55
    go_wp2_with fail
    refine HA.out.mono ?_
    rintro e w1 ⟨rfl, hb1⟩
    have x1 := blk_below hb1 (by simp) X0.out
    have e0 : w1.cell? ⟨w.heap.size, 0, none⟩ = some (.int .i64 (R : Int)) := by rw [cell_of_row _ _ _ _ _ _ x1]; rfl
    have e1 : w1.cell? ⟨w.heap.size, 1, none⟩ = some (.slice a bs.length cap) := by rw [cell_of_row _ _ _ _ _ _ x1]; rfl
    have B1 := hidE (hB0.trans (hb1.mono hB0.size))
    have X1 := hidE x1
    have l1 : w.heap.size < w1.heap.size := lt_of_block x1
    clear x1 hb1
    go_wp2_with fail
    refine (HM.out _ (H.out.below B1.out (Nat.le_refl _))).mono ?_
    rintro e w2 ⟨rfl, hm, hb2⟩
    have HMAT := hidE hm
    have X2 := hidE (blk_below hb2 l1 X1.out)
    have B2 := hidE (B1.out.trans (hb2.mono B1.out.size))
    clear e0 e1 hb2 hm
    go_wp2_with fail
    go_loopw [6, 7] (fun s6 i wr => ∃ k : Nat, k ≤ R ∧ i = .int .i64 k ∧ Hid (∀ p, p < k → nB (D p) = true) ∧ Hid (wr.ownsRow w2.heap.size 3 1 s6 ((List.range k).map (fun p : Nat => nV (D p))).length (intsV ((List.range k).map (fun p : Nat => nV (D p))))) ∧ Hid (Below w2.heap.size w2 wr)) (fun _ i _ => R - (intOf i).toNat)
    case atStart => exact ⟨0, by omega, rfl, hidE (fun p hp => by omega), hidE (World.ownsRow_nil _ _ _ _), hidE (Below.refl _ _)⟩
    case round =>
      obtain ⟨k, hk, rfl, hall, hown, hb⟩ := hrel
      have e0 : wr.cell? ⟨w.heap.size, 0, none⟩ = some (.int .i64 (R : Int)) := by rw [cell_of_row _ _ _ _ _ _ (blk_below hb.out (lt_of_block X2.out) X2.out)]; rfl
      by_cases hlt : k < R
      · have kR : (k : Int) < (R : Int) := by omega
        have R0 : (0 : Int) < (R : Int) := by omega
        have R0' : 0 < R := by omega
        have hmr := HMAT.out.below hb.out
        have c0 := hmr.slot (i := 0) (by omega)
        obtain ⟨c1, c2, _⟩ := hmr.cells HDIM.out (i := 0) (j := k) (by omega) (by omega)
        have hv := HF.out k hlt
        have hs := HSZ.out k hlt
        simp only [Nat.add_zero] at c0 c1 c2
        obtain ⟨⟨s, o⟩, hso⟩ : ∃ f, mget d 0 k = f := ⟨_, rfl⟩
        rw [hso] at c1 c2 hv hs
        simp only at c1 c2 hs
        have HV := hidE hv
        clear hso hmr hv
        cases o with
        | false =>
          go_wp2_with fail
          refine bodyPost_ret (v := .tuple #[.slice none 0 0, .int .i64 5]) (by simp [results, Try.results55, go_sem]) rfl ⟨?_, B2.out.trans (hb.out.mono B2.out.size)⟩
          have hany : (List.range R).any (fun p => !nB (D p)) = true := List.any_eq_true.2 ⟨k, List.mem_range.2 hlt, by rw [← HV.out.2]; rfl⟩
          rw [show greatestE R bs = ([], 5) by rw [HE.out, if_pos hany]]
          exact ⟨_, rfl, World.ownsRow_nil _ _ _ _⟩
        | true =>
          have b1 : Below wr.heap.size wr (wr.alloc (.cells #[.int .i64 (s)] 3)) := (Below.refl _ _).alloc (Nat.le_refl _) _
          obtain ⟨v', W1, r1, p1, q1, _⟩ := append_int (wr.alloc (.cells #[.int .i64 (s)] 3)) w2.heap.size u6 ((List.range k).map (fun p : Nat => nV (D p))) (hown.out.alloc _) wr.heap.size (s) (heap_alloc_new _ _) (by simp; omega) (Nat.le_trans hb.out.size b1.size) 27
          have hsn : (List.range (k + 1)).map (fun p : Nat => nV (D p)) = (List.range k).map (fun p : Nat => nV (D p)) ++ [s] := by
            rw [List.range_succ, List.map_append]
            simp only [List.map_cons, List.map_nil]
            rw [← HV.out.1]; rfl
          have HSN := hidE hsn
          have HR1 := hidE r1
          have HP1 := hidE p1
          have HQ1 := hidE (hb.out.trans ((b1.mono hb.out.size).trans q1))
          clear hsn r1 p1 q1 b1
          go_wp2_with (at_builtin; refine wpList_op_append rfl (s := .tmp 29) (x := .tmp 37) (t := 27) rfl rfl rfl HR1.out ?_)
          go_roundw
          case rel =>
            refine ⟨k + 1, by omega, by go_num, hidE (fun p hp => ?_), hidE (by rw [HSN.out]; exact HP1.out), HQ1⟩
            by_cases e : p = k
            · subst e; exact HV.out.2.symm
            · exact hall.out p (by omega)
          case measure => simp [intOf]; omega
      · obtain rfl : k = R := by omega
        have hany : (List.range k).any (fun p => !nB (D p)) = false := by
          rw [List.any_eq_false]
          intro p hp
          rw [hall.out p (List.mem_range.1 hp)]; simp
        have hmp : (List.range k).map (fun p : Nat => nV (D p)) = highV k bs := (HMP.out).resolve_right (by rw [hany]; simp)
        rw [hmp] at hown
        have HAN := hidE hany
        have HOW := hidE (ownsRow_base hown.out B2.out.size)
        obtain ⟨o9, c9, e9, _, _⟩ := intsAt_of_owns hown.out
        subst e9
        have HBF := hidE (B2.out.trans (hb.out.mono B2.out.size))
        clear hmp hany hown hall hb
        go_wp2_with fail
        refine bodyPost_ret (v := .tuple #[.slice o9 (highV k bs).length c9, .int .i64 0]) (by simp [results, Try.results55, go_sem]) rfl ⟨?_, HBF.out⟩
        rw [show greatestE k bs = (highV k bs, 0) by rw [HE.out, if_neg (by rw [HAN.out]; simp)]]
        exact ⟨_, rfl, HOW.out⟩
  · have hE : greatestE N bs = ([], askedE N bs []) := by unfold greatestE extremeE; rw [if_neg he]
    obtain ⟨c, hc⟩ : ∃ c, askedE N bs [] = c := ⟨_, rfl⟩
    rw [hc] at hE hask he
    have hc2 : (c != 0) = true := by simpa using he
    have HE := hidE hE
    have HA := hidE hask
    clear hE he hc hask
    go_enter Try.func55, Try.ntmps55
    go_wp2_with fail
    refine HA.out.mono ?_
    rintro e w1 ⟨rfl, hb1⟩
    go_wp2_with fail
    refine bodyPost_ret (v := .tuple #[.slice none 0 0, .int .i64 c]) (by simp [results, Try.results55, go_sem]) rfl ⟨?_, hB0.trans (hb1.mono hB0.size)⟩
    rw [HE.out]
    exact ⟨_, rfl, World.ownsRow_nil _ _ _ _⟩

set_option maxRecDepth 100000 in
set_option maxHeartbeats 4000000 in
theorem refleast_any (w : World) (N : Int) (a : Option Addr) (cap : Nat) (bs : List Bd) (hN : i64ok N) (hl : bs.length ≤ 9223372036854775807) (h : BoundsAt w a bs) (hsm : checkP N bs = 0 → N ≤ 40) :
    Calls Try.prog 57 #[.agg #[.int .i64 N, .slice a bs.length cap]] w fun e w' => PathPost (leastE N bs).1 (leastE N bs).2 w.heap.size e w' ∧ Below w.heap.size w w' := by
  have H := hidE h
  have HN := hidE hN
  clear h hN
  have hB0 : Below w.heap.size w (w.alloc (.cells #[.int .i64 N, .slice a bs.length cap] 24)) := (Below.refl _ _).alloc (Nat.le_refl _) _
  have hx0 : (w.alloc (.cells #[.int .i64 N, .slice a bs.length cap] 24)).heap[w.heap.size]? = some (.cells #[.int .i64 N, .slice a bs.length cap] 24 (0,0)) := heap_alloc_new _ _
  have hask : Calls Try.prog 90 #[.agg #[.int .i64 N, .slice a bs.length cap], .slice none 0 0] (w.alloc (.cells #[.int .i64 N, .slice a bs.length cap] 24)) _ :=
    pointed_any _ N a cap bs none 0 [] HN.out hl (by simp) (H.out.alloc _) (.inl rfl)
  have X0 := hidE hx0
  clear hx0
  by_cases he : askedE N bs [] = 0
  · have h40 := hsm (askedE_zero he).1
    obtain ⟨R, t, rfl, ht, HO⟩ := asked0 he
    have h40' : R ≤ 40 := by omega
    have hn0 := HO.n0
    rw [he] at hask
    have hdim := matrix_dim HO
    have hE : leastE R bs = if (List.range R).any (fun p => !nB (distN R bs p 0)) = true then ([], 5) else (lowV R bs, 0) := by
      unfold leastE extremeE; rw [if_pos he]; simp only [Int.toNat_natCast]
    have hmap : (List.range R).map (fun p : Nat => -nV (distN R bs p 0)) = lowV R bs ∨ (List.range R).any (fun p => !nB (distN R bs p 0)) = true := by
      by_cases ha : (List.range R).any (fun p => !nB (distN R bs p 0)) = true
      · exact .inr ha
      · refine .inl ?_
        unfold lowV
        refine List.map_congr_left fun p hp => ?_
        have q := extreme_all ha (List.mem_range.1 hp)
        rw [show nV (distN R bs p 0) = distN R bs p 0 from nV_near q]
    have hfr : ∀ p, p < R → frV (mget (matrixP R bs) p 0) = nV (distN R bs p 0) ∧ (mget (matrixP R bs) p 0).ok = nB (distN R bs p 0) := fun p hp => frV_dist HO ht hp (by omega)
    have hsz : ∀ p, p < R → -2000000000000000000 ≤ (mget (matrixP R bs) p 0).s ∧ (mget (matrixP R bs) p 0).s ≤ 2000000000000000000 := fun p hp => matrix_size HO h40' hp (by omega)
    have hmat := fun W hb => matrix_net W R a cap bs t HO h40' hb
    obtain ⟨d, hdd⟩ : ∃ d, matrixP R bs = d := ⟨_, rfl⟩
    obtain ⟨D, hD⟩ : ∃ D : Nat → Int, (fun p => distN R bs p 0) = D := ⟨_, rfl⟩
    have hD' : ∀ p, distN R bs p 0 = D p := fun p => congrFun hD p
    simp only [hD'] at hE hmap hfr
    rw [hdd] at hfr hdim hmat hsz
    have HE := hidE hE
    have HMP := hidE hmap
    have HM := hidE hmat
    have HA := hidE hask
    have HDIM := hidE hdim
    have HF := hidE hfr
    have HSZ := hidE hsz
    have HN0 := hidE hn0
    clear hE hmap hmat hask hdim hfr hsz hdd he ht HO hD hD' hsm
    go_enter Try.func57, Try.ntmps57
    go_wp2_with fail
    refine HA.out.mono ?_
    rintro e w1 ⟨rfl, hb1⟩
    have x1 := blk_below hb1 (by simp) X0.out
    have e0 : w1.cell? ⟨w.heap.size, 0, none⟩ = some (.int .i64 (R : Int)) := by rw [cell_of_row _ _ _ _ _ _ x1]; rfl
    have e1 : w1.cell? ⟨w.heap.size, 1, none⟩ = some (.slice a bs.length cap) := by rw [cell_of_row _ _ _ _ _ _ x1]; rfl
    have B1 := hidE (hB0.trans (hb1.mono hB0.size))
    have X1 := hidE x1
    have l1 : w.heap.size < w1.heap.size := lt_of_block x1
    clear x1 hb1
    go_wp2_with fail
    refine (HM.out _ (H.out.below B1.out (Nat.le_refl _))).mono ?_
    rintro e w2 ⟨rfl, hm, hb2⟩
    have HMAT := hidE hm
    have X2 := hidE (blk_below hb2 l1 X1.out)
    have B2 := hidE (B1.out.trans (hb2.mono B1.out.size))
    clear e0 e1 hb2 hm
    go_wp2_with fail
    go_loopw [6, 7] (fun s6 i wr => ∃ k : Nat, k ≤ R ∧ i = .int .i64 k ∧ Hid (∀ p, p < k → nB (D p) = true) ∧ Hid (wr.ownsRow w2.heap.size 3 1 s6 ((List.range k).map (fun p : Nat => -nV (D p))).length (intsV ((List.range k).map (fun p : Nat => -nV (D p))))) ∧ Hid (Below w2.heap.size w2 wr)) (fun _ i _ => R - (intOf i).toNat)
    case atStart => exact ⟨0, by omega, rfl, hidE (fun p hp => by omega), hidE (World.ownsRow_nil _ _ _ _), hidE (Below.refl _ _)⟩
    case round =>
      obtain ⟨k, hk, rfl, hall, hown, hb⟩ := hrel
      have e0 : wr.cell? ⟨w.heap.size, 0, none⟩ = some (.int .i64 (R : Int)) := by rw [cell_of_row _ _ _ _ _ _ (blk_below hb.out (lt_of_block X2.out) X2.out)]; rfl
      by_cases hlt : k < R
      · have kR : (k : Int) < (R : Int) := by omega
        have R0 : (0 : Int) < (R : Int) := by omega
        have R0' : 0 < R := by omega
        have hmr := HMAT.out.below hb.out
        have c0 := hmr.slot (i := k) (by omega)
        obtain ⟨c1, c2, _⟩ := hmr.cells HDIM.out (i := k) (j := 0) (by omega) (by omega)
        have hv := HF.out k hlt
        have hs := HSZ.out k hlt
        simp only [Nat.zero_mul, Nat.zero_add] at c0 c1 c2
        obtain ⟨⟨s, o⟩, hso⟩ : ∃ f, mget d k 0 = f := ⟨_, rfl⟩
        rw [hso] at c1 c2 hv hs
        simp only at c1 c2 hs
        have HV := hidE hv
        clear hso hmr hv
        cases o with
        | false =>
          go_wp2_with fail
          refine bodyPost_ret (v := .tuple #[.slice none 0 0, .int .i64 5]) (by simp [results, Try.results57, go_sem]) rfl ⟨?_, B2.out.trans (hb.out.mono B2.out.size)⟩
          have hany : (List.range R).any (fun p => !nB (D p)) = true := List.any_eq_true.2 ⟨k, List.mem_range.2 hlt, by rw [← HV.out.2]; rfl⟩
          rw [show leastE R bs = ([], 5) by rw [HE.out, if_pos hany]]
          exact ⟨_, rfl, World.ownsRow_nil _ _ _ _⟩
        | true =>
          have b1 : Below wr.heap.size wr (wr.alloc (.cells #[.int .i64 (-s)] 3)) := (Below.refl _ _).alloc (Nat.le_refl _) _
          obtain ⟨v', W1, r1, p1, q1, _⟩ := append_int (wr.alloc (.cells #[.int .i64 (-s)] 3)) w2.heap.size u6 ((List.range k).map (fun p : Nat => -nV (D p))) (hown.out.alloc _) wr.heap.size (-s) (heap_alloc_new _ _) (by simp; omega) (Nat.le_trans hb.out.size b1.size) 27
          have hsn : (List.range (k + 1)).map (fun p : Nat => -nV (D p)) = (List.range k).map (fun p : Nat => -nV (D p)) ++ [-s] := by
            rw [List.range_succ, List.map_append]
            simp only [List.map_cons, List.map_nil]
            rw [← HV.out.1]; rfl
          have HSN := hidE hsn
          have HR1 := hidE r1
          have HP1 := hidE p1
          have HQ1 := hidE (hb.out.trans ((b1.mono hb.out.size).trans q1))
          clear hsn r1 p1 q1 b1
          go_wp2_with (at_builtin; refine wpList_op_append rfl (s := .tmp 29) (x := .tmp 38) (t := 27) rfl rfl rfl HR1.out ?_)
          go_roundw
          case rel =>
            refine ⟨k + 1, by omega, by go_num, hidE (fun p hp => ?_), hidE (by rw [HSN.out]; exact HP1.out), HQ1⟩
            by_cases e : p = k
            · subst e; exact HV.out.2.symm
            · exact hall.out p (by omega)
          case measure => simp [intOf]; omega
      · obtain rfl : k = R := by omega
        have hany : (List.range k).any (fun p => !nB (D p)) = false := by
          rw [List.any_eq_false]
          intro p hp
          rw [hall.out p (List.mem_range.1 hp)]; simp
        have hmp : (List.range k).map (fun p : Nat => -nV (D p)) = lowV k bs := (HMP.out).resolve_right (by rw [hany]; simp)
        rw [hmp] at hown
        have HAN := hidE hany
        have HOW := hidE (ownsRow_base hown.out B2.out.size)
        obtain ⟨o9, c9, e9, _, _⟩ := intsAt_of_owns hown.out
        subst e9
        have HBF := hidE (B2.out.trans (hb.out.mono B2.out.size))
        clear hmp hany hown hall hb
        go_wp2_with fail
        refine bodyPost_ret (v := .tuple #[.slice o9 (lowV k bs).length c9, .int .i64 0]) (by simp [results, Try.results57, go_sem]) rfl ⟨?_, HBF.out⟩
        rw [show leastE k bs = (lowV k bs, 0) by rw [HE.out, if_neg (by rw [HAN.out]; simp)]]
        exact ⟨_, rfl, HOW.out⟩
  · have hE : leastE N bs = ([], askedE N bs []) := by unfold leastE extremeE; rw [if_neg he]
    obtain ⟨c, hc⟩ : ∃ c, askedE N bs [] = c := ⟨_, rfl⟩
    rw [hc] at hE hask he
    have hc2 : (c != 0) = true := by simpa using he
    have HE := hidE hE
    have HA := hidE hask
    clear hE he hc hask
    go_enter Try.func57, Try.ntmps57
    go_wp2_with fail
    refine HA.out.mono ?_
    rintro e w1 ⟨rfl, hb1⟩
    go_wp2_with fail
    refine bodyPost_ret (v := .tuple #[.slice none 0 0, .int .i64 c]) (by simp [results, Try.results57, go_sem]) rfl ⟨?_, hB0.trans (hb1.mono hB0.size)⟩
    rw [HE.out]
    exact ⟨_, rfl, World.ownsRow_nil _ _ _ _⟩

end Go.Proofs.Ytejbpoclfjkllaa
