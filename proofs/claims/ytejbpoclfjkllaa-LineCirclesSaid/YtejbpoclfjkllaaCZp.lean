/- Walks: the reference's path, CheckPath. Conditions: a list of at most 4000 numbers. -/
import Derived.Test.YtejbpoclfjkllaaCY9
import Derived.Test.YtejbpoclfjkllaaCY1
import Derived.IntWalk
namespace Go.Proofs.Ytejbpoclfjkllaa
open Go Go.RowKit Go.Shelf

theorem pathR_step {bs : List Bd} {l : List Int} {y A S : Int} {k : Nat} (hk : k < l.length) : pathR bs y (l.drop k) A S = if l[k] < 0 ∨ (bs.length : Int) ≤ l[k] ∨ (bAt bs l[k]).src ≠ A then (0, false) else pathR bs y (l.drop (k + 1)) (bAt bs l[k]).dst (S + (bAt bs l[k]).most) := by
  rw [List.drop_eq_getElem_cons hk]; rfl
theorem pathR_end {bs : List Bd} {l : List Int} {y A S : Int} {k : Nat} (hk : ¬ k < l.length) : pathR bs y (l.drop k) A S = (S, A == y) := by
  rw [List.drop_eq_nil_of_le (by omega)]; rfl

set_option maxRecDepth 100000 in
set_option maxHeartbeats 4000000 in
theorem refpath_any (w : World) (N : Int) (a : Option Addr) (cap : Nat) (bs : List Bd) (a2 : Option Addr) (cap2 : Nat) (l : List Int) (x y : Int) (_hl : bs.length ≤ 9223372036854775807) (hl2 : l.length ≤ 4000) (hv : ∀ b ∈ bs, -1000000 ≤ b.most ∧ b.most ≤ 1000000) (h : BoundsAt w a bs) (h2 : IntsAt w a2 l) :
    Calls Try.prog 121 #[.agg #[.int .i64 N, .slice a bs.length cap], .slice a2 l.length cap2, .int .i64 x, .int .i64 y] w fun e w' => e = .returned (.tuple #[.int .i64 (pathR bs y l x 0).1, .bool (pathR bs y l x 0).2]) ∧ Below w.heap.size w w' := by
  have b0 : Below w.heap.size w (w.alloc (.cells #[.int .i64 N, .slice a bs.length cap] 24)) := (Below.refl _ _).alloc (Nat.le_refl _) _
  obtain ⟨w0, hw0⟩ : ∃ X, X = w.alloc (.cells #[.int .i64 N, .slice a bs.length cap] 24) := ⟨_, rfl⟩
  have X0 : Hid (w0.heap[w.heap.size]? = some (.cells #[.int .i64 N, .slice a bs.length cap] 24 (0,0))) := hidE (by rw [hw0]; exact heap_alloc_new _ _)
  rw [← hw0] at b0
  have B0 := hidE b0
  have HW0 := hidE hw0
  have H := hidE h
  have H2 := hidE h2
  have HV := hidE hv
  have l0 : w.heap.size < w0.heap.size := lt_of_block X0.out
  have hs : pathR bs y l x 0 = pathR bs y (l.drop 0) x 0 := rfl
  have HS := hidE hs
  clear b0 hw0 h h2 hv hs
  go_enter Try.func121, Try.ntmps121
  go_upto_region 1 with fail
  rw [← HW0.out]
  go_wp2_with fail
  go_loopw [10, 11, 12] (fun va vs i wr => ∃ (k : Nat) (A S : Int), k ≤ l.length ∧ i = .int .i64 k ∧ va = .int .i64 A ∧ vs = .int .i64 S ∧ Hid (pathR bs y l x 0 = pathR bs y (l.drop k) A S) ∧ -((k : Int) * 1000000) ≤ S ∧ S ≤ (k : Int) * 1000000 ∧ Hid (Below w0.heap.size w0 wr)) (fun _ _ i _ => l.length - (intOf i).toNat)
  case atStart => exact ⟨0, x, 0, by omega, rfl, rfl, rfl, HS, by omega, by omega, hidE (Below.refl _ _)⟩
  case round =>
    obtain ⟨k, A, S, hk, rfl, rfl, rfl, HG, s1, s2, HB⟩ := hrel
    have xr := blk_below HB.out l0 X0.out
    have e1 : wr.cell? ⟨w.heap.size, 1, none⟩ = some (.slice a bs.length cap) := by rw [cell_of_row _ _ _ _ _ _ xr]; rfl
    have bw : Below w.heap.size w wr := B0.out.trans (HB.out.mono B0.out.size)
    have BW := hidE bw
    by_cases hlt : k < l.length
    · obtain ⟨b, off, rfl, hbl, hck⟩ := (H2.out.below bw (Nat.le_refl _)).at hlt
      have hstep := pathR_step (bs := bs) (y := y) (A := A) (S := S) hlt
      obtain ⟨v, hv⟩ : ∃ v, l[k] = v := ⟨_, rfl⟩
      rw [hv] at hck hstep
      clear hv xr bw
      by_cases hneg : v < 0
      · have d1 : decide (v < 0) = true := decide_eq_true hneg
        have HST := hidE (show pathR bs y l x 0 = (0, false) by rw [HG.out, hstep, if_pos (.inl hneg)])
        clear hstep hneg
        go_wp2_with fail
        go_quiet (fail)
        go_wp2_with fail
        go_ret2
        exact ⟨by rw [HST.out]; rfl, BW.out.trans (below_drewN' _ _)⟩
      · obtain ⟨q, rfl⟩ := Int.eq_ofNat_of_zero_le (show 0 ≤ v by omega)
        have d1 : decide ((q : Int) < 0) = false := decide_eq_false (by omega)
        by_cases hqb : q < bs.length
        · have d2 : decide (bs.length ≤ q) = false := decide_eq_false (by omega)
          have qL : (q : Int) < (bs.length : Int) := by omega
          obtain ⟨b2, off2, rfl, hbl2, hcs⟩ := (H.out.below BW.out (Nat.le_refl _)).at hqb
          obtain ⟨c0, c1, c2, c3⟩ := hcs
          have hm := HV.out bs[q] (List.getElem_mem hqb)
          rw [bAt_nat hqb] at hstep
          obtain ⟨z, hz⟩ : ∃ z, bs[q] = z := ⟨_, rfl⟩
          rw [hz] at c0 c1 c2 c3 hstep hm
          obtain ⟨xs, xd, xm, xr'⟩ := z
          simp only at c0 c1 c2 c3 hstep hm
          clear hz
          by_cases hne : xs = A
          · rw [if_neg (by intro hh; rcases hh with hh | hh | hh <;> first | omega | exact hh hne)] at hstep
            have hnb : (xs != A) = false := by simpa using hne
            have hw : IntKind.i64.wrap (S + xm) = S + xm := IntWalk.i64_in _ (by omega)
            have HST := hidE hstep
            have t1 : -(((k + 1 : Nat) : Int) * 1000000) ≤ S + xm := by omega
            have t2 : S + xm ≤ ((k + 1 : Nat) : Int) * 1000000 := by omega
            have T1 := hidE t1
            have T2 := hidE t2
            clear hstep hne t1 t2 hneg hm
            go_wp2_with fail
            go_quiet (fail)
            go_wp2_with fail
            go_quiet (fail)
            go_wp2_with fail
            go_quiet (fail)
            go_wp2_with fail
            go_roundw
            case rel => exact ⟨k + 1, xd, S + xm, by omega, by go_num, rfl, rfl, hidE (by rw [HG.out, HST.out]), T1.out, T2.out, hidE (HB.out.trans (below_drewN' _ _))⟩
            case measure => simp [intOf]; omega
          · have hnb : (xs != A) = true := by simpa using hne
            have HST := hidE (show pathR bs y l x 0 = (0, false) by rw [HG.out, hstep, if_pos (.inr (.inr hne))])
            clear hstep hne hneg hm
            go_wp2_with fail
            go_quiet (fail)
            go_wp2_with fail
            go_ret2
            exact ⟨by rw [HST.out]; rfl, BW.out.trans (below_drewN' _ _)⟩
        · have d2 : decide (bs.length ≤ q) = true := decide_eq_true (by omega)
          have HST := hidE (show pathR bs y l x 0 = (0, false) by rw [HG.out, hstep, if_pos (.inr (.inl (by omega)))])
          clear hstep hneg
          go_wp2_with fail
          go_quiet (fail)
          go_wp2_with fail
          go_ret2
          exact ⟨by rw [HST.out]; rfl, BW.out.trans (below_drewN' _ _)⟩
    · have hend := pathR_end (bs := bs) (y := y) (A := A) (S := S) hlt
      have HE := hidE hend
      clear hend xr bw
      go_wp2_with fail
      go_ret2
      exact ⟨by rw [HG.out, HE.out]; rfl, BW.out⟩

theorem pointP_bad {N x y : Int} (h : x < 0 ∨ N ≤ x ∨ y < 0 ∨ N ≤ y) : pointP N [x, y] = 1 := by
  unfold pointP
  rw [if_pos]
  have e : ∀ z : Int, z < 0 ∨ N ≤ z → inR z 0 (N - 1) = false := fun z hz => by
    cases hh : inR z 0 (N - 1) with
    | false => rfl
    | true => have := inR_true.1 hh; omega
  simp only [List.any_cons, List.any_nil, Bool.or_false]
  rcases h with h | h | h | h
  · simp [e x (.inl h)]
  · simp [e x (.inr h)]
  · simp [e y (.inl h)]
  · simp [e y (.inr h)]

set_option maxRecDepth 100000 in
set_option maxHeartbeats 2000000 in
theorem refcheckPath_any (w : World) (N : Int) (a : Option Addr) (cap : Nat) (bs : List Bd) (a2 : Option Addr) (cap2 : Nat) (l : List Int) (x y m : Int) (hN : i64ok N) (hl : bs.length ≤ 9223372036854775807) (hl2 : l.length ≤ 9223372036854775807) (h : BoundsAt w a bs) (h2 : IntsAt w a2 l) :
    Calls Try.prog 71 #[.agg #[.int .i64 N, .slice a bs.length cap], .slice a2 l.length cap2, .int .i64 x, .int .i64 y, .int .i64 m] w fun e w' => e = .returned (.tuple #[.bool (checkPathE N bs l x y m).1, .int .i64 (checkPathE N bs l x y m).2]) ∧ Below w.heap.size w w' := by
  have b0 : Below w.heap.size w (w.alloc (.cells #[.int .i64 N, .slice a bs.length cap] 24)) := (Below.refl _ _).alloc (Nat.le_refl _) _
  obtain ⟨cc, hcc⟩ : ∃ t, checkP N bs = t := ⟨_, rfl⟩
  have hck := fun W hb => refcheck_any W N a cap bs hN hl hb
  rw [hcc] at hck
  have B0 := hidE b0
  have H := hidE h
  have H2 := hidE h2
  have HCK := hidE hck
  have HCC := hidE hcc
  clear b0 h h2 hck hcc
  by_cases hc : cc = 0
  · subst hc
    obtain ⟨n0, n1, n2, nv⟩ := checkP_zero HCC.out
    have NV := hidE nv
    clear nv
    by_cases hx0 : x < 0
    · skip
      have hp : pointP N [x, y] = 1 := pointP_bad (.inl hx0)
      have hE : checkPathE N bs l x y m = (false, 1) := by unfold checkPathE; rw [if_neg (by simp [HCC.out]), if_pos (by rw [hp]; simp), hp]
      have HE := hidE hE
      clear hE hp
      have d1 : decide (x < 0) = true := decide_eq_true hx0
      go_enter Try.func71, Try.ntmps71
      go_wp2_with fail
      refine (HCK.out _ (H.out.alloc _)).mono ?_
      rintro e w1 ⟨rfl, hb1⟩
      have X1 := hidE (blk_below hb1 (by simp) (heap_alloc_new w (.cells #[.int .i64 N, .slice a bs.length cap] 24)))
      have c0 : w1.cell? ⟨w.heap.size, 0, none⟩ = some (.int .i64 N) := by rw [cell_of_row _ _ _ _ _ _ X1.out]; rfl
      have c1 : w1.cell? ⟨w.heap.size, 1, none⟩ = some (.slice a bs.length cap) := by rw [cell_of_row _ _ _ _ _ _ X1.out]; rfl
      have B1 := hidE (B0.out.trans (hb1.mono B0.out.size))
      clear hb1
      go_wp2_with fail
      go_ret2
      exact ⟨by rw [HE.out]; rfl, B1.out⟩
    have d1 : decide (x < 0) = false := decide_eq_false hx0
    by_cases hx1 : N ≤ x
    · skip
      have hp : pointP N [x, y] = 1 := pointP_bad (.inr (.inl hx1))
      have hE : checkPathE N bs l x y m = (false, 1) := by unfold checkPathE; rw [if_neg (by simp [HCC.out]), if_pos (by rw [hp]; simp), hp]
      have HE := hidE hE
      clear hE hp
      have d2 : decide (x ≥ N) = true := decide_eq_true hx1
      go_enter Try.func71, Try.ntmps71
      go_wp2_with fail
      refine (HCK.out _ (H.out.alloc _)).mono ?_
      rintro e w1 ⟨rfl, hb1⟩
      have X1 := hidE (blk_below hb1 (by simp) (heap_alloc_new w (.cells #[.int .i64 N, .slice a bs.length cap] 24)))
      have c0 : w1.cell? ⟨w.heap.size, 0, none⟩ = some (.int .i64 N) := by rw [cell_of_row _ _ _ _ _ _ X1.out]; rfl
      have c1 : w1.cell? ⟨w.heap.size, 1, none⟩ = some (.slice a bs.length cap) := by rw [cell_of_row _ _ _ _ _ _ X1.out]; rfl
      have B1 := hidE (B0.out.trans (hb1.mono B0.out.size))
      clear hb1
      go_wp2_with fail
      go_ret2
      exact ⟨by rw [HE.out]; rfl, B1.out⟩
    have d2 : decide (x ≥ N) = false := decide_eq_false hx1
    by_cases hy0 : y < 0
    · skip
      have hp : pointP N [x, y] = 1 := pointP_bad (.inr (.inr (.inl hy0)))
      have hE : checkPathE N bs l x y m = (false, 1) := by unfold checkPathE; rw [if_neg (by simp [HCC.out]), if_pos (by rw [hp]; simp), hp]
      have HE := hidE hE
      clear hE hp
      have d3 : decide (y < 0) = true := decide_eq_true hy0
      go_enter Try.func71, Try.ntmps71
      go_wp2_with fail
      refine (HCK.out _ (H.out.alloc _)).mono ?_
      rintro e w1 ⟨rfl, hb1⟩
      have X1 := hidE (blk_below hb1 (by simp) (heap_alloc_new w (.cells #[.int .i64 N, .slice a bs.length cap] 24)))
      have c0 : w1.cell? ⟨w.heap.size, 0, none⟩ = some (.int .i64 N) := by rw [cell_of_row _ _ _ _ _ _ X1.out]; rfl
      have c1 : w1.cell? ⟨w.heap.size, 1, none⟩ = some (.slice a bs.length cap) := by rw [cell_of_row _ _ _ _ _ _ X1.out]; rfl
      have B1 := hidE (B0.out.trans (hb1.mono B0.out.size))
      clear hb1
      go_wp2_with fail
      go_ret2
      exact ⟨by rw [HE.out]; rfl, B1.out⟩
    have d3 : decide (y < 0) = false := decide_eq_false hy0
    by_cases hy1 : N ≤ y
    · skip
      have hp : pointP N [x, y] = 1 := pointP_bad (.inr (.inr (.inr hy1)))
      have hE : checkPathE N bs l x y m = (false, 1) := by unfold checkPathE; rw [if_neg (by simp [HCC.out]), if_pos (by rw [hp]; simp), hp]
      have HE := hidE hE
      clear hE hp
      have d4 : decide (y ≥ N) = true := decide_eq_true hy1
      go_enter Try.func71, Try.ntmps71
      go_wp2_with fail
      refine (HCK.out _ (H.out.alloc _)).mono ?_
      rintro e w1 ⟨rfl, hb1⟩
      have X1 := hidE (blk_below hb1 (by simp) (heap_alloc_new w (.cells #[.int .i64 N, .slice a bs.length cap] 24)))
      have c0 : w1.cell? ⟨w.heap.size, 0, none⟩ = some (.int .i64 N) := by rw [cell_of_row _ _ _ _ _ _ X1.out]; rfl
      have c1 : w1.cell? ⟨w.heap.size, 1, none⟩ = some (.slice a bs.length cap) := by rw [cell_of_row _ _ _ _ _ _ X1.out]; rfl
      have B1 := hidE (B0.out.trans (hb1.mono B0.out.size))
      clear hb1
      go_wp2_with fail
      go_ret2
      exact ⟨by rw [HE.out]; rfl, B1.out⟩
    have d4 : decide (y ≥ N) = false := decide_eq_false hy1
    have hp : pointP N [x, y] = 0 := by
      unfold pointP
      rw [if_neg]
      have ex : inR x 0 (N - 1) = true := inR_true.2 (by omega)
      have ey : inR y 0 (N - 1) = true := inR_true.2 (by omega)
      simp [ex, ey]
    have hE : checkPathE N bs l x y m = ((sumP bs l x y).2 && decide ((sumP bs l x y).1 ≤ m), 0) := by unfold checkPathE; rw [if_neg (by simp [HCC.out]), if_neg (by rw [hp]; simp)]
    by_cases hlong : 2000 < l.length
    · have hd : decide ((l.length : Int) > 2000) = true := by simp; omega
      have hs : sumP bs l x y = (0, false) := by unfold sumP; rw [if_pos hlong]
      rw [hs] at hE
      have HE := hidE hE
      clear hE hs hp hlong
      go_enter Try.func71, Try.ntmps71
      go_wp2_with fail
      refine (HCK.out _ (H.out.alloc _)).mono ?_
      rintro e w1 ⟨rfl, hb1⟩
      have X1 := hidE (blk_below hb1 (by simp) (heap_alloc_new w (.cells #[.int .i64 N, .slice a bs.length cap] 24)))
      have c0 : w1.cell? ⟨w.heap.size, 0, none⟩ = some (.int .i64 N) := by rw [cell_of_row _ _ _ _ _ _ X1.out]; rfl
      have c1 : w1.cell? ⟨w.heap.size, 1, none⟩ = some (.slice a bs.length cap) := by rw [cell_of_row _ _ _ _ _ _ X1.out]; rfl
      have B1 := hidE (B0.out.trans (hb1.mono B0.out.size))
      clear hb1
      go_wp2_with fail
      go_ret2
      exact ⟨by rw [HE.out]; rfl, B1.out⟩
    · have hd : decide ((l.length : Int) > 2000) = false := by simp; omega
      have hs : sumP bs l x y = pathR bs y l x 0 := by unfold sumP; rw [if_neg hlong, pathR_eq]
      rw [hs] at hE
      have hpt := fun W hb hb2 => refpath_any W N a cap bs a2 cap2 l x y hl (by omega) (fun b hb => by obtain ⟨q, _⟩ := NV.out b hb; exact ⟨q.2.2.2.2.1, q.2.2.2.2.2⟩) hb hb2
      obtain ⟨s1, hs1⟩ : ∃ t, (pathR bs y l x 0).1 = t := ⟨_, rfl⟩
      obtain ⟨s2, hs2⟩ : ∃ t, (pathR bs y l x 0).2 = t := ⟨_, rfl⟩
      rw [hs1, hs2] at hpt hE
      obtain ⟨c, hcm⟩ : ∃ c, decide (s1 ≤ m) = c := ⟨_, rfl⟩
      rw [hcm] at hE
      have HE := hidE hE
      have HPT := hidE hpt
      clear hE hs hp hlong hpt hs1 hs2
      go_enter Try.func71, Try.ntmps71
      go_wp2_with fail
      refine (HCK.out _ (H.out.alloc _)).mono ?_
      rintro e w1 ⟨rfl, hb1⟩
      have X1 := hidE (blk_below hb1 (by simp) (heap_alloc_new w (.cells #[.int .i64 N, .slice a bs.length cap] 24)))
      have c0 : w1.cell? ⟨w.heap.size, 0, none⟩ = some (.int .i64 N) := by rw [cell_of_row _ _ _ _ _ _ X1.out]; rfl
      have c1 : w1.cell? ⟨w.heap.size, 1, none⟩ = some (.slice a bs.length cap) := by rw [cell_of_row _ _ _ _ _ _ X1.out]; rfl
      have B1 := hidE (B0.out.trans (hb1.mono B0.out.size))
      clear hb1
      go_wp2_with fail
      refine (HPT.out _ (H.out.below B1.out (Nat.le_refl _)) (H2.out.below B1.out (Nat.le_refl _))).mono ?_
      rintro e w2 ⟨rfl, hb2⟩
      have B2 := hidE (B1.out.trans (hb2.mono B1.out.size))
      clear hb2
      cases s2 <;>
        (go_wp2_with fail
         go_ret2
         exact ⟨by rw [HE.out]; rfl, B2.out⟩)
  · have hb : (cc != 0) = true := by simpa using hc
    have hE : checkPathE N bs l x y m = (false, cc) := by unfold checkPathE; rw [if_pos (by rw [HCC.out]; exact hc), HCC.out]
    have HE := hidE hE
    clear hE hc
    go_enter Try.func71, Try.ntmps71
    go_wp2_with fail
    refine (HCK.out _ (H.out.alloc _)).mono ?_
    rintro e w1 ⟨rfl, hb1⟩
    have X1 := hidE (blk_below hb1 (by simp) (heap_alloc_new w (.cells #[.int .i64 N, .slice a bs.length cap] 24)))
    have c0 : w1.cell? ⟨w.heap.size, 0, none⟩ = some (.int .i64 N) := by rw [cell_of_row _ _ _ _ _ _ X1.out]; rfl
    have c1 : w1.cell? ⟨w.heap.size, 1, none⟩ = some (.slice a bs.length cap) := by rw [cell_of_row _ _ _ _ _ _ X1.out]; rfl
    have B1 := hidE (B0.out.trans (hb1.mono B0.out.size))
    clear hb1
    go_wp2_with fail
    go_ret2
    exact ⟨by rw [HE.out]; rfl, B1.out⟩

end Go.Proofs.Ytejbpoclfjkllaa
