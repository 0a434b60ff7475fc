/- Walk: the reference's Path. Conditions: at most 40 points where the system is checked. -/
import Derived.Test.YtejbpoclfjkllaaCZq
import Derived.Test.YtejbpoclfjkllaaP2
namespace Go.Proofs.Ytejbpoclfjkllaa
open Go Go.RowKit Go.Shelf

theorem idxOf_at {α : Type} {p : α → Bool} {d : α} : ∀ (l : List α) (k : Nat), k < l.length → (∀ j, j < k → p (l.getD j d) = false) → p (l.getD k d) = true → idxOf p l = k
  | [], k, hk, _, _ => by simp at hk
  | x :: l, 0, _, _, h => by simp at h; simp [idxOf, h]
  | x :: l, k + 1, hk, h0, h => by
    have hx : p x = false := by simpa using h0 0 (by omega)
    have := idxOf_at (d := d) l k (by simpa using hk) (fun j hj => by simpa using h0 (j + 1) (by omega)) (by simpa using h)
    rw [idxOf, if_neg (by rw [hx]; simp), this, if_neg (by omega)]
    omega

/-- The reference's test of one number of bounds. -/
def hitR (f : Nat → List Fr) (a : Nat) (d : Int) (k : Nat) : Bool := ((f k).getD a fr0).ok && (((f k).getD a fr0).s == d)
/-- The reference's Path is the program's. -/
theorem path_ref {R : Nat} {bs : List Bd} {t : List Int} (HO : NetOk R bs t) (ht : openedP R bs = some t) {x y : Nat} (hx : x < R) (hy : y < R) (hd : distN R bs x y < farI) :
    ∃ m, m ≤ R ∧ hitR (stepsRow R bs y) x (distN R bs x y) m = true ∧ ∀ k, k ≤ R → (∀ j, j < k → hitR (stepsRow R bs y) x (distN R bs x y) j = false) → hitR (stepsRow R bs y) x (distN R bs x y) k = true →
      followR bs (stepsRow R bs y) (ksFrom 0 bs.length) k x (distN R bs x y) [] = pathP R bs x y := by
  have hn := HO.n1
  have hfar : distN R bs x y < 1125899906842624 := hd
  have hit : ∀ k, k ≤ R → (hitR (stepsRow R bs y) x (distN R bs x y) k = ((walkRow bs y k).getD x 0 == distN R bs x y)) := by
    intro k hk
    unfold hitR
    rcases row_steps hn hy HO.valid (k := k) (by omega) hx with ⟨h1, h2⟩ | ⟨h1, h2⟩
    · rw [h2]; simp
    · have : (walkRow bs y k).getD x 0 ≠ distN R bs x y := fun e => h1 (by rw [e]; exact hd)
      rw [h2, Bool.false_and, beq_eq_false_iff_ne.2 this]
  have hdist : IsDist bs x y (distN R bs x y) := by
    unfold distN
    rw [heightsP_of ht]
    unfold distN at hd
    rw [heightsP_of ht] at hd
    rcases (HO.row hx).2 y hy with ⟨_, h2⟩ | ⟨h1, _⟩
    · exact h2
    · rw [h1] at hd; omega
  obtain ⟨m, h1, h2, h3⟩ := dist_in_rows HO hx hy hdist
  refine ⟨m, h2, by rw [hit m h2, h3]; simp, fun k hk hno hyes => ?_⟩
  have hget : ∀ j, j ≤ R → (walksP bs y R).getD j [] = walkRow bs y j := fun j hj => walksP_get bs y R hj
  have hidx := idxOf_at (p := fun r : List Int => r.getD x 0 == distN R bs x y) (d := []) (walksP bs y R) k (by rw [walksP_length]; omega) (fun j hj => by
    rw [hget j (by omega)]; show ((walkRow bs y j).getD x 0 == distN R bs x y) = false; rw [← hit j (by omega)]; exact hno j hj) (by
    rw [hget k hk]; show ((walkRow bs y k).getD x 0 == distN R bs x y) = true; rw [← hit k hk]; exact hyes)
  unfold pathP
  rw [hidx, Int.toNat_natCast, ← ksFrom_all]
  exact (path_follow HO ht hx hy hd hk (by have := (hit k hk).symm.trans hyes; simpa using this)).symm

set_option maxRecDepth 100000 in
set_option maxHeartbeats 4000000 in
theorem refpathE_any (w : World) (N : Int) (a : Option Addr) (cap : Nat) (bs : List Bd) (x y : Int) (hN : i64ok N) (hl : bs.length ≤ 9223372036854775807) (h : BoundsAt w a bs) (hsm : checkP N bs = 0 → N ≤ 40) :
    Calls Try.prog 69 #[.agg #[.int .i64 N, .slice a bs.length cap], .int .i64 x, .int .i64 y] w fun e w' => PathPost (pathE N bs x y).1 (pathE N bs x y).2 w.heap.size e w' ∧ Below w.heap.size w w' := by
  have H := hidE h
  have HN := hidE hN
  clear h hN
  have hB0 : Below w.heap.size w ((w.alloc (.cells #[.int .i64 N, .slice a bs.length cap] 24)).alloc (.cells #[.int .i64 x, .int .i64 y] 3)) := ((Below.refl _ _).alloc (Nat.le_refl _) _).alloc (by simp) _
  have hx0 : ((w.alloc (.cells #[.int .i64 N, .slice a bs.length cap] 24)).alloc (.cells #[.int .i64 x, .int .i64 y] 3)).heap[w.heap.size]? = some (.cells #[.int .i64 N, .slice a bs.length cap] 24 (0,0)) :=
    (Below.heap_alloc _ _ _ (by simp)).trans (heap_alloc_new _ _)
  have hints := ints_two (w.alloc (.cells #[.int .i64 N, .slice a bs.length cap] 24)) x y
  simp only [World.size_alloc] at hints
  have hask : Calls Try.prog 90 #[.agg #[.int .i64 N, .slice a bs.length cap], .slice (some ⟨w.heap.size + 1, 0, none⟩) 2 2] ((w.alloc (.cells #[.int .i64 N, .slice a bs.length cap] 24)).alloc (.cells #[.int .i64 x, .int .i64 y] 3)) _ :=
    pointed_any _ N a cap bs (some ⟨w.heap.size + 1, 0, none⟩) 2 [x, y] HN.out hl (by simp) ((H.out.alloc (.cells #[.int .i64 N, .slice a bs.length cap] 24)).alloc (.cells #[.int .i64 x, .int .i64 y] 3)) hints
  have X0 := hidE hx0
  clear hints hx0
  by_cases he : askedE N bs [x, y] = 0
  · have h40 := hsm (askedE_zero he).1
    obtain ⟨R, x', y', t, rfl, rfl, rfl, hx, hy, ht, HO⟩ := asked2 he
    have h40' : R ≤ 40 := by omega
    rw [he] at hask
    have hlen := HO.len
    have hdim := matrix_dim HO
    have hE : pathE R bs x' y' = if 1125899906842624 ≤ distN R bs x' y' then ([], 5) else (pathP R bs x' y', 0) := by unfold pathE; rw [if_pos he]; simp only [Int.toNat_natCast]
    have hmd := matrix_dist HO ht hx hy
    have hmat := fun W hb => matrix_net W R a cap bs t HO h40' hb
    have hpr := fun hd => path_ref HO ht hx hy hd
    have hst := fun W hb => steps_any W R a cap bs y' R 0 (-1) HO.n1 hy HO.n1 (by omega) (by omega) (by omega) hb HO.valid
    have hfl := stepsRow_len R bs y'
    have hfb : ∀ k v, k < R + 1 → v < R → ((stepsRow R bs y' k).getD v fr0).ok = true → -200000000 ≤ ((stepsRow R bs y' k).getD v fr0).s ∧ ((stepsRow R bs y' k).getD v fr0).s ≤ 200000000 := fun k v hk hv ho => step_bd HO.n1 hy HO.valid (k := k) (by omega) hv ho
    have hdb : distN R bs x' y' < farI → -200000000 ≤ distN R bs x' y' ∧ distN R bs x' y' ≤ 200000000 := fun hd => by
      have := dist_bd HO ht hx hy hd
      have := HO.n1
      omega
    have hvv := HO.valid
    simp only [List.drop_zero] at hst
    obtain ⟨f, hf⟩ : ∃ f, stepsRow R bs y' = f := ⟨_, rfl⟩
    obtain ⟨d, hdd⟩ : ∃ d, matrixP R bs = d := ⟨_, rfl⟩
    obtain ⟨D, hD⟩ : ∃ D, distN R bs x' y' = D := ⟨_, rfl⟩
    rw [hf] at hpr hst hfl hfb
    rw [hdd] at hdim hmd hmat
    rw [hD] at hE hmd hpr hdb
    have xR : (x' : Int) < (R : Int) := by omega
    have yR : (y' : Int) < (R : Int) := by omega
    have HE := hidE hE
    have HA := hidE hask
    have HDIM := hidE hdim
    have HMD := hidE hmd
    have HM := hidE hmat
    have HPR := hidE hpr
    have HST := hidE hst
    have HFL := hidE hfl
    have HFB := hidE hfb
    have HDB := hidE hdb
    have HVV := hidE hvv
    clear hE hask hdim hmd hmat hpr hst hfl hfb hdb hvv hdd hD hf he ht HO hsm
    go_enter Try.func69, Try.ntmps69
    go_wp2_with fail
    refine HA.out.mono ?_
    rintro e w1 ⟨rfl, hb1⟩
    have X1 := hidE (blk_below hb1 (by simp; omega) X0.out)
    have e0 : w1.cell? ⟨w.heap.size, 0, none⟩ = some (.int .i64 (R : Int)) := by rw [cell_of_row _ _ _ _ _ _ X1.out]; rfl
    have e1 : w1.cell? ⟨w.heap.size, 1, none⟩ = some (.slice a bs.length cap) := by rw [cell_of_row _ _ _ _ _ _ X1.out]; rfl
    have B1 := hidE (hB0.trans (hb1.mono hB0.size))
    have l1 : w.heap.size < w1.heap.size := lt_of_block X1.out
    clear hb1
    go_wp2_with fail
    refine (HM.out _ (H.out.below B1.out (Nat.le_refl _))).mono ?_
    rintro e w2 ⟨rfl, hm, hb2⟩
    have q0 := hm.slot hx
    obtain ⟨q1, q2, _⟩ := hm.cells HDIM.out hx hy
    have X2 := hidE (blk_below hb2 l1 X1.out)
    have B2 := hidE (B1.out.trans (hb2.mono B1.out.size))
    obtain ⟨⟨ms, mo⟩, hmm⟩ : ∃ z, mget d x' y' = z := ⟨_, rfl⟩
    have hmd := HMD.out
    rw [hmm] at q1 q2 hmd
    simp only at q1 q2 hmd
    have HMD2 := hidE hmd
    clear e0 e1 hb2 hm hmm hmd
    go_upto_region 5 with fail
    obtain ⟨w3, hw3⟩ : ∃ X, X = w2.alloc (.cells #[.int .i64 ms, .bool mo] 98) := ⟨_, rfl⟩
    rw [← hw3]
    obtain ⟨g, hg⟩ : ∃ g, g = w2.heap.size := ⟨_, rfl⟩
    rw [← hg]
    have b3 : Below w2.heap.size w2 w3 := by rw [hw3]; exact (Below.refl _ _).alloc (Nat.le_refl _) _
    have g3 : w3.heap[g]? = some (.cells #[.int .i64 ms, .bool mo] 98 (0,0)) := by rw [hw3, hg]; exact heap_alloc_new _ _
    have X3 := hidE (blk_below b3 (lt_of_block X2.out) X2.out)
    have B3 := hidE (B2.out.trans (b3.mono B2.out.size))
    have G3 := hidE g3
    have g31 : w3.cell? ⟨g, 1, none⟩ = some (.bool mo) := by rw [cell_of_row _ _ _ _ _ _ g3]; rfl
    clear hw3 hg b3 g3 q0 q1 q2
    cases mo with
    | false =>
      have hbad : 1125899906842624 ≤ D := by
        rcases HMD2.out with ⟨h1, _, _⟩ | ⟨_, h2⟩
        · simp at h1
        · rw [h2]; unfold farI; omega
      have HE2 := hidE (HE.out.trans (if_pos hbad))
      clear hbad
      go_wp2_with fail
      go_ret2
      refine ⟨?_, B3.out⟩
      rw [HE2.out]
      exact ⟨_, rfl, World.ownsRow_nil _ _ _ _⟩
    | true =>
      have hgood : D < farI ∧ ms = D := by
        rcases HMD2.out with ⟨_, h1, h2⟩ | ⟨h1, _⟩
        · exact ⟨h1, h2⟩
        · simp at h1
      obtain ⟨hDf, rfl⟩ := hgood
      have HE2 := hidE (HE.out.trans (if_neg (show ¬ 1125899906842624 ≤ ms by unfold farI at hDf; omega)))
      obtain ⟨hd1, hd2⟩ := HDB.out hDf
      obtain ⟨mm, hmR, hmh, hpath⟩ := HPR.out hDf
      have HMH := hidE hmh
      have HPATH := hidE hpath
      have h0 : w3.cell? ⟨w.heap.size, 0, none⟩ = some (.int .i64 (R : Int)) := by rw [cell_of_row _ _ _ _ _ _ X3.out]; rfl
      have h1 : w3.cell? ⟨w.heap.size, 1, none⟩ = some (.slice a bs.length cap) := by rw [cell_of_row _ _ _ _ _ _ X3.out]; rfl
      clear hDf hmh hpath HMD2 HPR
      go_wp2_with fail
      refine (HST.out _ (H.out.below B3.out (Nat.le_refl _))).mono ?_
      rintro e w4 ⟨⟨B, ads, rfl, hal, hrows⟩, hb4⟩
      have X4 := hidE (blk_below hb4 (lt_of_block X3.out) X3.out)
      have G4 := hidE (blk_below hb4 (lt_of_block G3.out) G3.out)
      have B4 := hidE (B3.out.trans (hb4.mono B3.out.size))
      have HAL := hidE hal
      have HROWS := hidE hrows
      clear h0 h1 g31 hb4 hal hrows
      obtain ⟨F, hF⟩ : ∃ F, R + 1 = F := ⟨_, rfl⟩
      rw [hF] at HAL ⊢
      have HFR := hidE hF
      have hFR : R < F := by omega
      have hF2 : F ≤ 200 := by omega
      clear hF
      have h0 : w4.cell? ⟨w.heap.size, 0, none⟩ = some (.int .i64 (R : Int)) := by rw [cell_of_row _ _ _ _ _ _ X4.out]; rfl
      go_wp2_with fail
      clear h0
      go_loopw [11] (fun i wr => ∃ k : Nat, k ≤ F ∧ i = .int .i64 k ∧ Hid (∀ j, j < k → hitR f x' ms j = false) ∧ Hid (Below w4.heap.size w4 wr)) (fun i _ => F - (intOf i).toNat)
      case atStart => exact ⟨0, by omega, rfl, hidE (fun j hj => by omega), hidE (Below.refl _ _)⟩
      case round =>
        obtain ⟨k, hk, rfl, hno, hb⟩ := hrel
        have X5 := hidE (blk_below hb.out (lt_of_block X4.out) X4.out)
        have G5 := hidE (blk_below hb.out (lt_of_block G4.out) G4.out)
        have h0 : wr.cell? ⟨w.heap.size, 0, none⟩ = some (.int .i64 (R : Int)) := by rw [cell_of_row _ _ _ _ _ _ X5.out]; rfl
        have hkR : k ≤ R := by
          by_cases e : k ≤ R
          · exact e
          · have := hno.out mm (by omega)
            rw [HMH.out] at this; simp at this
        have kR : decide (k ≤ R) = true := decide_eq_true hkR
        have kF : (k : Int) < (F : Int) := by omega
        have hkl : k < ads.length := by rw [HAL.out]; omega
        have hrr := HROWS.out.below hb.out
        have c0 := hrr.slot hkl
        obtain ⟨c1, c2⟩ := hrr.cells hkl (j := x') (by rw [HFL.out]; exact hx)
        have hit : hitR f x' ms k = (((f k).getD x' fr0).ok && (((f k).getD x' fr0).s == ms)) := rfl
        obtain ⟨pq, hpq⟩ : ∃ p, ads.getD k 0 = p := ⟨_, rfl⟩
        rw [hpq] at c0 c1 c2
        obtain ⟨⟨ps, po⟩, hpp⟩ : ∃ z, (f k).getD x' fr0 = z := ⟨_, rfl⟩
        rw [hpp] at c1 c2 hit
        simp only at c1 c2 hit
        have g50 : wr.cell? ⟨g, 0, none⟩ = some (.int .i64 ms) := by rw [cell_of_row _ _ _ _ _ _ G5.out]; rfl
        have HIT := hidE hit
        have HRR := hidE hrr
        clear hit hpp hpq hkl hrr
        cases po with
        | false =>
          have hfn := hidE (show hitR f x' ms k = false by rw [HIT.out]; rfl)
          go_wp2_with fail
          go_quiet (fail)
          obtain ⟨Y, hY⟩ : ∃ Y, Y = wr.drewN nq := ⟨_, rfl⟩
          rw [← hY]
          have HBY := hidE (hb.out.trans (show Below w4.heap.size wr Y by rw [hY]; exact below_drewN' _ _))
          clear hY h0 c0 c1 c2 g50
          go_wp2_with fail
          go_roundw
          case rel => exact ⟨k + 1, by omega, by go_num, hidE (fun j hj => by
            by_cases e : j = k
            · subst e; exact hfn.out
            · exact hno.out j (by omega)), HBY⟩
          case measure => simp [intOf]; omega
        | true =>
          by_cases hps : ps = ms
          · have hb2 : (ps == ms) = true := by simpa using hps
            have hyes := hidE (show hitR f x' ms k = true by rw [HIT.out, hb2]; rfl)
            clear hps
            go_wp2_with fail
            go_quiet (fail)
            obtain ⟨Y, hY⟩ : ∃ Y, Y = wr.drewN nq := ⟨_, rfl⟩
            rw [← hY]
            have hbY : Below wr.heap.size wr Y := by rw [hY]; exact below_drewN' _ _
            have HBY := hidE (hb.out.trans (hbY.mono hb.out.size))
            have X6 := hidE (blk_below hbY (lt_of_block X5.out) X5.out)
            have G6 := hidE (blk_below hbY (lt_of_block G5.out) G5.out)
            have B6 := hidE (B4.out.trans (HBY.out.mono B4.out.size))
            have hfo := follow_any Y R a cap bs B F 0 k ads f x' (-1) ms (by omega) (by omega) (by omega) (H.out.below B6.out (Nat.le_refl _)) HVV.out (HRR.out.below hbY) HAL.out (by omega) hF2 HFL.out (fun q v hq hv ho => HFB.out q v (by rw [HFR.out]; exact hq) hv ho) (by omega)
            rw [HPATH.out k hkR hno.out hyes.out] at hfo
            have HFO := hidE hfo
            clear hY h0 c0 c1 c2 g50 hbY hfo
            have h0 : Y.cell? ⟨w.heap.size, 0, none⟩ = some (.int .i64 (R : Int)) := by rw [cell_of_row _ _ _ _ _ _ X6.out]; rfl
            have h1 : Y.cell? ⟨w.heap.size, 1, none⟩ = some (.slice a bs.length cap) := by rw [cell_of_row _ _ _ _ _ _ X6.out]; rfl
            have g60 : Y.cell? ⟨g, 0, none⟩ = some (.int .i64 ms) := by rw [cell_of_row _ _ _ _ _ _ G6.out]; rfl
            go_wp2_with fail
            refine HFO.out.mono ?_
            rintro e w7 ⟨⟨v, rfl, ho⟩, hb7⟩
            have HO7 := hidE ho
            have HB7 := hidE hb7
            clear ho hb7
            go_wp2_with fail
            go_ret2
            refine ⟨?_, B6.out.trans (HB7.out.mono B6.out.size)⟩
            rw [HE2.out]
            exact ⟨_, rfl, ownsRow_base HO7.out B6.out.size⟩
          · have hb2 : (ps == ms) = false := by simpa using hps
            have hfn := hidE (show hitR f x' ms k = false by rw [HIT.out, hb2]; rfl)
            clear hps
            go_wp2_with fail
            go_quiet (fail)
            obtain ⟨Y, hY⟩ : ∃ Y, Y = wr.drewN nq := ⟨_, rfl⟩
            rw [← hY]
            have HBY := hidE (hb.out.trans (show Below w4.heap.size wr Y by rw [hY]; exact below_drewN' _ _))
            clear hY h0 c0 c1 c2 g50
            go_wp2_with fail
            go_roundw
            case rel => exact ⟨k + 1, by omega, by go_num, hidE (fun j hj => by
              by_cases e : j = k
              · subst e; exact hfn.out
              · exact hno.out j (by omega)), HBY⟩
            case measure => simp [intOf]; omega
  · have hE : pathE N bs x y = ([], askedE N bs [x, y]) := by unfold pathE; rw [if_neg he]
    obtain ⟨c, hc⟩ : ∃ c, askedE N bs [x, y] = c := ⟨_, rfl⟩
    rw [hc] at hE hask he
    have hc2 : (c != 0) = true := by simpa using he
    have HE := hidE hE
    have HA := hidE hask
    clear hE he hc hask
    go_enter Try.func69, Try.ntmps69
    go_wp2_with fail
    refine HA.out.mono ?_
    rintro e w1 ⟨rfl, hb1⟩
    go_wp2_with fail
    go_ret2
    refine ⟨?_, hB0.trans (hb1.mono hB0.size)⟩
    rw [HE.out]
    exact ⟨_, rfl, World.ownsRow_nil _ _ _ _⟩

end Go.Proofs.Ytejbpoclfjkllaa
