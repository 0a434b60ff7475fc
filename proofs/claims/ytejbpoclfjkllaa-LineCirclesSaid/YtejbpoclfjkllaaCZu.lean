/- Walk: the reference's Circle. No conditions beyond those stated. -/
import Derived.Test.YtejbpoclfjkllaaCZq
import Derived.Test.YtejbpoclfjkllaaA5
import Derived.Test.YtejbpoclfjkllaaCY4
import Derived.Test.YtejbpoclfjkllaaA4
namespace Go.Proofs.Ytejbpoclfjkllaa
open Go Go.RowKit Go.Shelf
attribute [local go_sem] Oper.semAt_some

theorem find_up_some {p : Nat → Bool} {n k : Nat} (h1 : 1 ≤ k) (h2 : k ≤ n) (hp : p k = true) (hno : ∀ j, 1 ≤ j → j < k → p j = false) : ((List.range n).map (· + 1)).find? p = some k := by
  rw [List.find?_map]
  have : (List.range n).find? (p ∘ (· + 1)) = some (k - 1) := find_range_some (by omega) (fun j hj => hno (j + 1) (by omega) (by omega)) (by show p (k - 1 + 1) = true; rw [Nat.sub_add_cancel h1]; exact hp)
  rw [this]
  simp; omega
theorem find_up_no {p : Nat → Bool} {n : Nat} (hno : ∀ j, 1 ≤ j → j < n + 1 → p j = false) : ((List.range n).map (· + 1)).find? p = none := by
  rw [List.find?_map, find_range_none (p := p ∘ (· + 1)) (fun j hj => hno (j + 1) (by omega) (by omega))]; rfl
/-- What the reference's Circle comes to. -/
theorem circle_end {R : Nat} {bs : List Bd} (hc : checkP R bs = 0) (ho : openedP R bs = none) : ∃ M i, refGo R bs bs.length (0, 0) = (M, i) ∧ i < bs.length ∧ 2 ≤ M ∧ M ≤ R ∧ circleP R bs = ((i : Int) :: followR bs (stepsRow R (bs.drop (i + 1)) (bs.getD i bd0).src.toNat) (ksFrom (i + 1) bs.length) (M - 1) (bs.getD i bd0).dst (-1 - (bs.getD i bd0).most) [], true, 0) := by
  obtain ⟨n0, n1, n2, nv⟩ := checkP_zero hc
  have hN : R ≤ 128 := by omega
  have hv : AllValid R bs := fun b hb => (nv b hb).1
  have hns : ∀ b ∈ bs, b.src ≠ b.dst := fun b hb => (nv b hb).2.1
  have hno : ¬ NoNeg bs := fun hn => by
    have := (openedP_iff hN hv).2 hn
    rw [ho] at this; simp at this
  obtain ⟨M, hM, h2, hMN⟩ := leastK_of hv hns hno
  obtain ⟨i, hi, hn, e1, e2⟩ := circle_first hN hv hM h2 hMN
  refine ⟨M, i, e1, hi, h2, hMN, ?_⟩
  unfold circleP
  rw [if_neg (by simp [hc]), if_neg (by rw [ho]; simp), Int.toNat_natCast, circle_ref hN hv hns ho]
  simp only
  unfold refCircle refRest
  rw [e1]
  simp only
  rw [ksFrom_later hi]

set_option maxRecDepth 100000 in
set_option maxHeartbeats 8000000 in
theorem refcircle_any (w : World) (N : Int) (a : Option Addr) (cap : Nat) (bs : List Bd) (hN : i64ok N) (hl : bs.length ≤ 9223372036854775807) (h : BoundsAt w a bs) :
    Calls Try.prog 74 #[.agg #[.int .i64 N, .slice a bs.length cap]] w fun e w' => ThroughPost (circleP N bs).1 (circleP N bs).2.1 (circleP N bs).2.2 w.heap.size e w' ∧ Below w.heap.size w w' := by
  have H := hidE h
  have hB0 : Below w.heap.size w (w.alloc (.cells #[.int .i64 N, .slice a bs.length cap] 24)) := (Below.refl _ _).alloc (Nat.le_refl _) _
  have hck := refcheck_any (w.alloc (.cells #[.int .i64 N, .slice a bs.length cap] 24)) N a cap bs hN hl (h.alloc _)
  clear h
  by_cases hc : checkP N bs = 0
  · obtain ⟨n0, n1, n2, nv⟩ := checkP_zero hc
    rw [hc] at hck
    obtain ⟨R, rfl⟩ := Int.eq_ofNat_of_zero_le (show 0 ≤ N by omega)
    have hv : AllValid R bs := fun b hb => (nv b hb).1
    have hcs := fun W hb => refconsistent_any W R a cap bs (by omega) (by omega) (by omega) hb hv
    rw [keptR_eq (by omega) hv] at hcs
    have hRb : 1 ≤ R ∧ R ≤ 128 := by omega
    by_cases ho : openedP R bs = none
    · have hk : keptP R bs = false := by unfold keptP; rw [ho]; rfl
      rw [hk] at hcs
      obtain ⟨M, ii, hgo, hii, hM2, hMR, hE⟩ := circle_end hc ho
      have hstep : ∀ m st, refGo R bs (m + 1) st = refGo R bs m (refStep R bs m st) := fun _ _ => rfl
      have hg0 : ∀ st, refGo R bs 0 st = st := fun _ => rfl
      have hstp := fun (W : World) (tg s : Nat) (least : Int) (ht : tg < R) (hs : least + 1 = (s : Int)) (hsl : s ≤ bs.length) hb => steps_any W R a cap bs tg R s least hRb.2 ht hRb.2 hs (by omega) hsl hb hv
      have HCK := hidE hck
      have HCS := hidE hcs
      have HGO := hidE hgo
      have HE := hidE hE
      have HV := hidE hv
      have HSTEP := hidE hstep
      have HG0 := hidE hg0
      have HSTP := hidE hstp
      clear hck hcs hgo hE hv hk ho nv hc hN hstep hg0 hstp
      obtain ⟨hR1, hR2⟩ := hRb
      have hbl0 : 0 < bs.length := by omega
      go_enter Try.func74, Try.ntmps74
      go_wp2_with fail
      refine HCK.out.mono ?_
      rintro e w1 ⟨rfl, hb1⟩
      have X1 := hidE (blk_below hb1 (by simp) (heap_alloc_new w (.cells #[.int .i64 (R : Int), .slice a bs.length cap] 24)))
      have c0 : w1.cell? ⟨w.heap.size, 0, none⟩ = some (.int .i64 (R : Int)) := by rw [cell_of_row _ _ _ _ _ _ X1.out]; rfl
      have c1 : w1.cell? ⟨w.heap.size, 1, none⟩ = some (.slice a bs.length cap) := by rw [cell_of_row _ _ _ _ _ _ X1.out]; rfl
      have B1 := hidE (hB0.trans (hb1.mono hB0.size))
      clear hb1
      go_wp2_with fail
      refine (HCS.out _ (H.out.below B1.out (Nat.le_refl _))).mono ?_
      rintro e w2 ⟨rfl, hb2⟩
      have X2 := hidE (blk_below hb2 (lt_of_block X1.out) X1.out)
      have B2 := hidE (B1.out.trans (hb2.mono B1.out.size))
      clear c0 c1 hb2
      have c1 : w2.cell? ⟨w.heap.size, 1, none⟩ = some (.slice a bs.length cap) := by rw [cell_of_row _ _ _ _ _ _ X2.out]; rfl
      go_wp2_with fail
      clear c1
      go_loopw [7, 8, 9] (fun s7 s8 i wr => ∃ (n L F : Nat), n ≤ bs.length ∧ i = .int .i64 ((n : Int) - 1) ∧ s7 = .int .i64 (L : Int) ∧ s8 = .int .i64 (F : Int) ∧ L ≤ 200 ∧ Hid (refGo R bs n (L, F) = (M, ii)) ∧ Hid (Below w2.heap.size w2 wr)) (fun _ _ i _ => (intOf i + 1).toNat)
      case atStart => exact ⟨bs.length, 0, 0, by omega, rfl, rfl, rfl, by omega, HGO, hidE (Below.refl _ _)⟩
      case round =>
        obtain ⟨n, L, F, hn, rfl, rfl, rfl, hL, hG, hb⟩ := hrel
        have X3 := hidE (blk_below hb.out (lt_of_block X2.out) X2.out)
        have B3 := hidE (B2.out.trans (hb.out.mono B2.out.size))
        have c0 : wr.cell? ⟨w.heap.size, 0, none⟩ = some (.int .i64 (R : Int)) := by rw [cell_of_row _ _ _ _ _ _ X3.out]; rfl
        have c1 : wr.cell? ⟨w.heap.size, 1, none⟩ = some (.slice a bs.length cap) := by rw [cell_of_row _ _ _ _ _ _ X3.out]; rfl
        by_cases hn0 : 0 < n
        · obtain ⟨m, rfl⟩ : ∃ m, n = m + 1 := ⟨n - 1, by omega⟩
          rw [show (((m + 1 : Nat) : Int) - 1) = (m : Int) by omega]
          have hlb : m < bs.length := by omega
          have iL : (m : Int) < (bs.length : Int) := by omega
          have hm0 : decide ((m : Int) ≥ 0) = true := by simp
          have hG2 := hG.out
          rw [HSTEP.out] at hG2
          have HG2 := hidE hG2
          obtain ⟨bb, off, rfl, hbl, hcs⟩ := (H.out.below B3.out (Nat.le_refl _)).at hlb
          obtain ⟨d0, d1, d2, d3⟩ := hcs
          have hval := HV.out bs[m] (List.getElem_mem _)
          have hxd : bs.getD m bd0 = bs[m] := by simp [List.getD_eq_getElem?_getD, hlb]
          have hok : ∀ k, refOk R bs m k = (((stepsRow R (bs.drop (m + 1)) bs[m].src.toNat k).getD bs[m].dst.toNat fr0).ok && decide (bs[m].most + ((stepsRow R (bs.drop (m + 1)) bs[m].src.toNat k).getD bs[m].dst.toNat fr0).s < 0)) := fun k => by unfold refOk; rw [hxd]
          obtain ⟨x, hx⟩ : ∃ x, bs[m] = x := ⟨_, rfl⟩
          rw [hx] at d0 d1 d2 d3 hval hok
          obtain ⟨ys, yd, ym, yr⟩ := x
          obtain ⟨v1, v2, v3, v4, v5, v6⟩ := hval
          simp only at d0 d1 d2 d3 v1 v2 v3 v4 v5 v6 hok
          obtain ⟨si, rfl⟩ := Int.eq_ofNat_of_zero_le v1
          obtain ⟨di, rfl⟩ := Int.eq_ofNat_of_zero_le v3
          simp only [Int.toNat_natCast] at hok
          have siR : si < R := by omega
          have diR : di < R := by omega
          have diR' : (di : Int) < (R : Int) := v4
          have hvd : AllValid R (bs.drop (m + 1)) := fun b hb => HV.out b (List.mem_of_mem_drop hb)
          have hbd := fun (k : Nat) (hk : k ≤ 129) => step_bd hR2 siR hvd hk diR
          have hfl := stepsRow_len R (bs.drop (m + 1)) si
          obtain ⟨f, hf⟩ : ∃ f, stepsRow R (bs.drop (m + 1)) si = f := ⟨_, rfl⟩
          have hst := fun W hb => HSTP.out W si (m + 1) (m : Int) siR (by omega) (by omega) hb
          simp only [hf] at hok
          rw [hf] at hbd hfl hst
          have HOK := hidE hok
          have HBD := hidE hbd
          have HFL := hidE hfl
          have HST := hidE hst
          clear hx hxd hok hbd hfl hst hf hvd hG2 hG hn0
          go_upto_region 13 with fail
          obtain ⟨w4, hw4⟩ : ∃ X, X = wr.alloc (Obj.cells #[.int .i64 (si : Int), .int .i64 (di : Int), .int .i64 ym, .int .i64 yr] 44) := ⟨_, rfl⟩
          rw [← hw4]
          obtain ⟨h, hh⟩ : ∃ h, h = wr.heap.size := ⟨_, rfl⟩
          rw [← hh]
          have hbx : w4.heap[h]? = some (.cells #[.int .i64 (si : Int), .int .i64 (di : Int), .int .i64 ym, .int .i64 yr] 44 (0,0)) := by rw [hw4, hh]; exact heap_alloc_new _ _
          have b4 : Below wr.heap.size wr w4 := by rw [hw4]; exact (Below.refl _ _).alloc (Nat.le_refl _) _
          have X4 := hidE (blk_below b4 (lt_of_block X3.out) X3.out)
          have HBX := hidE hbx
          have B4 := hidE (B3.out.trans (b4.mono B3.out.size))
          have HB4 := hidE (hb.out.trans (b4.mono hb.out.size))
          clear c0 c1 d0 d1 d2 d3 hw4 hh hbx b4 hb
          have c0 : w4.cell? ⟨w.heap.size, 0, none⟩ = some (.int .i64 (R : Int)) := by rw [cell_of_row _ _ _ _ _ _ X4.out]; rfl
          have c1 : w4.cell? ⟨w.heap.size, 1, none⟩ = some (.slice (some ⟨bb, off, none⟩) bs.length cap) := by rw [cell_of_row _ _ _ _ _ _ X4.out]; rfl
          have g0 : w4.cell? ⟨h, 0, none⟩ = some (.int .i64 (si : Int)) := by rw [cell_of_row _ _ _ _ _ _ HBX.out]; rfl
          go_wp2_with fail
          refine (HST.out _ (H.out.below B4.out (Nat.le_refl _))).mono ?_
          rintro e w5 ⟨⟨B, ads, rfl, hal, hrows⟩, hb5⟩
          have X5 := hidE (blk_below hb5 (lt_of_block X4.out) X4.out)
          have HBX5 := hidE (blk_below hb5 (lt_of_block HBX.out) HBX.out)
          have B5 := hidE (B4.out.trans (hb5.mono B4.out.size))
          have HB5 := hidE (HB4.out.trans (hb5.mono HB4.out.size))
          have HAL := hidE hal
          have HROWS := hidE hrows
          clear c0 c1 g0 hb5 hal hrows
          obtain ⟨M1, hM1⟩ : ∃ q, R + 1 = q := ⟨_, rfl⟩
          rw [hM1] at HAL ⊢
          have hRM : R < M1 := by omega
          clear hM1
          have e0 : w5.cell? ⟨w.heap.size, 0, none⟩ = some (.int .i64 (R : Int)) := by rw [cell_of_row _ _ _ _ _ _ X5.out]; rfl
          go_wp2_with fail
          clear e0
          go_loopw [7, 8, 12] (fun s7 s8 i wx => ∃ k : Nat, 1 ≤ k ∧ k ≤ R ∧ i = .int .i64 k ∧ s7 = .int .i64 (L : Int) ∧ s8 = .int .i64 (F : Int) ∧ Hid (∀ j, 1 ≤ j → j < k → refOk R bs m j = false) ∧ Hid (Below w5.heap.size w5 wx)) (fun _ _ i _ => R - (intOf i).toNat)
          case atStart => exact ⟨1, by omega, by omega, rfl, rfl, rfl, hidE (fun j h1 h2 => by omega), hidE (Below.refl _ _)⟩
          case round =>
            obtain ⟨k, hk1, hkR, rfl, rfl, rfl, hno, hb⟩ := hrel
            have X6 := hidE (blk_below hb.out (lt_of_block X5.out) X5.out)
            have e0 : wr.cell? ⟨w.heap.size, 0, none⟩ = some (.int .i64 (R : Int)) := by rw [cell_of_row _ _ _ _ _ _ X6.out]; rfl
            by_cases hlt : k < R
            · have HBX6 := hidE (blk_below hb.out (lt_of_block HBX5.out) HBX5.out)
              have g1 : wr.cell? ⟨h, 1, none⟩ = some (.int .i64 (di : Int)) := by rw [cell_of_row _ _ _ _ _ _ HBX6.out]; rfl
              have g2 : wr.cell? ⟨h, 2, none⟩ = some (.int .i64 ym) := by rw [cell_of_row _ _ _ _ _ _ HBX6.out]; rfl
              have kR' : (k : Int) < (R : Int) := by omega
              have kM' : (k : Int) < (M1 : Int) := by omega
              have hkl : k < ads.length := by rw [HAL.out]; omega
              have hrr := HROWS.out.below hb.out
              have c0 := hrr.slot hkl
              obtain ⟨c1, c2⟩ := hrr.cells hkl (j := di) (by rw [HFL.out]; exact diR)
              have hok := HOK.out k
              have hbd := HBD.out k (by omega)
              obtain ⟨pq, hpq⟩ : ∃ p, ads.getD k 0 = p := ⟨_, rfl⟩
              rw [hpq] at c0 c1 c2
              obtain ⟨⟨ps, po⟩, hpp⟩ : ∃ z, (f k).getD di fr0 = z := ⟨_, rfl⟩
              rw [hpp] at c1 c2 hok hbd
              simp only at c1 c2 hok hbd
              have HOKK := hidE hok
              clear hok hpp hpq hkl hrr
              cases po with
              | false =>
                have hfn : refOk R bs m k = false := by rw [HOKK.out]; rfl
                clear hbd
                have HFN := hidE hfn
                clear hfn
                go_wp2_with fail
                go_quiet (fail)
                obtain ⟨Y, hY⟩ : ∃ Y, Y = wr.drewN nq := ⟨_, rfl⟩
                rw [← hY]
                have HBY := hidE (hb.out.trans (show Below w5.heap.size wr Y by rw [hY]; exact below_drewN' _ _))
                clear hY e0 c0 c1 c2 g1 g2
                go_wp2_with fail
                go_roundw
                case rel => exact ⟨k + 1, by omega, by omega, by go_num, rfl, rfl, hidE (fun j hj0 hj => by
                  by_cases e : j = k
                  · subst e; exact HFN.out
                  · exact hno.out j hj0 (by omega)), HBY⟩
                case measure => simp [intOf]; omega
              | true =>
                obtain ⟨p1, p2⟩ := hbd rfl
                have wsum' : IntKind.i64.wrap (ym + ps) = ym + ps := IntWalk.i64_in _ (by omega)
                clear hbd
                by_cases hneg : ym + ps < 0
                · have hdn : decide (ym + ps < 0) = true := decide_eq_true hneg
                  have hyes : refOk R bs m k = true := by rw [HOKK.out, hdn]; rfl
                  have hK : refK R bs m = some k := find_up_some hk1 (by omega) hyes hno.out
                  have hS : refStep R bs m (L, F) = if L = 0 ∨ k + 1 ≤ L then (k + 1, m) else (L, F) := by unfold refStep; rw [hK]
                  have HSS := hidE hS
                  clear hyes hK hS hneg
                  go_wp2_with fail
                  go_quiet (fail)
                  obtain ⟨Y, hY⟩ : ∃ Y, Y = wr.drewN nq := ⟨_, rfl⟩
                  rw [← hY]
                  have HBY := hidE (HB5.out.trans ((show Below w5.heap.size w5 Y by rw [hY]; exact hb.out.trans (below_drewN' _ _)).mono HB5.out.size))
                  clear hY e0 c0 c1 c2 g1 g2 wsum'
                  by_cases hL0 : L = 0
                  · have hz : ((L : Int) == 0) = true := by simp [hL0]
                    have HN := hidE (show refGo R bs m (k + 1, m) = (M, ii) by rw [← HG2.out, HSS.out, if_pos (.inl hL0)])
                    clear hL0
                    go_wp2_with fail
                    go_roundw
                    case rel => exact ⟨m, k + 1, m, by omega, rfl, by go_num, rfl, by omega, HN, HBY⟩
                    case measure => simp [intOf] <;> omega
                  · have hz : ((L : Int) == 0) = false := by simp [hL0]
                    by_cases hle : k + 1 ≤ L
                    · have hz2 : decide ((k : Int) + 1 ≤ (L : Int)) = true := by simp; omega
                      have HN := hidE (show refGo R bs m (k + 1, m) = (M, ii) by rw [← HG2.out, HSS.out, if_pos (.inr hle)])
                      clear hL0
                      go_wp2_with fail
                      go_roundw
                      case rel => exact ⟨m, k + 1, m, by omega, rfl, by go_num, rfl, by omega, HN, HBY⟩
                      case measure => simp [intOf] <;> omega
                    · have hz2 : decide ((k : Int) + 1 ≤ (L : Int)) = false := by simp; omega
                      have HN := hidE (show refGo R bs m (L, F) = (M, ii) by rw [← HG2.out, HSS.out, if_neg (by omega)])
                      clear hL0
                      go_wp2_with fail
                      go_roundw
                      case rel => exact ⟨m, L, F, by omega, rfl, rfl, rfl, hL, HN, HBY⟩
                      case measure => simp [intOf] <;> omega
                · have hdn : decide (ym + ps < 0) = false := decide_eq_false hneg
                  have hfn : refOk R bs m k = false := by rw [HOKK.out, hdn]; rfl
                  clear hneg
                  have HFN := hidE hfn
                  clear hfn
                  go_wp2_with fail
                  go_quiet (fail)
                  obtain ⟨Y, hY⟩ : ∃ Y, Y = wr.drewN nq := ⟨_, rfl⟩
                  rw [← hY]
                  have HBY := hidE (hb.out.trans (show Below w5.heap.size wr Y by rw [hY]; exact below_drewN' _ _))
                  clear hY e0 c0 c1 c2 g1 g2
                  go_wp2_with fail
                  go_roundw
                  case rel => exact ⟨k + 1, by omega, by omega, by go_num, rfl, rfl, hidE (fun j hj0 hj => by
                    by_cases e : j = k
                    · subst e; exact HFN.out
                    · exact hno.out j hj0 (by omega)), HBY⟩
                  case measure => simp [intOf]; omega
            · have hK : refK R bs m = none := find_up_no (fun j h1 h2 => hno.out j h1 (by omega))
              have hS : refStep R bs m (L, F) = (L, F) := by unfold refStep; rw [hK]
              have HN := hidE (show refGo R bs m (L, F) = (M, ii) by rw [← HG2.out, hS])
              have HBY := hidE (HB5.out.trans (hb.out.mono HB5.out.size))
              clear hK hS
              go_wp2_with fail
              go_roundw
              case rel => exact ⟨m, L, F, by omega, rfl, rfl, rfl, hL, HN, HBY⟩
              case measure => simp [intOf] <;> omega
        · obtain rfl : n = 0 := by omega
          rw [show (((0 : Nat) : Int) - 1) = -1 by omega]
          have hLF := hG.out
          rw [HG0.out] at hLF
          obtain ⟨e1, e2⟩ := Prod.mk.inj hLF
          subst e1
          subst e2
          clear hLF
          have hFL : (F : Int) < (bs.length : Int) := by omega
          obtain ⟨bb, off, rfl, hbl, hcs⟩ := (H.out.below B3.out (Nat.le_refl _)).at hii
          obtain ⟨d0, d1, d2, d3⟩ := hcs
          have hval := HV.out bs[F] (List.getElem_mem _)
          have hxd : bs.getD F bd0 = bs[F] := by simp [List.getD_eq_getElem?_getD, hii]
          have hE := HE.out
          rw [hxd] at hE
          obtain ⟨x, hx⟩ : ∃ x, bs[F] = x := ⟨_, rfl⟩
          rw [hx] at d0 d1 d2 d3 hval hE
          obtain ⟨ys, yd, ym, yr⟩ := x
          obtain ⟨v1, v2, v3, v4, v5, v6⟩ := hval
          simp only at d0 d1 d2 d3 v1 v2 v3 v4 v5 v6 hE
          obtain ⟨si, rfl⟩ := Int.eq_ofNat_of_zero_le v1
          obtain ⟨di, rfl⟩ := Int.eq_ofNat_of_zero_le v3
          simp only [Int.toNat_natCast] at hE
          have siR : si < R := by omega
          have hvd : AllValid R (bs.drop (F + 1)) := fun b hb => HV.out b (List.mem_of_mem_drop hb)
          have hfb : ∀ k v, k < R + 1 → v < R → ((stepsRow R (bs.drop (F + 1)) si k).getD v fr0).ok = true → -200000000 ≤ ((stepsRow R (bs.drop (F + 1)) si k).getD v fr0).s ∧ ((stepsRow R (bs.drop (F + 1)) si k).getD v fr0).s ≤ 200000000 := fun k v hk hv ho => step_bd hR2 siR hvd (k := k) (by omega) hv ho
          have hfl := stepsRow_len R (bs.drop (F + 1)) si
          obtain ⟨f, hf⟩ : ∃ f, stepsRow R (bs.drop (F + 1)) si = f := ⟨_, rfl⟩
          have hst := fun W hb => HSTP.out W si (F + 1) (F : Int) siR (by omega) (by omega) hb
          rw [hf] at hfb hfl hst hE
          obtain ⟨K, hK⟩ : ∃ K, L = K + 1 := ⟨L - 1, by omega⟩
          rw [show L - 1 = K by omega] at hE
          have wL : IntKind.i64.wrap ((L : Int) - 1) = (K : Int) := by rw [IntWalk.i64_in _ (by omega)]; omega
          have hLK : (L : Int) - 1 = (K : Int) := by omega
          have wK : IntKind.i64.wrap (K : Int) = (K : Int) := IntWalk.i64_in _ (by omega)
          have wY : IntKind.i64.wrap (-1 - ym) = -1 - ym := IntWalk.i64_in _ (by omega)
          have hKR : K ≤ R := by omega
          have HE2 := hidE hE
          have HFB := hidE hfb
          have HFL := hidE hfl
          have HST := hidE hst
          have HKK := hidE hK
          clear hx hxd hE hfb hfl hst hf hvd hG hn0 hK
          go_upto_region 22 with fail
          obtain ⟨w4, hw4⟩ : ∃ X, X = wr.alloc (Obj.cells #[.int .i64 (si : Int), .int .i64 (di : Int), .int .i64 ym, .int .i64 yr] 44) := ⟨_, rfl⟩
          rw [← hw4]
          obtain ⟨h, hh⟩ : ∃ h, h = wr.heap.size := ⟨_, rfl⟩
          rw [← hh]
          have hbx : w4.heap[h]? = some (.cells #[.int .i64 (si : Int), .int .i64 (di : Int), .int .i64 ym, .int .i64 yr] 44 (0,0)) := by rw [hw4, hh]; exact heap_alloc_new _ _
          have b4 : Below wr.heap.size wr w4 := by rw [hw4]; exact (Below.refl _ _).alloc (Nat.le_refl _) _
          have X4 := hidE (blk_below b4 (lt_of_block X3.out) X3.out)
          have HBX := hidE hbx
          have B4 := hidE (B3.out.trans (b4.mono B3.out.size))
          clear c0 c1 d0 d1 d2 d3 hw4 hh hbx b4 hb
          have c0 : w4.cell? ⟨w.heap.size, 0, none⟩ = some (.int .i64 (R : Int)) := by rw [cell_of_row _ _ _ _ _ _ X4.out]; rfl
          have c1 : w4.cell? ⟨w.heap.size, 1, none⟩ = some (.slice (some ⟨bb, off, none⟩) bs.length cap) := by rw [cell_of_row _ _ _ _ _ _ X4.out]; rfl
          have g0 : w4.cell? ⟨h, 0, none⟩ = some (.int .i64 (si : Int)) := by rw [cell_of_row _ _ _ _ _ _ HBX.out]; rfl
          have g1 : w4.cell? ⟨h, 1, none⟩ = some (.int .i64 (di : Int)) := by rw [cell_of_row _ _ _ _ _ _ HBX.out]; rfl
          have g2 : w4.cell? ⟨h, 2, none⟩ = some (.int .i64 ym) := by rw [cell_of_row _ _ _ _ _ _ HBX.out]; rfl
          have lw : w.heap.size < w4.heap.size := lt_of_block X4.out
          have lh : h < w4.heap.size := lt_of_block HBX.out
          obtain ⟨a, ha⟩ : ∃ a, a = some (⟨bb, off, none⟩ : Addr) := ⟨_, rfl⟩
          rw [← ha] at c1 HST H X4 ⊢
          clear ha
          refine wp_region_F (S := fun V => V.cell? ⟨w.heap.size, 0, none⟩ = some (.int .i64 (R : Int)) ∧ V.cell? ⟨w.heap.size, 1, none⟩ = some (.slice a bs.length cap) ∧ V.cell? ⟨h, 0, none⟩ = some (.int .i64 (si : Int)) ∧ V.cell? ⟨h, 1, none⟩ = some (.int .i64 (di : Int)) ∧ V.cell? ⟨h, 2, none⟩ = some (.int .i64 ym)) (last := 17) (by kernel_rfl) ?_
          have hS0 : w4.drew.cell? ⟨w.heap.size, 0, none⟩ = some (.int .i64 (R : Int)) ∧ w4.drew.cell? ⟨w.heap.size, 1, none⟩ = some (.slice a bs.length cap) ∧ w4.drew.cell? ⟨h, 0, none⟩ = some (.int .i64 (si : Int)) ∧ w4.drew.cell? ⟨h, 1, none⟩ = some (.int .i64 (di : Int)) ∧ w4.drew.cell? ⟨h, 2, none⟩ = some (.int .i64 ym) := ⟨c0, c1, g0, g1, g2⟩
          refine wpAnyF_take (i := 0) (v := (.agg #[.int .i64 (R : Int), .slice a bs.length cap])) (by kernel_rfl) (by decide) rfl (by kernel_rfl) (by kernel_rfl) (by kernel_rfl) (fun _ _ _ h => h) (.inl ⟨rfl, fun V hV => ?_⟩) hS0 ?_
          · obtain ⟨z0, z1, z2, z3, z4⟩ := hV
            simp [go_sem, execOp, z0, z1]
          simp only [Act.put, List.setIfInBounds_toArray]
          refine wpAnyF_take (i := 1) (v := (.agg #[.int .i64 (R : Int), .slice a bs.length cap])) (by kernel_rfl) (by decide) rfl (by kernel_rfl) (by kernel_rfl) (by kernel_rfl) (fun _ _ _ h => h) (.inl ⟨rfl, fun V hV => ?_⟩) hS0 ?_
          · obtain ⟨z0, z1, z2, z3, z4⟩ := hV
            simp [go_sem, execOp, z0, z1]
          simp only [Act.put]
          refine wpAnyF_take (i := 2) (v := (.pointer (some ⟨h, 0, none⟩))) (by kernel_rfl) (by decide) rfl (by kernel_rfl) (by kernel_rfl) (by kernel_rfl) (fun _ _ _ h => h) (.inl ⟨rfl, fun V hV => ?_⟩) hS0 ?_
          · obtain ⟨z0, z1, z2, z3, z4⟩ := hV
            simp [go_sem, execOp]
          simp only [Act.put]
          refine wpAnyF_take (i := 3) (v := (.int .i64 (si : Int))) (by kernel_rfl) (by decide) rfl (by kernel_rfl) (by kernel_rfl) (by kernel_rfl) (fun _ _ _ h => h) (.inl ⟨rfl, fun V hV => ?_⟩) hS0 ?_
          · obtain ⟨z0, z1, z2, z3, z4⟩ := hV
            simp [go_sem, execOp, z2]
          simp only [Act.put]
          refine wpAnyF_take (i := 4) (v := (.pointer (some ⟨w.heap.size, 0, none⟩))) (by kernel_rfl) (by decide) rfl (by kernel_rfl) (by kernel_rfl) (by kernel_rfl) (fun _ _ _ h => h) (.inl ⟨rfl, fun V hV => ?_⟩) hS0 ?_
          · obtain ⟨z0, z1, z2, z3, z4⟩ := hV
            simp [go_sem, execOp]
          simp only [Act.put]
          refine wpAnyF_take (i := 5) (v := (.int .i64 (R : Int))) (by kernel_rfl) (by decide) rfl (by kernel_rfl) (by kernel_rfl) (by kernel_rfl) (fun _ _ _ h => h) (.inl ⟨rfl, fun V hV => ?_⟩) hS0 ?_
          · obtain ⟨z0, z1, z2, z3, z4⟩ := hV
            simp [go_sem, execOp, z0]
          simp only [Act.put]
          refine wpAnyF_take (i := 6) (v := (.int .i64 (F : Int))) (by kernel_rfl) (by decide) rfl (by kernel_rfl) (by kernel_rfl) (by kernel_rfl) (fun _ _ _ h => h) (.inl ⟨rfl, fun V hV => ?_⟩) hS0 ?_
          · obtain ⟨z0, z1, z2, z3, z4⟩ := hV
            simp [go_sem, execOp]
          simp only [Act.put]
          refine wpAnyF_take (i := 8) (v := (.pointer (some ⟨h, 1, none⟩))) (by kernel_rfl) (by decide) rfl (by kernel_rfl) (by kernel_rfl) (by kernel_rfl) (fun _ _ _ h => h) (.inl ⟨rfl, fun V hV => ?_⟩) hS0 ?_
          · obtain ⟨z0, z1, z2, z3, z4⟩ := hV
            simp [go_sem, execOp]
          simp only [Act.put]
          refine wpAnyF_take (i := 9) (v := (.int .i64 (di : Int))) (by kernel_rfl) (by decide) rfl (by kernel_rfl) (by kernel_rfl) (by kernel_rfl) (fun _ _ _ h => h) (.inl ⟨rfl, fun V hV => ?_⟩) hS0 ?_
          · obtain ⟨z0, z1, z2, z3, z4⟩ := hV
            simp [go_sem, execOp, z3]
          simp only [Act.put]
          refine wpAnyF_take (i := 10) (v := (.int .i64 (L : Int))) (by kernel_rfl) (by decide) rfl (by kernel_rfl) (by kernel_rfl) (by kernel_rfl) (fun _ _ _ h => h) (.inl ⟨rfl, fun V hV => ?_⟩) hS0 ?_
          · obtain ⟨z0, z1, z2, z3, z4⟩ := hV
            simp [go_sem, execOp]
          simp only [Act.put]
          refine wpAnyF_take (i := 11) (v := (.int .i64 (K : Int))) (by kernel_rfl) (by decide) rfl (by kernel_rfl) (by kernel_rfl) (by kernel_rfl) (fun _ _ _ h => h) (.inl ⟨rfl, fun V hV => ?_⟩) hS0 ?_
          · obtain ⟨z0, z1, z2, z3, z4⟩ := hV
            simp [go_sem, execOp, hLK, wK]
          simp only [Act.put]
          refine wpAnyF_take (i := 12) (v := (.int .i64 (F : Int))) (by kernel_rfl) (by decide) rfl (by kernel_rfl) (by kernel_rfl) (by kernel_rfl) (fun _ _ _ h => h) (.inl ⟨rfl, fun V hV => ?_⟩) hS0 ?_
          · obtain ⟨z0, z1, z2, z3, z4⟩ := hV
            simp [go_sem, execOp]
          simp only [Act.put]
          refine wpAnyF_take (i := 13) (v := (.pointer (some ⟨h, 2, none⟩))) (by kernel_rfl) (by decide) rfl (by kernel_rfl) (by kernel_rfl) (by kernel_rfl) (fun _ _ _ h => h) (.inl ⟨rfl, fun V hV => ?_⟩) hS0 ?_
          · obtain ⟨z0, z1, z2, z3, z4⟩ := hV
            simp [go_sem, execOp]
          simp only [Act.put]
          refine wpAnyF_take (i := 14) (v := (.int .i64 ym)) (by kernel_rfl) (by decide) rfl (by kernel_rfl) (by kernel_rfl) (by kernel_rfl) (fun _ _ _ h => h) (.inl ⟨rfl, fun V hV => ?_⟩) hS0 ?_
          · obtain ⟨z0, z1, z2, z3, z4⟩ := hV
            simp [go_sem, execOp, z4]
          simp only [Act.put]
          refine wpAnyF_take (i := 15) (v := (.int .i64 (-1 - ym))) (by kernel_rfl) (by decide) rfl (by kernel_rfl) (by kernel_rfl) (by kernel_rfl) (fun _ _ _ h => h) (.inl ⟨rfl, fun V hV => ?_⟩) hS0 ?_
          · obtain ⟨z0, z1, z2, z3, z4⟩ := hV
            simp [go_sem, execOp, wY]
          simp only [Act.put]
          have hb4d : Below w4.heap.size w4 w4.drew := (Below.refl _ _).drew
          have hst5 := HST.out w4.drew (H.out.below (B4.out.trans (hb4d.mono B4.out.size)) (Nat.le_refl _))
          have HST5 := hidE hst5
          have B4d := hidE (B4.out.trans (hb4d.mono B4.out.size))
          clear hst5 hb4d
          refine wpAnyF_step 7 rfl (by kernel_rfl) (fun K' hK' => ?_)
          go_simp
          go_at_call 118
          refine HST5.out.mono ?_
          rintro e w5 ⟨⟨B, ads, rfl, hal, hrows⟩, hb5⟩
          go_wp2_with fail
          have k0 := (hb5.cell (p := ⟨w.heap.size, 0, none⟩) lw).trans c0
          have k1 := (hb5.cell (p := ⟨w.heap.size, 1, none⟩) lw).trans c1
          have k2 := (hb5.cell (p := ⟨h, 0, none⟩) lh).trans g0
          have k3 := (hb5.cell (p := ⟨h, 1, none⟩) lh).trans g1
          have k4 := (hb5.cell (p := ⟨h, 2, none⟩) lh).trans g2
          have B5 := hidE (B4d.out.trans (hb5.mono B4d.out.size))
          have hfo := follow_any w5 R a cap bs B (R + 1) (F + 1) K ads f (di : Int) (F : Int) (-1 - ym) (by omega) (by omega) (by omega) (H.out.below B5.out (Nat.le_refl _)) HV.out hrows hal (by omega) (by omega) HFL.out HFB.out (by omega)
          have HFO := hidE hfo
          have hsz5 := hidE (Nat.le_trans (show w4.heap.size ≤ w4.drew.heap.size from Nat.le_refl _) hb5.size)
          clear hal hrows hb5 hfo
          refine hK'.out _ _ (.inr ⟨k0, k1, k2, k3, k4⟩) ?_
          clear hK' K'
          try simp only [Act.put, List.setIfInBounds_toArray, List.set_cons_succ, List.set_cons_zero]
          refine wpAnyF_step 16 rfl (by kernel_rfl) (fun K' hK' => ?_)
          go_simp
          go_at_call 119
          refine HFO.out.mono ?_
          rintro e w6 ⟨⟨vr, rfl, hor⟩, hb6⟩
          obtain ⟨o6, c6, rfl, hi6, _⟩ := intsAt_of_owns hor
          go_wp2_with fail
          have B6 := hidE (B5.out.trans (hb6.mono B5.out.size))
          have lw5 : w.heap.size < w5.heap.size := Nat.lt_of_lt_of_le lw hsz5.out
          have lh5 : h < w5.heap.size := Nat.lt_of_lt_of_le lh hsz5.out
          have n0' := (hb6.cell (p := ⟨w.heap.size, 0, none⟩) lw5).trans k0
          have n1' := (hb6.cell (p := ⟨w.heap.size, 1, none⟩) lw5).trans k1
          have n2' := (hb6.cell (p := ⟨h, 0, none⟩) lh5).trans k2
          have n3' := (hb6.cell (p := ⟨h, 1, none⟩) lh5).trans k3
          have n4' := (hb6.cell (p := ⟨h, 2, none⟩) lh5).trans k4
          have I6 := hidE hi6
          clear hor hb6 hi6
          refine hK'.out _ _ (.inr ⟨n0', n1', n2', n3', n4'⟩) ?_
          clear hK' K'
          try simp only [Act.put, List.setIfInBounds_toArray, List.set_cons_succ, List.set_cons_zero]
          refine wpAnyF_step 17 rfl (by kernel_rfl) (fun K' hK' => ?_)
          go_simp
          refine hK'.out _ _ (.inl rfl) ?_
          clear hK' K'
          refine wpAnyF_done (by kernel_rfl) ?_ _
          have ba : Below w6.heap.size w6 (w6.alloc (.cells #[.int .i64 (F : Int)] 3)) := (Below.refl _ _).alloc (Nat.le_refl _) _
          obtain ⟨rest, hrest⟩ : ∃ r, followR bs f (ksFrom (F + 1) bs.length) K (di : Int) (-1 - ym) [] = r := ⟨_, rfl⟩
          rw [hrest] at I6 HE2 ⊢
          have hrl : rest.length ≤ 1000 := by
            rw [← hrest]
            have := followR_len bs f (ksFrom (F + 1) bs.length) K (di : Int) (-1 - ym) []
            simp at this; omega
          obtain ⟨v', W7, r7, p7, q7⟩ := append_ints (w6.alloc (.cells #[.int .i64 (F : Int)] 3)) w6.heap.size (.slice (some ⟨w6.heap.size, 0, none⟩) 1 1) [(F : Int)] (owns_of_block (Nat.le_refl _) (heap_alloc_new w6 (.cells #[.int .i64 (F : Int)] 3)) (by simp)) o6 c6 rest (I6.out.below ba (Nat.le_refl _)) (by simp) (by omega) ba.size 27
          have HR7 := hidE r7
          have HP7 := hidE (ownsRow_base p7 B6.out.size)
          have B7 := hidE (B6.out.trans ((ba.trans q7).mono B6.out.size))
          obtain ⟨o7, c7, e7, _, _⟩ := intsAt_of_owns (l := [(F : Int)] ++ rest) p7
          obtain ⟨n7, hn7⟩ : ∃ n, ([(F : Int)] ++ rest).length = n := ⟨_, rfl⟩
          rw [hn7] at e7 HP7
          subst e7
          clear r7 p7 q7 ba hrest hrl n0' n1' n2' n3' n4' k0 k1 k2 k3 k4 c0 c1 g0 g1 g2 hS0 wL hLK wK wY
          go_wp2_with (at_builtin; refine wpList_op_append rfl (s := .tmp 107) (x := .tmp 108) (t := 27) rfl rfl rfl HR7.out ?_)
          go_ret3
          refine ⟨?_, B7.out⟩
          rw [HE2.out]
          refine ⟨_, rfl, ?_⟩
          show W7.ownsRow w.heap.size 3 1 _ ([(F : Int)] ++ rest).length (intsV ([(F : Int)] ++ rest))
          rw [hn7]
          exact HP7.out
    · have hk : keptP R bs = true := by
        unfold keptP
        cases hh : openedP R bs with
        | none => exact absurd hh ho
        | some t => rfl
      have hE : circleP R bs = ([], false, 0) := by unfold circleP; rw [if_neg (by simp [hc]), if_pos (by simpa [keptP] using hk)]
      rw [hk] at hcs
      have HCK := hidE hck
      have HCS := hidE hcs
      have HE := hidE hE
      clear hck hcs hE hv hk ho nv hc hN
      go_enter Try.func74, Try.ntmps74
      go_wp2_with fail
      refine HCK.out.mono ?_
      rintro e w1 ⟨rfl, hb1⟩
      have X1 := hidE (blk_below hb1 (by simp) (heap_alloc_new w (.cells #[.int .i64 (R : Int), .slice a bs.length cap] 24)))
      have c0 : w1.cell? ⟨w.heap.size, 0, none⟩ = some (.int .i64 (R : Int)) := by rw [cell_of_row _ _ _ _ _ _ X1.out]; rfl
      have c1 : w1.cell? ⟨w.heap.size, 1, none⟩ = some (.slice a bs.length cap) := by rw [cell_of_row _ _ _ _ _ _ X1.out]; rfl
      have B1 := hidE (hB0.trans (hb1.mono hB0.size))
      clear hb1
      go_wp2_with fail
      refine (HCS.out _ (H.out.below B1.out (Nat.le_refl _))).mono ?_
      rintro e w2 ⟨rfl, hb2⟩
      go_wp2_with fail
      go_ret3
      refine ⟨?_, B1.out.trans (hb2.mono B1.out.size)⟩
      rw [HE.out]
      exact ⟨_, rfl, World.ownsRow_nil _ _ _ _⟩
  · have hE : circleP N bs = ([], false, checkP N bs) := by unfold circleP; rw [if_pos hc]
    obtain ⟨c, hcc⟩ : ∃ c, checkP N bs = c := ⟨_, rfl⟩
    rw [hcc] at hE hc hck
    have hc2 : (c != 0) = true := by simpa using hc
    have HCK := hidE hck
    have HE := hidE hE
    clear hE hc hck hcc hN
    go_enter Try.func74, Try.ntmps74
    go_wp2_with fail
    refine HCK.out.mono ?_
    rintro e w1 ⟨rfl, hb1⟩
    go_wp2_with fail
    go_ret3
    refine ⟨?_, hB0.trans (hb1.mono hB0.size)⟩
    rw [HE.out]
    exact ⟨_, rfl, World.ownsRow_nil _ _ _ _⟩

end Go.Proofs.Ytejbpoclfjkllaa
