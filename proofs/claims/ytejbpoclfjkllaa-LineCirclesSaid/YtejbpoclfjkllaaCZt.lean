/- Walks: the reference's Consistent, CheckCircle. Conditions: a list of at most 2000 numbers. -/
import Derived.Test.YtejbpoclfjkllaaCZp
import Derived.Test.YtejbpoclfjkllaaCYb
import Derived.Test.YtejbpoclfjkllaaCY4
namespace Go.Proofs.Ytejbpoclfjkllaa
open Go Go.RowKit Go.Shelf

set_option maxRecDepth 100000 in
set_option maxHeartbeats 1000000 in
theorem refconsistentE_any (w : World) (N : Int) (a : Option Addr) (cap : Nat) (bs : List Bd) (hN : i64ok N) (hl : bs.length ≤ 9223372036854775807) (h : BoundsAt w a bs) :
    Calls Try.prog 72 #[.agg #[.int .i64 N, .slice a bs.length cap]] w fun e w' => e = .returned (.tuple #[.bool (consistentE N bs).1, .int .i64 (consistentE N bs).2]) ∧ Below w.heap.size w w' := by
  have hB0 : Below w.heap.size w (w.alloc (.cells #[.int .i64 N, .slice a bs.length cap] 24)) := (Below.refl _ _).alloc (Nat.le_refl _) _
  have hck := refcheck_any (w.alloc (.cells #[.int .i64 N, .slice a bs.length cap] 24)) N a cap bs hN hl (h.alloc _)
  have H := hidE h
  clear h
  by_cases hc : checkP N bs = 0
  · obtain ⟨n0, n1, n2, nv⟩ := checkP_zero hc
    rw [hc] at hck
    obtain ⟨R, rfl⟩ := Int.eq_ofNat_of_zero_le (show 0 ≤ N by omega)
    have hv : AllValid R bs := fun b hb => (nv b hb).1
    have hcs := fun W hb => refconsistent_any W R a cap bs (by omega) (by omega) (by omega) hb hv
    rw [keptR_eq (by omega) hv] at hcs
    have hE : consistentE R bs = (keptP R bs, 0) := by unfold consistentE; rw [if_pos hc]; rfl
    obtain ⟨q, hq⟩ : ∃ q, keptP R bs = q := ⟨_, rfl⟩
    rw [hq] at hcs hE
    have HCK := hidE hck
    have HE := hidE hE
    have HCS := hidE hcs
    clear hck hE hcs hq nv hc hv hN
    go_enter Try.func72, Try.ntmps72
    go_wp2_with fail
    refine HCK.out.mono ?_
    rintro e w1 ⟨rfl, hb1⟩
    have X1 := hidE (blk_below hb1 (by simp) (heap_alloc_new w (.cells #[.int .i64 (R : Int), .slice a bs.length cap] 24)))
    have c0 : w1.cell? ⟨w.heap.size, 0, none⟩ = some (.int .i64 (R : Int)) := by rw [cell_of_row _ _ _ _ _ _ X1.out]; rfl
    have c1 : w1.cell? ⟨w.heap.size, 1, none⟩ = some (.slice a bs.length cap) := by rw [cell_of_row _ _ _ _ _ _ X1.out]; rfl
    have B1 := hidE (hB0.trans (hb1.mono hB0.size))
    clear hb1
    go_wp2_with fail
    refine (HCS.out _ (H.out.below B1.out (Nat.le_refl _))).mono ?_
    rintro e w2 ⟨rfl, hb2⟩
    go_wp2_with fail
    go_ret2
    exact ⟨by rw [HE.out]; rfl, B1.out.trans (hb2.mono B1.out.size)⟩
  · have hE : consistentE N bs = (false, checkP N bs) := by unfold consistentE; rw [if_neg hc]
    obtain ⟨c, hcc⟩ : ∃ c, checkP N bs = c := ⟨_, rfl⟩
    rw [hcc] at hE hc hck
    have hc2 : (c != 0) = true := by simpa using hc
    have HCK := hidE hck
    have HE := hidE hE
    clear hE hc hck hcc hN
    go_enter Try.func72, Try.ntmps72
    go_wp2_with fail
    refine HCK.out.mono ?_
    rintro e w1 ⟨rfl, hb1⟩
    go_wp2_with fail
    go_ret2
    exact ⟨by rw [HE.out]; rfl, hB0.trans (hb1.mono hB0.size)⟩

/-- The point that the bound at one place of a list leaves. -/
def srcAt (bs : List Bd) (l : List Int) (j : Nat) : Int := (bAt bs (l.getD j 0)).src
theorem srcs_nodup {bs : List Bd} {l : List Int} : (srcsP bs l).Nodup ↔ ∀ x y, x < y → y < l.length → srcAt bs l x ≠ srcAt bs l y := by
  unfold List.Nodup
  rw [List.pairwise_iff_getElem]
  have hlen : (srcsP bs l).length = l.length := by simp [srcsP]
  have hget : ∀ (i : Nat) (hi : i < (srcsP bs l).length), (srcsP bs l)[i] = srcAt bs l i := by
    intro i hi
    have hi2 : i < l.length := by omega
    simp [srcsP, srcAt, List.getD_eq_getElem?_getD, hi2]
  constructor
  · intro h x y hxy hy
    have := h x y (by omega) (by omega) hxy
    rw [hget, hget] at this
    exact this
  · intro h i j hi hj hij
    rw [hget, hget]
    exact h i j hij (by omega)
theorem circleOk_short {bs : List Bd} {l : List Int} (h : l.length < 2) : circleOkP bs l = false := by unfold circleOkP; rw [if_pos (.inl h)]
theorem circleOk_index {bs : List Bd} {l : List Int} (h : indexP bs.length l = false) : circleOkP bs l = false := by unfold circleOkP; rw [if_pos (.inr h)]
theorem circleOk_path {bs : List Bd} {l : List Int} (hl : l.length ≤ 2000) (h2 : ¬ l.length < 2) {s : Int} {o : Bool} (h : pathR bs (bAt bs (l.getD 0 0)).src l (bAt bs (l.getD 0 0)).src 0 = (s, o)) :
    circleOkP bs l = if o = true ∧ s < 0 then decide (srcsP bs l).Nodup else false := by
  by_cases hi : indexP bs.length l = true
  · have hs : sumP bs l (bAt bs (l.getD 0 0)).src (bAt bs (l.getD 0 0)).src = (s, o) := by
      unfold sumP; rw [if_neg (by omega), ← pathR_eq, h]
    unfold circleOkP
    rw [if_neg (by rw [hi]; simp; omega), hs]
    by_cases hn : (srcsP bs l).Nodup
    · rw [if_neg (by simpa using hn)]
      cases o <;> by_cases hs0 : s < 0 <;> simp [hs0, hn]
    · rw [if_pos hn]
      simp [hn]
  · have hi' : indexP bs.length l = false := by simpa using hi
    rw [circleOk_index hi']
    rw [pathR_eq, if_neg hi] at h
    cases h
    simp
theorem pathR_index {bs : List Bd} {l : List Int} {y A n s : Int} (h : pathR bs y l A n = (s, true)) : ∀ i ∈ l, 0 ≤ i ∧ i < bs.length := by
  refine indexP_iff.1 ?_
  by_cases hi : indexP bs.length l = true
  · exact hi
  · rw [pathR_eq, if_neg hi] at h; simp at h

set_option maxRecDepth 100000 in
set_option maxHeartbeats 4000000 in
theorem refcheckCircle_any (w : World) (N : Int) (a : Option Addr) (cap : Nat) (bs : List Bd) (a2 : Option Addr) (cap2 : Nat) (l : List Int) (hN : i64ok N) (hl : bs.length ≤ 9223372036854775807) (hl2 : l.length ≤ 2000) (h : BoundsAt w a bs) (h2 : IntsAt w a2 l) :
    Calls Try.prog 76 #[.agg #[.int .i64 N, .slice a bs.length cap], .slice a2 l.length cap2] w fun e w' => e = .returned (.tuple #[.bool (checkCircleP N bs l).1, .int .i64 (checkCircleP N bs l).2]) ∧ Below w.heap.size w w' := by
  have b0 : Below w.heap.size w (w.alloc (.cells #[.int .i64 N, .slice a bs.length cap] 24)) := (Below.refl _ _).alloc (Nat.le_refl _) _
  obtain ⟨cc, hcc⟩ : ∃ t, checkP N bs = t := ⟨_, rfl⟩
  have hck := fun W hb => refcheck_any W N a cap bs hN hl hb
  rw [hcc] at hck
  have B0 := hidE b0
  have H := hidE h
  have H2 := hidE h2
  have HCK := hidE hck
  have HCC := hidE hcc
  clear b0 h h2 hck hcc
  by_cases hc : cc = 0
  · subst hc
    obtain ⟨n0, n1, n2, nv⟩ := checkP_zero HCC.out
    have NV := hidE nv
    clear nv
    by_cases hshort : l.length < 2
    · have hd : decide ((l.length : Int) < 2) = true := by simp; omega
      have hE : checkCircleP N bs l = (false, 0) := by unfold checkCircleP; rw [if_neg (by simp [HCC.out]), circleOk_short hshort]
      have HE := hidE hE
      clear hE hshort
      go_enter Try.func76, Try.ntmps76
      go_wp2_with fail
      refine (HCK.out _ (H.out.alloc _)).mono ?_
      rintro e w1 ⟨rfl, hb1⟩
      have X1 := hidE (blk_below hb1 (by simp) (heap_alloc_new w (.cells #[.int .i64 N, .slice a bs.length cap] 24)))
      have c1 : w1.cell? ⟨w.heap.size, 1, none⟩ = some (.slice a bs.length cap) := by rw [cell_of_row _ _ _ _ _ _ X1.out]; rfl
      have B1 := hidE (B0.out.trans (hb1.mono B0.out.size))
      have J1 := H2.out.below B1.out (Nat.le_refl _)
      clear hb1
      clear J1
      go_wp2_with fail
      go_quiet (fail)
      go_wp2_with fail
      go_ret2
      exact ⟨by rw [HE.out]; rfl, B1.out.trans (below_drewN' _ _)⟩
    have hd0 : decide ((l.length : Int) < 2) = false := by simp; omega
    have hpos : 0 < l.length := by omega
    have hpos' : (0 : Int) < (l.length : Int) := by omega
    obtain ⟨v, hv⟩ : ∃ v, l.getD 0 0 = v := ⟨_, rfl⟩
    have hl0 : l[0] = v := by rw [← hv]; simp [List.getD_eq_getElem?_getD, hpos]
    by_cases hneg : v < 0
    · have hi : indexP bs.length l = false := by
        cases hh : indexP bs.length l with
        | false => rfl
        | true => have := indexP_iff.1 hh v (by rw [← hl0]; exact List.getElem_mem _); omega
      have hd1 : decide (v < 0) = true := decide_eq_true hneg
      have hE : checkCircleP N bs l = (false, 0) := by unfold checkCircleP; rw [if_neg (by simp [HCC.out]), circleOk_index hi]
      have HE := hidE hE
      have HL0 := hidE hl0
      clear hE hneg hi hv hl0
      go_enter Try.func76, Try.ntmps76
      go_wp2_with fail
      refine (HCK.out _ (H.out.alloc _)).mono ?_
      rintro e w1 ⟨rfl, hb1⟩
      have X1 := hidE (blk_below hb1 (by simp) (heap_alloc_new w (.cells #[.int .i64 N, .slice a bs.length cap] 24)))
      have c1 : w1.cell? ⟨w.heap.size, 1, none⟩ = some (.slice a bs.length cap) := by rw [cell_of_row _ _ _ _ _ _ X1.out]; rfl
      have B1 := hidE (B0.out.trans (hb1.mono B0.out.size))
      have J1 := H2.out.below B1.out (Nat.le_refl _)
      clear hb1
      obtain ⟨b2, off2, rfl, hbl2, d0⟩ := J1.at hpos
      rw [HL0.out, Nat.add_zero] at d0
      clear J1
      go_wp2_with fail
      go_quiet (fail)
      go_wp2_with fail
      go_ret2
      exact ⟨by rw [HE.out]; rfl, B1.out.trans (below_drewN' _ _)⟩
    obtain ⟨q, rfl⟩ := Int.eq_ofNat_of_zero_le (show 0 ≤ v by omega)
    have hd1 : decide ((q : Int) < 0) = false := decide_eq_false hneg
    by_cases hbig : bs.length ≤ q
    · have hi : indexP bs.length l = false := by
        cases hh : indexP bs.length l with
        | false => rfl
        | true => have := indexP_iff.1 hh q (by rw [← hl0]; exact List.getElem_mem _); omega
      have hd2 : decide (bs.length ≤ q) = true := decide_eq_true hbig
      have hE : checkCircleP N bs l = (false, 0) := by unfold checkCircleP; rw [if_neg (by simp [HCC.out]), circleOk_index hi]
      have HE := hidE hE
      have HL0 := hidE hl0
      clear hE hneg hi hv hl0
      go_enter Try.func76, Try.ntmps76
      go_wp2_with fail
      refine (HCK.out _ (H.out.alloc _)).mono ?_
      rintro e w1 ⟨rfl, hb1⟩
      have X1 := hidE (blk_below hb1 (by simp) (heap_alloc_new w (.cells #[.int .i64 N, .slice a bs.length cap] 24)))
      have c1 : w1.cell? ⟨w.heap.size, 1, none⟩ = some (.slice a bs.length cap) := by rw [cell_of_row _ _ _ _ _ _ X1.out]; rfl
      have B1 := hidE (B0.out.trans (hb1.mono B0.out.size))
      have J1 := H2.out.below B1.out (Nat.le_refl _)
      clear hb1
      obtain ⟨b2, off2, rfl, hbl2, d0⟩ := J1.at hpos
      rw [HL0.out, Nat.add_zero] at d0
      clear J1
      go_wp2_with fail
      go_quiet (fail)
      go_wp2_with fail
      go_ret2
      exact ⟨by rw [HE.out]; rfl, B1.out.trans (below_drewN' _ _)⟩
    have hd2 : decide (bs.length ≤ q) = false := decide_eq_false hbig
    have hq : q < bs.length := by omega
    have qL : (q : Int) < (bs.length : Int) := by omega
    obtain ⟨xs, hxs⟩ : ∃ x, bs[q].src = x := ⟨_, rfl⟩
    have hbat : (bAt bs (l.getD 0 0)).src = xs := by rw [hv, bAt_nat hq]; exact hxs
    have hpt := fun W hb hb2 => refpath_any W N a cap bs a2 cap2 l xs xs hl (by omega) (fun b hb => by obtain ⟨z, _⟩ := NV.out b hb; exact ⟨z.2.2.2.2.1, z.2.2.2.2.2⟩) hb hb2
    obtain ⟨⟨s, o⟩, hso⟩ : ∃ z, pathR bs xs l xs 0 = z := ⟨_, rfl⟩
    have hco := circleOk_path (bs := bs) hl2 hshort (s := s) (o := o) (by rw [hbat]; exact hso)
    rw [hso] at hpt
    simp only at hpt
    have hE : checkCircleP N bs l = (if o = true ∧ s < 0 then decide (srcsP bs l).Nodup else false, 0) := by unfold checkCircleP; rw [if_neg (by simp [HCC.out]), hco]
    have hidx : o = true → ∀ i ∈ l, 0 ≤ i ∧ i < bs.length := fun e => pathR_index (by rw [hso, e])
    have HIDX := hidE hidx
    have HE := hidE hE
    have HPT := hidE hpt
    have HL0 := hidE hl0
    have HXS := hidE hxs
    clear hv hl0 hneg hbig hshort hbat hpt hso hco hE hidx hxs
    go_enter Try.func76, Try.ntmps76
    go_wp2_with fail
    refine (HCK.out _ (H.out.alloc _)).mono ?_
    rintro e w1 ⟨rfl, hb1⟩
    have X1 := hidE (blk_below hb1 (by simp) (heap_alloc_new w (.cells #[.int .i64 N, .slice a bs.length cap] 24)))
    have c1 : w1.cell? ⟨w.heap.size, 1, none⟩ = some (.slice a bs.length cap) := by rw [cell_of_row _ _ _ _ _ _ X1.out]; rfl
    have B1 := hidE (B0.out.trans (hb1.mono B0.out.size))
    have J1 := H2.out.below B1.out (Nat.le_refl _)
    clear hb1
    obtain ⟨b2, off2, rfl, hbl2, d0⟩ := J1.at hpos
    rw [HL0.out, Nat.add_zero] at d0
    obtain ⟨b3, off3, rfl, hbl3, f0, _, _, _⟩ := (H.out.below B1.out (Nat.le_refl _)).at hq
    rw [HXS.out] at f0
    clear J1
    have q0L : (0 : Int) < (l.length : Int) := hpos'
    go_wp2_with fail
    go_quiet (fail)
    obtain ⟨Y0, hY0⟩ : ∃ Y, Y = w1.drewN nq := ⟨_, rfl⟩
    rw [← hY0]
    have b10 : Below w1.heap.size w1 Y0 := by rw [hY0]; exact below_drewN' _ _
    have c1' : Y0.cell? ⟨w.heap.size, 1, none⟩ = some (.slice (some ⟨b3, off3, none⟩) bs.length cap) := by rw [hY0]; exact c1
    have d0' : Y0.cell? ⟨b2, off2, none⟩ = some (.int .i64 (q : Int)) := by rw [hY0]; exact d0
    have f0' : Y0.cell? ⟨b3, off3 + q * 4, none⟩ = some (.int .i64 xs) := by rw [hY0]; exact f0
    have B10 := hidE b10
    clear hY0 b10 c1 d0 f0
    go_wp2_with fail
    go_quiet (fail)
    obtain ⟨Y, hY⟩ : ∃ Y, Y = Y0.drewN nq := ⟨_, rfl⟩
    rw [← hY]
    have bY : Below w1.heap.size w1 Y := by rw [hY]; exact B10.out.trans (below_drewN' _ _)
    have X2 := hidE (blk_below bY (lt_of_block X1.out) X1.out)
    have B2 := hidE (B1.out.trans (bY.mono B1.out.size))
    have e0 : Y.cell? ⟨w.heap.size, 0, none⟩ = some (.int .i64 N) := by rw [cell_of_row _ _ _ _ _ _ X2.out]; rfl
    have e1 : Y.cell? ⟨w.heap.size, 1, none⟩ = some (.slice (some ⟨b3, off3, none⟩) bs.length cap) := by rw [cell_of_row _ _ _ _ _ _ X2.out]; rfl
    clear hY bY c1' d0' f0'
    go_wp2_with fail
    refine (HPT.out _ (H.out.below B2.out (Nat.le_refl _)) (H2.out.below B2.out (Nat.le_refl _))).mono ?_
    rintro e w3 ⟨rfl, hb3⟩
    have X3 := hidE (blk_below hb3 (lt_of_block X2.out) X2.out)
    have B3 := hidE (B2.out.trans (hb3.mono B2.out.size))
    clear e0 e1 hb3
    cases o with
    | false =>
      have HE2 := hidE (HE.out.trans (by rw [if_neg (by simp)]))
      go_wp2_with fail
      go_ret2
      exact ⟨by rw [HE2.out]; rfl, B3.out⟩
    | true =>
      by_cases hs0 : 0 ≤ s
      · have hd3 : decide (s ≥ 0) = true := decide_eq_true hs0
        have HE2 := hidE (HE.out.trans (by rw [if_neg (by omega)]))
        go_wp2_with fail
        go_ret2
        exact ⟨by rw [HE2.out]; rfl, B3.out⟩
      · have hd3 : decide (s ≥ 0) = false := decide_eq_false hs0
        have HE2 := hidE (HE.out.trans (by rw [if_pos ⟨rfl, by omega⟩]))
        have HALL := hidE (HIDX.out rfl)
        clear HIDX hs0
        have hat : ∀ (W : World), Below w.heap.size w W → ∀ j (hj : j < l.length), ∃ qq : Nat, W.cell? ⟨b2, off2 + j, none⟩ = some (.int .i64 (qq : Int)) ∧ qq < bs.length ∧ W.cell? ⟨b3, off3 + qq * 4, none⟩ = some (.int .i64 (srcAt bs l j)) := by
          intro W hb j hj
          have hr := HALL.out l[j] (List.getElem_mem hj)
          obtain ⟨b2', off2', e2, _, z⟩ := (H2.out.below hb (Nat.le_refl _)).at hj
          cases e2
          have hqq : (l[j].toNat) < bs.length := by omega
          obtain ⟨b3', off3', e3, _, z0, _, _, _⟩ := (H.out.below hb (Nat.le_refl _)).at hqq
          cases e3
          refine ⟨l[j].toNat, by rw [z]; congr 2; omega, hqq, ?_⟩
          rw [z0]
          congr 2
          unfold srcAt
          have : l.getD j 0 = ((l[j].toNat : Nat) : Int) := by simp [List.getD_eq_getElem?_getD, hj]; omega
          rw [this, bAt_nat hqq]
        have HAT := hidE hat
        clear hat
        go_wp2_with fail
        go_loopw [10] (fun i wr => ∃ k : Nat, k ≤ l.length ∧ i = .int .i64 k ∧ Hid (∀ x y, x < y → y < k → srcAt bs l x ≠ srcAt bs l y) ∧ Hid (Below w3.heap.size w3 wr)) (fun i _ => l.length - (intOf i).toNat)
        case atStart => exact ⟨0, by omega, rfl, hidE (fun x y _ hy => by omega), hidE (Below.refl _ _)⟩
        case round =>
          obtain ⟨k, hk, rfl, hno, hb⟩ := hrel
          by_cases hlt : k < l.length
          · have kL : (k : Int) < (l.length : Int) := by omega
            obtain ⟨wO, rfl⟩ : ∃ x : World, x = wr := ⟨wr, rfl⟩
            go_wp2_with fail
            go_loopw [11] (fun i wx => ∃ j : Nat, j ≤ k ∧ i = .int .i64 j ∧ Hid (∀ x, x < j → srcAt bs l x ≠ srcAt bs l k) ∧ Hid (Below w3.heap.size w3 wx)) (fun i _ => k - (intOf i).toNat)
            case atStart => exact ⟨0, by omega, rfl, hidE (fun x hx => by omega), hb⟩
            case round =>
              obtain ⟨j, hj, rfl, hno2, hb2⟩ := hrel
              by_cases hjk : j < k
              · have jL : (j : Int) < (l.length : Int) := by omega
                have X4 := hidE (blk_below hb2.out (lt_of_block X3.out) X3.out)
                have e1 : wr.cell? ⟨w.heap.size, 1, none⟩ = some (.slice (some ⟨b3, off3, none⟩) bs.length cap) := by rw [cell_of_row _ _ _ _ _ _ X4.out]; rfl
                have bw := B3.out.trans (hb2.out.mono B3.out.size)
                obtain ⟨q1, y0, y1, y2⟩ := HAT.out wr bw k hlt
                obtain ⟨q2, z0, z1, z2⟩ := HAT.out wr bw j (by omega)
                have q1L : (q1 : Int) < (bs.length : Int) := by omega
                have q2L : (q2 : Int) < (bs.length : Int) := by omega
                obtain ⟨s1, hs1⟩ : ∃ z, srcAt bs l k = z := ⟨_, rfl⟩
                obtain ⟨s2, hs2⟩ : ∃ z, srcAt bs l j = z := ⟨_, rfl⟩
                rw [hs1] at y2
                rw [hs2] at z2
                by_cases hss : s1 = s2
                · have hd5 : (s1 == s2) = true := by simpa using hss
                  have hnd : ¬ (srcsP bs l).Nodup := fun hn => srcs_nodup.1 hn j k hjk hlt (by rw [hs1, hs2]; exact hss.symm)
                  have HE3 := hidE (HE2.out.trans (by rw [decide_eq_false hnd]))
                  have BW := hidE bw
                  clear hnd hss hs1 hs2 bw
                  go_wp2_with fail
                  go_quiet (fail)
                  go_wp2_with fail
                  go_ret2
                  exact ⟨by rw [HE3.out]; rfl, BW.out.trans (below_drewN' _ _)⟩
                · have hd5 : (s1 == s2) = false := by simpa using hss
                  have hnn := hidE (show srcAt bs l j ≠ srcAt bs l k by rw [hs1, hs2]; exact fun e => hss e.symm)
                  clear hss hs1 hs2 bw
                  go_wp2_with fail
                  go_quiet (fail)
                  go_wp2_with fail
                  go_roundw
                  case rel => exact ⟨j + 1, by omega, by go_num, hidE (fun x hx => by
                    by_cases e : x = j
                    · subst e; exact hnn.out
                    · exact hno2.out x (by omega)), hidE (hb2.out.trans (below_drewN' _ _))⟩
                  case measure => simp [intOf]; omega
              · obtain rfl : j = k := by omega
                go_wp2_with fail
                go_roundw
                case rel => exact ⟨j + 1, by omega, by go_num, hidE (fun x y hxy hy => by
                  by_cases e : y = j
                  · subst e; exact hno2.out x hxy
                  · exact hno.out x y hxy (by omega)), hb2⟩
                case measure => simp [intOf]; omega
          · have hnd : (srcsP bs l).Nodup := srcs_nodup.2 (fun x y hxy hy => hno.out x y hxy (by omega))
            have HE3 := hidE (HE2.out.trans (by rw [decide_eq_true hnd]))
            have BW := hidE (B3.out.trans (hb.out.mono B3.out.size))
            clear hnd
            go_wp2_with fail
            go_ret2
            exact ⟨by rw [HE3.out]; rfl, BW.out⟩
  · have hb : (cc != 0) = true := by simpa using hc
    have hE : checkCircleP N bs l = (false, cc) := by unfold checkCircleP; rw [if_pos (by rw [HCC.out]; exact hc), HCC.out]
    have HE := hidE hE
    clear hE hc
    go_enter Try.func76, Try.ntmps76
    go_wp2_with fail
    refine (HCK.out _ (H.out.alloc _)).mono ?_
    rintro e w1 ⟨rfl, hb1⟩
    have X1 := hidE (blk_below hb1 (by simp) (heap_alloc_new w (.cells #[.int .i64 N, .slice a bs.length cap] 24)))
    have c1 : w1.cell? ⟨w.heap.size, 1, none⟩ = some (.slice a bs.length cap) := by rw [cell_of_row _ _ _ _ _ _ X1.out]; rfl
    have B1 := hidE (B0.out.trans (hb1.mono B0.out.size))
    have J1 := H2.out.below B1.out (Nat.le_refl _)
    clear hb1
    clear J1
    go_wp2_with fail
    go_ret2
    exact ⟨by rw [HE.out]; rfl, B1.out⟩

end Go.Proofs.Ytejbpoclfjkllaa
