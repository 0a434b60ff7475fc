/- Walk: the law LineBlamed. -/
import Derived.Test.YtejbpoclfjkllaaA5
import Derived.Test.YtejbpoclfjkllaaCY4
import Derived.Test.YtejbpoclfjkllaaCYb
import Derived.Test.YtejbpoclfjkllaaCYh
import Derived.Test.YtejbpoclfjkllaaP2
namespace Go.Proofs.Ytejbpoclfjkllaa
open Go Go.RowKit Go.Shelf

/-- A part of a valid system is valid. -/
theorem checkP_part {N : Int} {bs cs : List Bd} (h : checkP N bs = 0) (hl : cs.length ≤ bs.length) (hs : ∀ x ∈ cs, x ∈ bs) : checkP N cs = 0 := by
  unfold checkP at h ⊢
  split at h
  · simp at h
  · rename_i h1
    rw [if_neg (by omega)]
    unfold checkedP at h ⊢
    split at h
    · simp at h
    · rename_i h2
      rw [if_neg h2]
      split at h
      · simp at h
      · rename_i h3
        rw [if_neg]
        intro h4
        obtain ⟨x, hx, hb⟩ := List.any_eq_true.1 h4
        exact h3 (List.any_eq_true.2 ⟨x, hs x hx, hb⟩)

/-- An index whose bound has the record r. -/
def hitR (bs : List Bd) (r i : Int) : Bool := decide (0 ≤ i) && (decide (i < (bs.length : Int)) && decide ((bAt bs i).rcd = r))
def fndR (bs : List Bd) (r : Int) (l : List Int) (j : Nat) : Bool := (l.take j).any (hitR bs r)
theorem fndR_succ {bs : List Bd} {r : Int} {l : List Int} {j : Nat} (hj : j < l.length) : fndR bs r l (j + 1) = (fndR bs r l j || hitR bs r l[j]) := by
  unfold fndR
  rw [List.take_succ_eq_append_getElem hj, List.any_append]
  simp

/-- What LineBlamed looks at. -/
theorem blamed_law {N : Int} {bs : List Bd} {l : List Int} {L : List Int} {e : Int} (h : blameE N bs = (L, e)) :
    (e ≠ 0 ∧ L = [] ∧ (checkCircleP N bs l).2 = e) ∨ (e = 0 ∧ checkP N bs = 0 ∧ checkCircleP N bs l = (circleOkP bs l, 0) ∧ consistentE N bs = (keptP N bs, 0) ∧ (keptP N bs = true → L = []) ∧ L.length ≤ bs.length ∧
      ∀ r ∈ L, 1 ≤ r ∧ withoutE N bs [r] = (N, withoutP bs [r], 0) ∧ consistentE N (withoutP bs [r]) = (true, 0) ∧ (circleOkP bs l = true → fndR bs r l l.length = true)) := by
  unfold blameE at h
  by_cases hc : checkP N bs = 0
  · rw [if_pos hc] at h
    obtain ⟨R, rfl, r0, r1, hlen, hv⟩ := allValid_of hc
    right
    have h1 : checkCircleP R bs l = (circleOkP bs l, 0) := by unfold checkCircleP; rw [if_neg (by simp [hc])]
    have h2 : consistentE R bs = (keptP R bs, 0) := by unfold consistentE; rw [if_pos hc]; rfl
    by_cases hk : (openedP R bs).isSome = true
    · rw [if_pos hk] at h
      simp only [Prod.mk.injEq] at h
      obtain ⟨rfl, rfl⟩ := h
      exact ⟨rfl, hc, h1, h2, fun _ => rfl, by simp, fun r hr => by simp at hr⟩
    · rw [if_neg hk] at h
      simp only [Prod.mk.injEq] at h
      obtain ⟨rfl, rfl⟩ := h
      refine ⟨rfl, hc, h1, h2, fun hk2 => absurd hk2 hk, ?_, fun r hr => ?_⟩
      · have q1 := List.length_filter_le (blamed R bs) (recordsP bs)
        have q2 := recordsP_len bs
        omega
      · obtain ⟨m1, m2⟩ := List.mem_filter.1 hr
        obtain ⟨b, hb, p1, p2⟩ := mem_recordsP.1 m1
        have hsub : ∀ x ∈ withoutP bs [r], x ∈ bs := fun x hx => withoutP_mem hx
        have hcw : checkP R (withoutP bs [r]) = 0 := checkP_part hc (withoutP_len _ _) hsub
        refine ⟨by omega, ?_, ?_, fun hok => ?_⟩
        · unfold withoutE; rw [if_pos hc]
        · unfold consistentE; rw [if_pos hcw]; unfold blamed at m2; rw [m2]
        · obtain ⟨i, hi, i0, i1, i2⟩ := blamed_in r1 hv (r := r) (cs := withoutP bs [r]) (fun x hx hne => by
            unfold withoutP
            rw [List.mem_filter]
            exact ⟨hx, by simp [hne]⟩) hsub m2 hok
          unfold fndR
          rw [List.take_of_length_le (Nat.le_refl _), List.any_eq_true]
          exact ⟨i, hi, by unfold hitR; simp [i0, i1, i2]⟩
  · rw [if_neg hc] at h
    simp only [Prod.mk.injEq] at h
    obtain ⟨rfl, rfl⟩ := h
    exact .inl ⟨hc, rfl, by unfold checkCircleP; rw [if_pos hc]⟩

set_option maxRecDepth 100000 in
set_option maxHeartbeats 8000000 in
theorem lineBlamed_any (w : World) (N : Int) (a : Option Addr) (cap : Nat) (bs : List Bd) (a2 : Option Addr) (cap2 : Nat) (l : List Int) (hN : i64ok N) (hl : bs.length ≤ 9223372036854775807) (hl2 : l.length ≤ 9223372036854775807) (h : BoundsAt w a bs) (hsl : SliceOk a bs.length cap) (h2 : IntsAt w a2 l) :
    Calls Try.prog 22 #[.agg #[.int .i64 N, .slice a bs.length cap], .slice a2 l.length cap2] w fun e w' => e = .returned (.bool true) ∧ Below w.heap.size w w' := by
  have b0 : Below w.heap.size w (w.alloc (.cells #[.int .i64 N, .slice a bs.length cap] 24)) := (Below.refl _ _).alloc (Nat.le_refl _) _
  obtain ⟨f, hf⟩ : ∃ f, fewP N bs.length 14 40 = f := ⟨_, rfl⟩
  have hs := fun W => someL_any W N a cap bs.length
  rw [hf] at hs
  have B0 := hidE b0
  have HN := hidE hN
  have H := hidE h
  have H2 := hidE h2
  have HS := hidE hs
  clear b0 hN h h2 hs hf
  cases f with
  | false =>
    go_enter Try.func22, Try.ntmps22
    go_wp2_with fail
    refine (HS.out _).mono ?_
    rintro e w1 ⟨rfl, hb1⟩
    have B1 := hidE (B0.out.trans (hb1.mono B0.out.size))
    go_wp2_with fail
    refine (alive_any _).mono ?_
    rintro e w2 ⟨rfl, hb2⟩
    go_wp2_with fail
    go_ret
    exact ⟨rfl, B1.out.trans (hb2.mono B1.out.size)⟩
  | true =>
    by_cases hbig : 40 < l.length
    · have hd : decide ((l.length : Int) > 40) = true := by simp; omega
      go_enter Try.func22, Try.ntmps22
      go_wp2_with fail
      refine (HS.out _).mono ?_
      rintro e w1 ⟨rfl, hb1⟩
      have B1 := hidE (B0.out.trans (hb1.mono B0.out.size))
      go_wp2_with fail
      refine (alive_any _).mono ?_
      rintro e w2 ⟨rfl, hb2⟩
      go_wp2_with fail
      go_ret
      exact ⟨rfl, B1.out.trans (hb2.mono B1.out.size)⟩
    have hd1 : decide ((l.length : Int) > 40) = false := by simp; omega
    have q1 := fun W hb => blame_any W N a cap bs HN.out hl hsl hb
    have q2 := fun W hb hb2 => checkCircle_any W N a cap bs a2 cap2 l HN.out hl hl2 hb hb2
    have q3 := fun W hb => consistent_any W N a cap bs HN.out hl hb
    obtain ⟨⟨L, e⟩, hLe⟩ : ∃ t, blameE N bs = t := ⟨_, rfl⟩
    have hlaw := blamed_law (l := l) hLe
    rw [hLe] at q1
    obtain ⟨⟨cg, cf⟩, hcc⟩ : ∃ t, checkCircleP N bs l = t := ⟨_, rfl⟩
    rw [hcc] at q2 hlaw
    simp only at q1 q2
    have Q1 := hidE q1
    have Q2 := hidE q2
    have Q3 := hidE q3
    have HL := hidE hlaw
    clear q1 q2 q3 hLe hlaw hcc
    go_enter Try.func22, Try.ntmps22
    go_wp2_with fail
    refine (HS.out _).mono ?_
    rintro e w1 ⟨rfl, hb1⟩
    have x1 := blk_below hb1 (by simp) (heap_alloc_new w (.cells #[.int .i64 N, .slice a bs.length cap] 24))
    have e0 : w1.cell? ⟨w.heap.size, 0, none⟩ = some (.int .i64 N) := by rw [cell_of_row _ _ _ _ _ _ x1]; rfl
    have e1 : w1.cell? ⟨w.heap.size, 1, none⟩ = some (.slice a bs.length cap) := by rw [cell_of_row _ _ _ _ _ _ x1]; rfl
    have X1 := hidE x1
    have B1 := hidE (B0.out.trans (hb1.mono B0.out.size))
    clear x1 hb1
    go_wp2_with fail
    refine (Q1.out _ (H.out.below B1.out (Nat.le_refl _))).mono ?_
    rintro _ w2 ⟨⟨v2, rfl, ho2⟩, hb2⟩
    obtain ⟨o5, c5, rfl, hi5⟩ := owns_intsAt ho2
    have x2 := blk_below hb2 (lt_of_block X1.out) X1.out
    have f0 : w2.cell? ⟨w.heap.size, 0, none⟩ = some (.int .i64 N) := by rw [cell_of_row _ _ _ _ _ _ x2]; rfl
    have f1 : w2.cell? ⟨w.heap.size, 1, none⟩ = some (.slice a bs.length cap) := by rw [cell_of_row _ _ _ _ _ _ x2]; rfl
    have X2 := hidE x2
    have B2 := hidE (B1.out.trans (hb2.mono B1.out.size))
    have I2 := hidE hi5
    clear e0 e1 x2 hb2 ho2 hi5
    go_wp2_with fail
    refine (Q2.out _ (H.out.below B2.out (Nat.le_refl _)) (H2.out.below B2.out (Nat.le_refl _))).mono ?_
    rintro _ w3 ⟨rfl, hb3⟩
    have X3 := hidE (blk_below hb3 (lt_of_block X2.out) X2.out)
    have B3 := hidE (B2.out.trans (hb3.mono B2.out.size))
    have I3 := hidE (I2.out.below hb3 (Nat.le_refl _))
    clear f0 f1 hb3
    rcases HL.out with ⟨g1, g2, g3⟩ | ⟨g1, g2, g3, g4, g5, g6, g7⟩
    · subst g2
      subst g3
      have hb : (cf != 0) = true := by simpa using g1
      clear g1
      go_wp2_with fail
      refine (alive_any _).mono ?_
      rintro _ w4 ⟨rfl, hb4⟩
      go_wp2_with fail
      go_ret
      exact ⟨rfl, B3.out.trans (hb4.mono B3.out.size)⟩
    · subst g1
      simp only [Prod.mk.injEq] at g3
      obtain ⟨g3, g3'⟩ := g3
      subst g3'
      have q4 := Q3.out
      rw [g4] at q4
      obtain ⟨kp, hkp⟩ : ∃ k, keptP N bs = k := ⟨_, rfl⟩
      rw [hkp] at q4 g5
      rw [← g3] at g7
      have Q4 := hidE q4
      have G7 := hidE g7
      have hkl : kp = true → L = [] := g5
      clear g4 q4 hkp g3 g7 g5 HL Q1 Q2 Q3
      have e0 : w3.cell? ⟨w.heap.size, 0, none⟩ = some (.int .i64 N) := by rw [cell_of_row _ _ _ _ _ _ X3.out]; rfl
      have e1 : w3.cell? ⟨w.heap.size, 1, none⟩ = some (.slice a bs.length cap) := by rw [cell_of_row _ _ _ _ _ _ X3.out]; rfl
      go_wp2_with fail
      refine (Q4.out _ (H.out.below B3.out (Nat.le_refl _))).mono ?_
      rintro _ w4 ⟨rfl, hb4⟩
      have X4 := hidE (blk_below hb4 (lt_of_block X3.out) X3.out)
      have B4 := hidE (B3.out.trans (hb4.mono B3.out.size))
      have I4 := hidE (I3.out.below hb4 (Nat.le_refl _))
      clear e0 e1 hb4
      have hgo : ∀ P : Prop, ((kp = false → P) ∧ (kp = true → L = [] → P)) → P := fun P hP => by
        cases kp with
        | false => exact hP.1 rfl
        | true => exact hP.2 rfl (hkl rfl)
      clear hkl
      have hwo := fun W r hb hb2 => withoutS_any W N a cap bs (some ⟨W.heap.size, 0, none⟩) 1 [r] HN.out hl hsl hb (by simp) hb2
      have HWO := hidE (fun (W : World) (r : Int) (hW : Below w.heap.size w W) => withoutS_any (W.alloc (.cells #[.int .i64 r] 3)) N a cap bs (some ⟨W.heap.size, 0, none⟩) 1 [r] HN.out hl hsl ((H.out.below hW (Nat.le_refl _)).alloc _) (by simp) (ints_one W r))
      clear hwo
      refine hgo _ ⟨?_, ?_⟩
      rotate_left
      · intro hk hL
        subst hk
        subst hL
        clear hgo
        go_wp2_with fail
        go_loopw [74] (fun i wr => i = .int .i64 ((0 : Nat) : Int) ∧ wr = w4) (fun i _ => (intOf i).toNat)
        case atStart => exact ⟨rfl, rfl⟩
        case round =>
          obtain ⟨rfl, rfl⟩ := hrel
          go_wp2_with fail
          refine (alive_any _).mono ?_
          rintro _ w9 ⟨rfl, hb9⟩
          go_wp2_with fail
          go_ret
          exact ⟨rfl, B4.out.trans (hb9.mono B4.out.size)⟩
      · intro hk
        subst hk
        clear hgo
        go_wp2_with fail
        go_loopw [74] (fun i wr => ∃ k : Nat, k ≤ L.length ∧ i = .int .i64 k ∧ Hid (wr.heap[w.heap.size]? = some (.cells #[.int .i64 N, .slice a bs.length cap] 24 (0,0))) ∧ Hid (IntsAt wr o5 L) ∧ Hid (Below w.heap.size w wr)) (fun i _ => L.length - (intOf i).toNat)
        case atStart => exact ⟨0, by omega, rfl, X4, I4, B4⟩
        case round =>
          obtain ⟨k, hk, rfl, hx, hi, hb⟩ := hrel
          by_cases hlt : k < L.length
          · obtain ⟨r1, r2, r3, r4⟩ := G7.out L[k] (List.getElem_mem hlt)
            obtain ⟨b5, f5, rfl, hl5, cL⟩ := hi.out.at hlt
            obtain ⟨r, hr⟩ : ∃ r, L[k] = r := ⟨_, rfl⟩
            rw [hr] at r1 r2 r3 r4 cL
            have hwi := HWO.out wr r hb.out
            rw [r2] at hwi
            have e0 : wr.cell? ⟨w.heap.size, 0, none⟩ = some (.int .i64 N) := by rw [cell_of_row _ _ _ _ _ _ hx.out]; rfl
            have e1 : wr.cell? ⟨w.heap.size, 1, none⟩ = some (.slice a bs.length cap) := by rw [cell_of_row _ _ _ _ _ _ hx.out]; rfl
            have l0 : w.heap.size < wr.heap.size := lt_of_block hx.out
            have HWI := hidE hwi
            have R3 := hidE r3
            have R4 := hidE r4
            obtain ⟨K, hK⟩ : ∃ K, withoutP bs [r] = K := ⟨_, rfl⟩
            have hKl : K.length ≤ 9223372036854775807 := by rw [← hK]; have := withoutP_len bs [r]; omega
            rw [hK] at HWI R3
            clear hwi r2 r3 r4 hr hK
            obtain ⟨wA, rfl⟩ : ∃ x : World, x = wr := ⟨wr, rfl⟩
            go_wp2_with fail
            refine HWI.out.mono ?_
            rintro _ V5 ⟨hp, hb5⟩
            obtain ⟨o6, c6, rfl, hi6⟩ := sysPost_get hp
            simp only
            go_upto_region 14 with fail
            obtain ⟨w5, hW5⟩ : ∃ X, X = V5.alloc (.cells #[.int .i64 N, .slice o6 K.length c6] 24) := ⟨_, rfl⟩
            rw [← hW5]
            have hA5 : Below wA.heap.size wA V5 := ((Below.refl wA.heap.size wA).alloc (Nat.le_refl _) (.cells #[.int .i64 r] 3)).trans (hb5.mono (by simp))
            have hbb5 : Below wA.heap.size wA w5 := by rw [hW5]; exact hA5.alloc hA5.size _
            have hs5 : w5.heap[V5.heap.size]? = some (.cells #[.int .i64 N, .slice o6 K.length c6] 24 (0,0)) := by rw [hW5]; exact heap_alloc_new _ _
            have hk5 : BoundsAt w5 o6 K := by rw [hW5]; exact hi6.alloc _
            have X5 := hidE (blk_below hbb5 l0 hx.out)
            have B5 := hidE (hb.out.trans (hbb5.mono hb.out.size))
            have I5 := hidE (hi.out.below hbb5 (Nat.le_refl _))
            have g0 : w5.cell? ⟨V5.heap.size, 0, none⟩ = some (.int .i64 N) := by rw [cell_of_row _ _ _ _ _ _ hs5]; rfl
            have g1 : w5.cell? ⟨V5.heap.size, 1, none⟩ = some (.slice o6 K.length c6) := by rw [cell_of_row _ _ _ _ _ _ hs5]; rfl
            have hcs := consistent_any w5 N o6 c6 K HN.out hKl hk5
            rw [R3.out] at hcs
            have HCS := hidE hcs
            clear e0 e1 cL hb5 hp hi6 hW5 hA5 hbb5 hs5 hk5 hcs
            go_wp2_with fail
            refine HCS.out.mono ?_
            rintro _ w6 ⟨rfl, hb6⟩
            have X6 := hidE (blk_below hb6 (lt_of_block X5.out) X5.out)
            have B6 := hidE (B5.out.trans (hb6.mono B5.out.size))
            have I6 := hidE (I5.out.below hb6 (Nat.le_refl _))
            have J6 := hidE (H2.out.below B6.out (Nat.le_refl _))
            have K6 := hidE (H.out.below B6.out (Nat.le_refl _))
            clear g0 g1 hb6
            have e1 : w6.cell? ⟨w.heap.size, 1, none⟩ = some (.slice a bs.length cap) := by rw [cell_of_row _ _ _ _ _ _ X6.out]; rfl
            go_wp2_with fail
            go_loopw [17, 92] (fun s17 i wr => ∃ (j : Nat) (q : Bool), j ≤ l.length ∧ i = .int .i64 j ∧ s17 = .bool q ∧ wr = w6 ∧ Hid (fndR bs r l j = q)) (fun _ i _ => l.length - (intOf i).toNat)
            case atStart => exact ⟨0, false, by omega, rfl, rfl, rfl, hidE rfl⟩
            case round =>
              obtain ⟨j, q, hj, rfl, rfl, rfl, hq⟩ := hrel
              by_cases hjl : j < l.length
              · obtain ⟨b7, f7, rfl, hl7, cl⟩ := J6.out.at hjl
                have hsc := fndR_succ (bs := bs) (r := r) hjl
                obtain ⟨x, hxe⟩ : ∃ x, l[j] = x := ⟨_, rfl⟩
                rw [hxe] at cl hsc
                have HQ := hq
                cases q with
                | true =>
                  have hn : fndR bs r l (j + 1) = true := by rw [hsc, HQ.out]; rfl
                  have HNX := hidE hn
                  clear hn hsc hxe hq
                  go_wp2_with fail
                  go_roundw
                  case rel => exact ⟨j + 1, true, by omega, by go_num, rfl, by trivial, HNX⟩
                  case measure => simp [intOf]; omega
                | false =>
                  rw [HQ.out, Bool.false_or] at hsc
                  by_cases hneg : x < 0
                  · have hn : fndR bs r l (j + 1) = false := by rw [hsc]; unfold hitR; rw [show decide (0 ≤ x) = false by simp; omega]; rfl
                    have hd : decide (x ≥ 0) = false := by simp; omega
                    have HNX := hidE hn
                    clear hn hsc hxe hq
                    go_wp2_with fail
                    go_roundw
                    case rel => exact ⟨j + 1, false, by omega, by go_num, rfl, by trivial, HNX⟩
                    case measure => simp [intOf]; omega
                  · obtain ⟨m, rfl⟩ := Int.eq_ofNat_of_zero_le (show 0 ≤ x by omega)
                    have hd : decide ((m : Int) ≥ 0) = true := by simp
                    by_cases hge : bs.length ≤ m
                    · have hn : fndR bs r l (j + 1) = false := by rw [hsc]; unfold hitR; rw [show decide ((m : Int) < (bs.length : Int)) = false by simp; omega]; simp
                      have hd2 : decide ((m : Int) < (bs.length : Int)) = false := by simp; omega
                      have HNX := hidE hn
                      clear hn hsc hxe hq
                      go_wp2_with fail
                      go_roundw
                      case rel => exact ⟨j + 1, false, by omega, by go_num, rfl, by trivial, HNX⟩
                      case measure => simp [intOf]; omega
                    · have hml : m < bs.length := by omega
                      have mI : (m : Int) < (bs.length : Int) := by omega
                      have hd2 : decide ((m : Int) < (bs.length : Int)) = true := by simpa using mI
                      obtain ⟨b8, f8, rfl, hl8, hcs8⟩ := K6.out.at hml
                      obtain ⟨_, _, _, c3⟩ := hcs8
                      have hn : fndR bs r l (j + 1) = decide (bs[m].rcd = r) := by
                        rw [hsc]; unfold hitR; rw [bAt_at hml, hd2]; simp
                      obtain ⟨y, hy⟩ : ∃ y, bs[m].rcd = y := ⟨_, rfl⟩
                      rw [hy] at c3 hn
                      have HNX := hidE hn
                      clear hn hsc hxe hq hy hneg hge
                      by_cases hyr : y = r
                      · subst hyr
                        go_wp2_with fail
                        go_roundw
                        case rel => exact ⟨j + 1, true, by omega, by go_num, rfl, by trivial, hidE (by rw [HNX.out]; simp)⟩
                        case measure => simp [intOf]; omega
                      · have hyb : (y == r) = false := by simpa using hyr
                        go_wp2_with fail
                        go_roundw
                        case rel => exact ⟨j + 1, false, by omega, by go_num, rfl, by trivial, hidE (by rw [HNX.out]; simpa using hyr)⟩
                        case measure => simp [intOf]; omega
              · have hje : j = l.length := by omega
                have hfin : cg = true → q = true := fun hc => by rw [← hq.out, hje]; exact R4.out hc
                have hd3 : decide (r < 1) = false := by simp; omega
                have hgo2 : ∀ P : Prop, ((cg = false → P) ∧ (cg = true → q = true → P)) → P := fun P hP => by
                  cases cg with
                  | false => exact hP.1 rfl
                  | true => exact hP.2 rfl (hfin rfl)
                clear hfin hje
                refine hgo2 _ ⟨?_, ?_⟩
                · intro hc
                  subst hc
                  clear hgo2 e1
                  go_wp2_with fail
                  go_roundw
                  case rel => exact ⟨k + 1, by omega, by go_num, X6, I6, B6⟩
                  case measure => simp [intOf]; omega
                · intro hc hq2
                  subst hc
                  subst hq2
                  clear hgo2 e1
                  go_wp2_with fail
                  go_roundw
                  case rel => exact ⟨k + 1, by omega, by go_num, X6, I6, B6⟩
                  case measure => simp [intOf]; omega
          · go_wp2_with fail
            refine (alive_any _).mono ?_
            rintro _ w9 ⟨rfl, hb9⟩
            go_wp2_with fail
            go_ret
            exact ⟨rfl, hb.out.trans (hb9.mono hb.out.size)⟩

end Go.Proofs.Ytejbpoclfjkllaa
