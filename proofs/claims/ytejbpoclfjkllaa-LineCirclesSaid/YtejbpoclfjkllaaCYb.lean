/- Walk: CheckCircle. No conditions beyond those stated. -/
import Derived.Test.YtejbpoclfjkllaaCY9
import Derived.Test.YtejbpoclfjkllaaA1
import Derived.Deep.DeepCutAuto
namespace Go.Proofs.Ytejbpoclfjkllaa
open Go Go.RowKit Go.Shelf

/-- The points seen so far. -/
structure Seen (bs : List Bd) (l : List Int) (k : Nat) (fl : List Bool) : Prop where
  len : fl.length = 128
  nd : (srcsP bs (l.take k)).Nodup
  at_ : ∀ i, i < 128 → (fl.getD i false = true ↔ (i : Int) ∈ srcsP bs (l.take k))

theorem seen_zero (bs : List Bd) (l : List Int) : Seen bs l 0 repF128 :=
  ⟨by kernel_rfl, by simp [srcsP], fun i hi => by
    have e : repF128 = List.replicate 128 false := by kernel_rfl
    rw [e, List.getD_eq_getElem?_getD, List.getElem?_replicate, if_pos hi]
    simp [srcsP]⟩

theorem srcs_take {bs : List Bd} {l : List Int} {k q : Nat} (hk : k < l.length) (hq : q < bs.length) (e : l[k] = (q : Int)) : srcsP bs (l.take (k + 1)) = srcsP bs (l.take k) ++ [bs[q].src] := by
  rw [List.take_succ_eq_append_getElem hk]
  unfold srcsP
  rw [List.map_append, e]
  simp only [List.map_cons, List.map_nil]
  rw [bAt_nat hq]

theorem seen_next {bs : List Bd} {l : List Int} {k q s : Nat} {fl : List Bool} (h : Seen bs l k fl) (hk : k < l.length) (hq : q < bs.length) (e : l[k] = (q : Int)) (es : bs[q].src = (s : Int)) (hs : s < 128) (hf : fl.getD s false = false) : Seen bs l (k + 1) (fl.set s true) := by
  have hst := srcs_take hk hq e
  rw [es] at hst
  have hno : (s : Int) ∉ srcsP bs (l.take k) := fun hm => by rw [(h.at_ s hs).2 hm] at hf; simp at hf
  refine ⟨by rw [List.length_set]; exact h.len, ?_, fun i hi => ?_⟩
  · rw [hst]
    rw [List.nodup_append]
    refine ⟨h.nd, by simp, fun a ha b hb => ?_⟩
    simp only [List.mem_cons, List.not_mem_nil, or_false] at hb
    subst hb
    intro e2
    subst e2
    exact hno ha
  · rw [hst, List.mem_append, ← h.at_ i hi]
    simp only [List.mem_cons, List.not_mem_nil, or_false]
    rw [List.getD_eq_getElem?_getD, List.getElem?_set]
    by_cases e2 : s = i
    · subst e2
      rw [if_pos rfl, if_pos (by rw [h.len]; exact hs)]
      simp
    · rw [if_neg e2, ← List.getD_eq_getElem?_getD]
      constructor
      · exact .inl
      · rintro (h2 | h2)
        · exact h2
        · omega

theorem seen_twice {bs : List Bd} {l : List Int} {k q s : Nat} {fl : List Bool} (h : Seen bs l k fl) (hk : k < l.length) (hq : q < bs.length) (e : l[k] = (q : Int)) (es : bs[q].src = (s : Int)) (hs : s < 128) (hf : fl.getD s false = true) : ¬ (srcsP bs l).Nodup := by
  intro hn
  have hst := srcs_take hk hq e
  rw [es] at hst
  have hm := (h.at_ s hs).1 hf
  have e2 : srcsP bs l = srcsP bs (l.take (k + 1)) ++ srcsP bs (l.drop (k + 1)) := by
    unfold srcsP
    rw [← List.map_append, List.take_append_drop]
  rw [e2, hst] at hn
  have h1 := (List.nodup_append.1 (List.nodup_append.1 hn).1).2.2
  exact h1 _ hm _ (by simp) rfl

theorem seen_all {bs : List Bd} {l : List Int} {k : Nat} {fl : List Bool} (h : Seen bs l k fl) (hk : ¬ k < l.length) : (srcsP bs l).Nodup := by
  have := h.nd
  rwa [List.take_of_length_le (by omega)] at this

set_option maxRecDepth 100000 in
set_option maxHeartbeats 4000000 in
theorem checkCircle_any (w : World) (N : Int) (a : Option Addr) (cap : Nat) (bs : List Bd) (a2 : Option Addr) (cap2 : Nat) (l : List Int) (hN : i64ok N) (hl : bs.length ≤ 9223372036854775807) (hl2 : l.length ≤ 9223372036854775807) (h : BoundsAt w a bs) (h2 : IntsAt w a2 l) :
    Calls Try.prog 75 #[.agg #[.int .i64 N, .slice a bs.length cap], .slice a2 l.length cap2] w fun e w' => e = .returned (.tuple #[.bool (checkCircleP N bs l).1, .int .i64 (checkCircleP N bs l).2]) ∧ Below w.heap.size w w' := by
  have b0 : Below w.heap.size w (w.alloc (.cells #[.int .i64 N, .slice a bs.length cap] 24)) := (Below.refl _ _).alloc (Nat.le_refl _) _
  obtain ⟨cc, hcc⟩ : ∃ t, checkP N bs = t := ⟨_, rfl⟩
  have hck := fun W hb => check_any W N a cap bs hN hl hb
  rw [hcc] at hck
  have B0 := hidE b0
  have H := hidE h
  have H2 := hidE h2
  have HCK := hidE hck
  have HCC := hidE hcc
  clear b0 h h2 hck hcc
  by_cases hc : cc = 0
  · subst hc
    obtain ⟨n0, n1, n2, nv⟩ := checkP_zero HCC.out
    have hsm := fun W s hb hb2 => sum_any W N a cap bs a2 cap2 l s s hl hl2 (fun b hb => by obtain ⟨q, _⟩ := nv b hb; exact ⟨q.2.2.2.2.1, q.2.2.2.2.2⟩) hb hb2
    have hE : checkCircleP N bs l = (circleOkP bs l, 0) := by unfold checkCircleP; rw [if_neg (by simp [HCC.out])]
    have hidx := fun W hb => index_any W N a cap bs.length a2 cap2 l hl hl2 hb
    obtain ⟨ix, hix⟩ : ∃ t, indexP bs.length l = t := ⟨_, rfl⟩
    rw [hix] at hidx
    have HI := hidE hidx
    have HIX := hidE hix
    have HSM := hidE hsm
    have HE := hidE hE
    have NV := hidE nv
    have N1 := hidE n1
    clear hidx hix hsm hE n0 n1 n2 nv
    by_cases hlen : l.length < 2
    · have hd : decide ((l.length : Int) < 2) = true := by simp; omega
      have hco : circleOkP bs l = false := by unfold circleOkP; rw [if_pos (.inl hlen)]
      have HCO := hidE hco
      clear hco hlen
      go_enter Try.func75, Try.ntmps75
      go_wp2_with fail
      refine (HCK.out _ (H.out.alloc _)).mono ?_
      rintro e w1 ⟨rfl, hb1⟩
      have B1 := hidE (B0.out.trans (hb1.mono B0.out.size))
      clear hb1
      go_wp2_with fail
      go_ret2
      exact ⟨by rw [HE.out, HCO.out]; rfl, B1.out⟩
    have hd : decide ((l.length : Int) < 2) = false := by simp; omega
    cases ix with
    | false =>
      have hco : circleOkP bs l = false := by unfold circleOkP; rw [if_pos (.inr HIX.out)]
      have HCO := hidE hco
      clear hco hlen
      go_enter Try.func75, Try.ntmps75
      go_wp2_with fail
      refine (HCK.out _ (H.out.alloc _)).mono ?_
      rintro e w1 ⟨rfl, hb1⟩
      have y0 := blk_below hb1 (by simp) (heap_alloc_new w (.cells #[.int .i64 N, .slice a bs.length cap] 24))
      have e0 : w1.cell? ⟨w.heap.size, 0, none⟩ = some (.int .i64 N) := by rw [cell_of_row _ _ _ _ _ _ y0]; rfl
      have e1 : w1.cell? ⟨w.heap.size, 1, none⟩ = some (.slice a bs.length cap) := by rw [cell_of_row _ _ _ _ _ _ y0]; rfl
      have B1 := hidE (B0.out.trans (hb1.mono B0.out.size))
      clear hb1 y0
      go_wp2_with fail
      refine (HI.out _ (H2.out.below B1.out (Nat.le_refl _))).mono ?_
      rintro e w2 ⟨rfl, hb2⟩
      go_wp2_with fail
      go_ret2
      exact ⟨by rw [HE.out, HCO.out]; rfl, B1.out.trans (hb2.mono B1.out.size)⟩
    | true =>
      have HALL := hidE (indexP_iff.1 HIX.out)
      have HLEN := hidE hlen
      clear hlen
      go_enter Try.func75, Try.ntmps75
      go_wp2_with fail
      refine (HCK.out _ (H.out.alloc _)).mono ?_
      rintro e w1 ⟨rfl, hb1⟩
      have y0 := blk_below hb1 (by simp) (heap_alloc_new w (.cells #[.int .i64 N, .slice a bs.length cap] 24))
      have e0 : w1.cell? ⟨w.heap.size, 0, none⟩ = some (.int .i64 N) := by rw [cell_of_row _ _ _ _ _ _ y0]; rfl
      have e1 : w1.cell? ⟨w.heap.size, 1, none⟩ = some (.slice a bs.length cap) := by rw [cell_of_row _ _ _ _ _ _ y0]; rfl
      have B1 := hidE (B0.out.trans (hb1.mono B0.out.size))
      have Y0 := hidE y0
      clear hb1 y0
      go_wp2_with fail
      refine (HI.out _ (H2.out.below B1.out (Nat.le_refl _))).mono ?_
      rintro e w2 ⟨rfl, hb2⟩
      have y2 := blk_below hb2 (lt_of_block Y0.out) Y0.out
      have B2 := hidE (B1.out.trans (hb2.mono B1.out.size))
      have Y2 := hidE y2
      have hsz : w.heap.size < w2.heap.size := lt_of_block y2
      clear e0 e1 hb2 y2
      go_upto_region 7 with fail
      rw [zc120]
      obtain ⟨W3, hW3⟩ : ∃ W3, W3 = w2.alloc (.cells (boolA repF128) 120) := ⟨_, rfl⟩
      rw [← hW3]
      have hb3 : Below w2.heap.size w2 W3 := by rw [hW3]; exact (Below.refl _ _).alloc (Nat.le_refl _) _
      have z5 : W3.heap[w2.heap.size]? = some (.cells (boolA repF128) 120 (0,0)) := by rw [hW3]; exact heap_alloc_new _ _
      have HB3 := hidE hb3
      have Z5 := hidE z5
      clear hW3 hb3 z5
      go_wp2_with fail
      go_loopw [30] (fun i wr => ∃ (k : Nat) (fl : List Bool), k ≤ l.length ∧ i = .int .i64 k ∧ Hid (Seen bs l k fl) ∧ Hid (wr.heap[w2.heap.size]? = some (.cells (boolA fl) 120 (0,0))) ∧ Hid (Below w2.heap.size w2 wr)) (fun i _ => l.length - (intOf i).toNat)
      case atStart => exact ⟨0, repF128, by omega, rfl, hidE (seen_zero bs l), Z5, HB3⟩
      case round =>
        obtain ⟨k, fl, hk, rfl, HF, HZ, HB⟩ := hrel
        have xr := blk_below HB.out hsz Y2.out
        have e0 : wr.cell? ⟨w.heap.size, 0, none⟩ = some (.int .i64 N) := by rw [cell_of_row _ _ _ _ _ _ xr]; rfl
        have e1 : wr.cell? ⟨w.heap.size, 1, none⟩ = some (.slice a bs.length cap) := by rw [cell_of_row _ _ _ _ _ _ xr]; rfl
        have bw : Below w.heap.size w wr := B2.out.trans (HB.out.mono B2.out.size)
        have BW := hidE bw
        have XR := hidE xr
        clear xr bw
        by_cases hlt : k < l.length
        · obtain ⟨b, off, rfl, hbl, hck⟩ := (H2.out.below BW.out (Nat.le_refl _)).at hlt
          obtain ⟨q, hq⟩ : ∃ q : Nat, l[k] = (q : Int) := by
            have := HALL.out l[k] (List.getElem_mem hlt)
            exact ⟨l[k].toNat, by omega⟩
          have hqb : q < bs.length := by
            have := HALL.out l[k] (List.getElem_mem hlt)
            omega
          rw [hq] at hck
          obtain ⟨b2, off2, rfl, hbl2, hcs⟩ := (H.out.below BW.out (Nat.le_refl _)).at hqb
          obtain ⟨c0, c1, c2, c3⟩ := hcs
          obtain ⟨s, hs⟩ : ∃ s : Nat, bs[q].src = (s : Int) := by
            obtain ⟨v, _⟩ := NV.out bs[q] (List.getElem_mem hqb)
            have := v.1
            exact ⟨bs[q].src.toNat, by omega⟩
          have hs2 : s < 128 := by
            obtain ⟨v, _⟩ := NV.out bs[q] (List.getElem_mem hqb)
            have := v.2.1
            have := N1.out
            omega
          have hnx := fun hf => seen_next HF.out hlt hqb hq hs hs2 hf
          have htw := fun hf => seen_twice HF.out hlt hqb hq hs hs2 hf
          rw [hs] at c0
          have fc : wr.cell? ⟨w2.heap.size, s, none⟩ = some (.bool (fl.getD s false)) := by rw [cell_of_row _ _ _ _ _ _ HZ.out, boolA_get (by rw [HF.out.len]; exact hs2)]
          have ff : wr.frozen? ⟨w2.heap.size, s, none⟩ = false := frozen_of_row _ _ _ _ _ HZ.out
          obtain ⟨o, ho⟩ : ∃ o, fl.getD s false = o := ⟨_, rfl⟩
          rw [ho] at fc hnx htw
          have HNX := hidE hnx
          have HTW := hidE htw
          clear hq hs ho hnx htw c1 c2 c3
          cases o with
          | true =>
            have hco : circleOkP bs l = false := by
              unfold circleOkP
              rw [if_neg (by rintro (e | e); exact HLEN.out e; rw [HIX.out] at e; simp at e), if_pos (HTW.out rfl)]
            have HCO := hidE hco
            clear hco
            go_wp2_with fail
            go_ret2
            exact ⟨by rw [HE.out, HCO.out]; rfl, BW.out⟩
          | false =>
            have hn := HNX.out rfl
            have HN2 := hidE hn
            clear hn
            go_wp2_with fail
            go_roundw
            case rel => exact ⟨k + 1, fl.set s true, by omega, by go_num, HN2, hidE ((heap_setCell_same _ _ _ _ _ _ HZ.out).trans (by rw [boolA_set])), hidE (HB.out.setCell (Nat.le_refl _) _)⟩
            case measure => simp [intOf]; omega
        · have hnd := seen_all HF.out hlt
          have h0 : 0 < l.length := by have := HLEN.out; omega
          obtain ⟨b, off, rfl, hbl, hck⟩ := (H2.out.below BW.out (Nat.le_refl _)).at h0
          obtain ⟨q, hq⟩ : ∃ q : Nat, l[0] = (q : Int) := by
            have := HALL.out l[0] (List.getElem_mem h0)
            exact ⟨l[0].toNat, by omega⟩
          have hqb : q < bs.length := by
            have := HALL.out l[0] (List.getElem_mem h0)
            omega
          rw [hq] at hck
          obtain ⟨b2, off2, rfl, hbl2, hcs⟩ := (H.out.below BW.out (Nat.le_refl _)).at hqb
          obtain ⟨c0, c1, c2, c3⟩ := hcs
          obtain ⟨s, hs⟩ : ∃ s, bs[q].src = s := ⟨_, rfl⟩
          have hb0 : bAt bs (l.getD 0 0) = bs[q] := by
            rw [List.getD_eq_getElem?_getD, List.getElem?_eq_getElem h0, Option.getD_some, hq, bAt_nat hqb]
          have hco : circleOkP bs l = ((sumP bs l s s).2 && decide ((sumP bs l s s).1 < 0)) := by
            unfold circleOkP
            rw [if_neg (by rintro (e | e); exact HLEN.out e; rw [HIX.out] at e; simp at e), if_neg (by simpa using hnd), hb0, hs]
          rw [hs] at c0
          rw [Nat.add_zero] at hck
          have i0 : (0 : Int) < (l.length : Int) := by omega
          have iq : (q : Int) < (bs.length : Int) := by omega
          have hsm := fun W hb hb2 => HSM.out W s hb hb2
          obtain ⟨s1, hs1⟩ : ∃ t, (sumP bs l s s).1 = t := ⟨_, rfl⟩
          obtain ⟨s2, hs2⟩ : ∃ t, (sumP bs l s s).2 = t := ⟨_, rfl⟩
          rw [hs1, hs2] at hsm hco
          obtain ⟨c, hcm⟩ : ∃ c, decide (s1 < 0) = c := ⟨_, rfl⟩
          rw [hcm] at hco
          have HCO := hidE hco
          have HSS := hidE hsm
          clear hnd hq hs hb0 hco hsm hs1 hs2 c1 c2 c3
          go_wp2_with fail
          go_quiet (fail)
          obtain ⟨Y, hY⟩ : ∃ Y : World, Y = World.drewN wr nq := ⟨_, rfl⟩
          rw [← hY]
          have hbY : Below w2.heap.size w2 Y := by rw [hY]; exact HB.out.trans (below_drewN' _ _)
          have bY : Below w.heap.size w Y := B2.out.trans (hbY.mono B2.out.size)
          have xY := blk_below hbY hsz Y2.out
          have f0 : Y.cell? ⟨w.heap.size, 0, none⟩ = some (.int .i64 N) := by rw [cell_of_row _ _ _ _ _ _ xY]; rfl
          have f1 : Y.cell? ⟨w.heap.size, 1, none⟩ = some (.slice (some ⟨b2, off2, none⟩) bs.length cap) := by rw [cell_of_row _ _ _ _ _ _ xY]; rfl
          have BY := hidE bY
          clear hY hbY bY xY
          go_wp2_with fail
          refine (HSS.out _ (H.out.below BY.out (Nat.le_refl _)) (H2.out.below BY.out (Nat.le_refl _))).mono ?_
          rintro e w4 ⟨rfl, hb4⟩
          have B4 := hidE (BY.out.trans (hb4.mono BY.out.size))
          clear hb4
          cases s2 <;>
            (go_wp2_with fail
             go_ret2
             exact ⟨by rw [HE.out, HCO.out]; rfl, B4.out⟩)
  · have hb : (cc != 0) = true := by simpa using hc
    have hE : checkCircleP N bs l = (false, cc) := by unfold checkCircleP; rw [if_pos (by rw [HCC.out]; exact hc), HCC.out]
    have HE := hidE hE
    clear hE hc
    go_enter Try.func75, Try.ntmps75
    go_wp2_with fail
    refine (HCK.out _ (H.out.alloc _)).mono ?_
    rintro e w1 ⟨rfl, hb1⟩
    go_wp2_with fail
    go_ret2
    exact ⟨by rw [HE.out]; rfl, B0.out.trans (hb1.mono B0.out.size)⟩

end Go.Proofs.Ytejbpoclfjkllaa
