/- Walk: the law LineFixed. -/
import Derived.Test.YtejbpoclfjkllaaCZx
import Derived.Test.YtejbpoclfjkllaaCZn
import Derived.Test.YtejbpoclfjkllaaCY2
import Derived.Test.YtejbpoclfjkllaaA3b
import Derived.RangeFuncRecord
import Derived.Maps.Own
namespace Go.Proofs.Ytejbpoclfjkllaa
open Go Go.RowKit Go.Shelf

theorem run_len_map {P : Program} {t kt et ty : TypeId} {r : Nat} {l : List (Int × Int)} {w : World} (hm : P.underlying t = some (.map kt et)) (ho : w.heap[r]? = some (mapO l)) :
    (Builtin.len_ #[t] ty #[.map (some r)]).run P w = .ok (.int .i64 (l.length : Int)) w := by
  have ho' : w.heap[r]? = some (.map (mapL 0 l).toArray l.length) := ho
  simp [Builtin.len_, run_underlying hm, MapKept.run_getObj_map ho', goInt, Result.andThen, mapL_length]
/-- What stands while the map is filled. -/
structure FxSt (w0 W : World) (bm : Nat) (l : List (Int × Int)) : Prop where
  m : W.heap[bm]? = some (mapO l)
  bl : Below w0.heap.size w0 W
theorem FxSt.put {w0 W : World} {bm : Nat} {l : List (Int × Int)} (s : FxSt w0 W bm l) (hb : w0.heap.size ≤ bm) (m : List (Int × Int)) : FxSt w0 (W.putObj bm (mapO m)) bm m :=
  ⟨World.putObj_heap_same (lt_of_block s.m), ⟨s.bl.os, s.bl.tape, s.bl.output, by rw [World.putObj_size]; exact s.bl.size, fun k hk => (World.putObj_heap_other (by omega)).trans (s.bl.block k hk)⟩⟩

theorem fixed_same {R : Nat} {bs : List Bd} {t : List Int} (HO : NetOk R bs t) (ht : openedP R bs = some t) {a b : Nat} (ha : a < R) (hb : b < R) :
    ((spP (distN R bs a b) (distN R bs b a)).lowest && (spP (distN R bs a b) (distN R bs b a)).highest && ((spP (distN R bs a b) (distN R bs b a)).low == (spP (distN R bs a b) (distN R bs b a)).high)) = sameD (distN R bs) a b := by
  rw [← sameM_dist HO ht ha hb]
  have h1 := frV_dist HO ht ha hb
  have h2 := frV_dist HO ht hb ha
  unfold sameM spP
  simp only
  rw [h1.1, h1.2, h2.1, h2.2]
theorem fixed_value {R : Nat} {bs : List Bd} {t y : List Int} (HO : NetOk R bs t) (ht : openedP R bs = some t) (k : Keeps R bs y) {a b : Nat} (ha : a < R) (hb : b < R) (h : sameD (distN R bs) a b = true) :
    y.getD b 0 - y.getD a 0 = (spP (distN R bs a b) (distN R bs b a)).low := by
  unfold sameD at h
  simp only [Bool.and_eq_true, decide_eq_true_eq, beq_iff_eq] at h
  obtain ⟨⟨h1, h2⟩, h3⟩ := h
  have e1 := keeps_dist HO ht k ha hb h1
  have e2 := keeps_dist HO ht k hb ha h2
  have e3 : nV (distN R bs b a) = distN R bs b a := nV_near h2
  unfold spP
  simp only
  rw [e3]
  omega

set_option maxRecDepth 100000 in
set_option maxHeartbeats 8000000 in
theorem lineFixed_any (w : World) (N : Int) (a : Option Addr) (cap : Nat) (bs : List Bd) (a2 : Option Addr) (cap2 : Nat) (y : List Int) (hN : i64ok N) (hl : bs.length ≤ 9223372036854775807) (h : BoundsAt w a bs) (hl2 : y.length ≤ 9223372036854775807) (h2 : IntsAt w a2 y) :
    Calls Try.prog 20 #[.agg #[.int .i64 N, .slice a bs.length cap], .slice a2 y.length cap2] w fun e w' => e = .returned (.bool true) ∧ Below w.heap.size w w' := by
  have b0 : Below w.heap.size w (w.alloc (.cells #[.int .i64 N, .slice a bs.length cap] 24)) := (Below.refl _ _).alloc (Nat.le_refl _) _
  obtain ⟨f, hf⟩ : ∃ f, fewP N bs.length 14 40 = f := ⟨_, rfl⟩
  have hs := fun W => someL_any W N a cap bs.length
  rw [hf] at hs
  have hfew : f = true → checkP N bs = 0 → N ≤ 14 := fun e hc => (fewP_pts (hf.trans e) rfl (by omega) hc).1
  have B0 := hidE b0
  have HN := hidE hN
  have H := hidE h
  have H2 := hidE h2
  have HS := hidE hs
  have HFW := hidE hfew
  clear b0 hN h h2 hs hf hfew
  cases f with
  | false =>
    go_enter Try.func20, Try.ntmps20
    go_wp2_with fail
    refine (HS.out _).mono ?_
    rintro e w1 ⟨rfl, hb1⟩
    have B1 := hidE (B0.out.trans (hb1.mono B0.out.size))
    go_wp2_with fail
    refine (alive_any _).mono ?_
    rintro e w2 ⟨rfl, hb2⟩
    go_wp2_with fail
    go_ret
    exact ⟨rfl, B1.out.trans (hb2.mono B1.out.size)⟩
  | true =>
    by_cases c1 : y.length ≤ 20
    · have d1 : decide ((y.length : Int) > 20) = false := by simp; omega
      have h1 := fun W hb => rigid_any W N a cap bs HN.out hl hb
      by_cases he : askedE N bs [] = 0
      · obtain ⟨R, t, rfl, ht, HO⟩ := asked0 he
        have hR14 := HFW.out rfl (askedE_zero he).1
        have hE : rigidE R bs = (rigidL R (distN R bs), 0) := by unfold rigidE; rw [if_pos he]; simp only [Int.toNat_natCast]
        have hcl := rigid_classes (eqvD_of HO ht)
        have h2 := fun W hb hb2 => kept_any W R a cap bs a2 cap2 y HN.out hl hl2 hb hb2
        have h3 := fun W (x z : Nat) hb => between_any W R a cap bs x z HN.out hl hb
        have hbt : ∀ x z : Nat, x < R → z < R → betweenP R bs x z = (spP (distN R bs x z) (distN R bs z x), 0) := by
          intro x z hx hz
          have hc := (askedE_zero he).1
          have hk : keptP R bs = true := by unfold keptP; rw [ht]; rfl
          have ha : askedE R bs [(x : Int), (z : Int)] = 0 := by
            rw [askedE_fine hc (by intro p hp; simp at hp; omega), hk]; rfl
          unfold betweenP
          rw [if_pos ha]; simp only [Int.toNat_natCast]
        have hsm := fun x z hx hz => fixed_same HO ht (a := x) (b := z) hx hz
        have hkb : ∀ y0 e3, keptE R bs y = (y0, true, e3) → e3 = 0 ∧ y.length = R ∧ (∀ i, i < R → -400000000 ≤ y.getD i 0 ∧ y.getD i 0 ≤ 400000000) ∧ ∀ x z, x < R → z < R → sameD (distN R bs) x z = true → y.getD z 0 - y.getD x 0 = (spP (distN R bs x z) (distN R bs z x)).low := by
          intro y0 e3 hk
          have hk1 : (keptE R bs y).2.1 = true := by rw [hk]
          have q := keptE_bad hk1
          have kk := (keptE_iff q.2).1 hk1
          refine ⟨by have := q.1; rw [hk] at this; exact this, kk.len, fun i hi => ?_, fun x z hx hz hs => fixed_value HO ht kk hx hz hs⟩
          have := kk.bd (y.getD i 0) (getD_mem (by rw [kk.len]; exact hi))
          exact this
        obtain ⟨⟨y0, kk, e3⟩, hK⟩ : ∃ t, keptE R bs y = t := ⟨_, rfl⟩
        rw [hK] at h2
        simp only at h2
        have hkb2 := fun (e : kk = true) => hkb y0 e3 (by rw [hK, e])
        obtain ⟨ls, hls⟩ : ∃ ls, rigidL R (distN R bs) = ls := ⟨_, rfl⟩
        rw [hE, hls] at h1
        rw [hls] at hcl
        simp only at h1
        have hn0 := HO.n0
        have hcs : (∀ i, i < ls.length → (ls.getD i []).length ≤ 1000) ∧ ls.length ≤ 1000 := by
          have hz := rigidE_len (N := R) (bs := bs) (fun hc => by omega)
          rw [hE, hls] at hz
          refine ⟨fun i hi => hz.2 _ ?_, hz.1⟩
          have : ls.getD i [] = ls[i] := by simp [List.getD_eq_getElem?_getD, hi]
          rw [this]; exact List.getElem_mem hi
        have HCS := hidE hcs.1
        have HLS := hidE hcs.2
        clear hcs
        have HP1 := hidE h1
        have HP2 := hidE h2
        have HP3 := hidE h3
        have HBT := hidE hbt
        have HSM := hidE hsm
        have HC := hidE hcl
        have HKB := hidE hkb2
        clear h1 h2 h3 hbt hsm hcl hkb hkb2 hK hE hls he ht HO
        go_enter Try.func20, Try.ntmps20
        go_wp2_with fail
        refine (HS.out _).mono ?_
        rintro _ w1 ⟨rfl, hb1⟩
        have X1 := hidE (blk_below hb1 (by simp) (heap_alloc_new w (.cells #[.int .i64 (R : Int), .slice a bs.length cap] 24)))
        have B1 := hidE (B0.out.trans (hb1.mono B0.out.size))
        clear hb1
        have f0 : w1.cell? ⟨w.heap.size, 0, none⟩ = some (.int .i64 (R : Int)) := by rw [cell_of_row _ _ _ _ _ _ X1.out]; rfl
        have f1 : w1.cell? ⟨w.heap.size, 1, none⟩ = some (.slice a bs.length cap) := by rw [cell_of_row _ _ _ _ _ _ X1.out]; rfl
        go_wp2_with fail
        refine (HP1.out _ (H.out.below B1.out (Nat.le_refl _))).mono ?_
        rintro _ w2 ⟨⟨v2, rfl, ho2⟩, hb2⟩
        obtain ⟨o2, c2, rfl, hi2⟩ := ho2.lists
        have L2 := hidE hi2
        have X2 := hidE (blk_below hb2 (lt_of_block X1.out) X1.out)
        have B2 := hidE (B1.out.trans (hb2.mono B1.out.size))
        clear f0 f1 hb2 hi2 ho2
        have hlsN : ls.length ≤ 1000 := HLS.out
        have hmm : ∀ W : World, (Instr.makeMap 73 none).run Try.prog W = .ok (.map (some W.heap.size)) (W.alloc (.map #[] 0)) := fun W => rfl
        go_upto_region 7 with fail
        clear hmm
        obtain ⟨W3, hW3⟩ : ∃ X, X = w2.alloc (.map #[] 0) := ⟨_, rfl⟩
        rw [← hW3]
        obtain ⟨bm, hbm⟩ : ∃ b, b = w2.heap.size := ⟨_, rfl⟩
        rw [← hbm]
        have st3 : Hid (FxSt w2 W3 bm (pairsTo ls 0)) := hidE ⟨by rw [hW3, hbm]; exact heap_alloc_new _ _, by rw [hW3]; exact (Below.refl _ _).alloc (Nat.le_refl _) _⟩
        have h2m : w2.heap.size ≤ bm := by omega
        clear hW3 hbm
        go_wp2_with fail
        go_loopw [49] (fun i wr => ∃ i0 : Nat, i0 ≤ ls.length ∧ i = .int .i64 i0 ∧ Hid (FxSt w2 wr bm (pairsTo ls i0))) (fun i _ => ls.length - (intOf i).toNat)
        case atStart => exact ⟨0, by omega, rfl, st3⟩
        case round =>
          obtain ⟨i, hi, rfl, hst⟩ := hrel
          by_cases hiL : i < ls.length
          · have iL : (i : Int) < (ls.length : Int) := by omega
            obtain ⟨b, off, o, c, rfl, hbl, d0, i0⟩ := (L2.out.below hst.out.bl (Nat.le_refl _)).at hiL
            have hg : ls.getD i [] = ls[i] := by simp [List.getD_eq_getElem?_getD, hiL]
            rw [← hg] at d0 i0
            have hcs : (ls.getD i []).length ≤ 1000 := HCS.out i hiL
            have hpos := HC.out.ne i hiL
            have STI := hidE (show FxSt w2 wr bm (pairsAt ls i 0) by rw [pairsAt_zero]; exact hst.out)
            have I0 := hidE i0
            obtain ⟨wO, rfl⟩ : ∃ x : World, x = wr := ⟨wr, rfl⟩
            obtain ⟨n, hn⟩ : ∃ n, (ls.getD i []).length = n := ⟨_, rfl⟩
            rw [hn] at d0
            have HNL := hidE hn
            have n1 : n ≤ 1000 := by omega
            have hbO := hidE hst.out.bl
            clear hn hg i0 hcs hst
            go_wp2_with fail
            go_loopw [56] (fun k' wx => ∃ k : Nat, k ≤ n ∧ k' = .int .i64 k ∧ Hid (FxSt w2 wx bm (pairsAt ls i k)) ∧ Hid (∀ q, q ≠ bm → q < wO.heap.size → wx.heap[q]? = wO.heap[q]?)) (fun k' _ => n - (intOf k').toNat)
            case atStart => exact ⟨0, by omega, rfl, STI, hidE (fun _ _ _ => rfl)⟩
            case round =>
              obtain ⟨wx, rfl⟩ : ∃ x : World, x = wr := ⟨wr, rfl⟩
              obtain ⟨k, hk, rfl, hst, hkp⟩ := hrel
              by_cases hkn : k < n
              · have kn : (k : Int) < (n : Int) := by omega
                have hkc : k < (ls.getD i []).length := by rw [HNL.out]; exact hkn
                have hLx := L2.out.below hst.out.bl (Nat.le_refl _)
                obtain ⟨b', off', o', c', e', _, dd, i1⟩ := hLx.at hiL
                cases e'
                have hg : ls.getD i [] = ls[i] := by simp [List.getD_eq_getElem?_getD, hiL]
                rw [← hg] at dd i1
                have hoo : o' = o := by
                  have : wx.cell? ⟨b, off + i, none⟩ = wO.cell? ⟨b, off + i, none⟩ := by
                    by_cases hbm : b = bm
                    · subst hbm
                      have q1 := hst.out.m
                      unfold World.cell? at dd
                      simp [q1, mapO] at dd
                    · exact World.cell?_of_block (w := wO) (hkp.out b hbm hbl)
                  rw [this, d0] at dd
                  cases dd; rfl
                subst hoo
                obtain ⟨bq, oq, rfl, hbq, dk⟩ := i1.at hkc
                obtain ⟨pk, hpk⟩ : ∃ p, (ls.getD i [])[k] = p := ⟨_, rfl⟩
                rw [hpk] at dk
                have hfresh := HC.out.fresh hiL hkc
                have hput := run_map_new (P := Try.prog) (t := 73) (v := (i : Int)) Try.underlying73 Try.underlying3 hst.out.m hfresh
                have hnx := pairsAt_next hkc
                rw [hpk] at hput hnx
                have HPUT := hidE hput
                have HNX := hidE hnx
                clear hfresh hput hnx
                have HPK := hidE hpk
                have DD := hidE dd
                clear hpk dd hg
                by_cases hk0 : k = 0
                · subst hk0
                  rw [Nat.add_zero] at dk
                  by_cases hi0 : i = 0
                  · have ti : decide ((i : Int) > 0) = false := by simp [hi0]
                    have ti2 : decide (0 < i) = false := by simp [hi0]
                    have ti3 : ¬ 0 < i := by omega
                    clear hi0
                    go_upto_region 15 with fail
                    go_wp2_with (at_mapUpdate; refine wpList_unit rfl (Instr.mapUpdate 73 (.map (some bm)) (.int .i64 pk) (.int .i64 (i : Int))) rfl HPUT.out ?_)
                    go_roundw
                    case rel => exact ⟨1, by omega, by go_num, hidE (by rw [HNX.out]; exact hst.out.put h2m _), hidE (fun q q1 q2 => (World.putObj_heap_other q1).trans (hkp.out q q1 q2))⟩
                    case measure => simp [intOf]; omega
                  · have ti : decide ((i : Int) > 0) = true := by simp; omega
                    have ti2 : decide (0 < i) = true := by simp; omega
                    have ti3 : 0 < i := by omega
                    obtain ⟨m, him'⟩ : ∃ m, i = m + 1 := ⟨i - 1, by omega⟩
                    have him : (i : Int) - 1 = (m : Int) := by omega
                    have mL : (m : Int) < (ls.length : Int) := by omega
                    have hmL : m < ls.length := by omega
                    have hpm := HC.out.ne m hmL
                    obtain ⟨b'', off'', o'', c'', e'', _, dm, im⟩ := hLx.at hmL
                    cases e''
                    have hgm : ls.getD m [] = ls[m] := by simp [List.getD_eq_getElem?_getD, hmL]
                    rw [← hgm] at dm im
                    obtain ⟨br, oor, rfl, hbr, dr⟩ := im.at hpm
                    obtain ⟨vm, hvm⟩ : ∃ p, (ls.getD m [])[0] = p := ⟨_, rfl⟩
                    have hlt : vm < pk := by
                      rw [← hvm, ← HPK.out]
                      subst him'
                      exact HC.out.heads m hiL hpm hkc
                    rw [hvm, Nat.add_zero] at dr
                    have tv : decide (vm ≥ pk) = false := decide_eq_false (by omega)
                    obtain ⟨nm, hnm⟩ : ∃ n, (ls.getD m []).length = n := ⟨_, rfl⟩
                    rw [hnm] at dm hpm
                    have nmp : (0 : Int) < (nm : Int) := by omega
                    clear hi0 him' hgm hvm hlt im hnm
                    go_upto_region 15 with fail
                    clear ti ti2 ti3 him mL hmL hpm dm dr hbr tv nmp
                    go_upto_region 15 with fail
                    go_wp2_with (at_mapUpdate; refine wpList_unit rfl (Instr.mapUpdate 73 (.map (some bm)) (.int .i64 pk) (.int .i64 (i : Int))) rfl HPUT.out ?_)
                    go_roundw
                    case rel => exact ⟨1, by omega, by go_num, hidE (by rw [HNX.out]; exact hst.out.put h2m _), hidE (fun q q1 q2 => (World.putObj_heap_other q1).trans (hkp.out q q1 q2))⟩
                    case measure => simp [intOf]; omega
                · have tk : decide ((k : Int) > 0) = true := by simp; omega
                  have tk2 : 0 < k := by omega
                  have tk0 : ((k : Int) == 0) = false := by simp; omega
                  obtain ⟨m, hkm'⟩ : ∃ m, k = m + 1 := ⟨k - 1, by omega⟩
                  have hkm : (k : Int) - 1 = (m : Int) := by omega
                  have mn : (m : Int) < (n : Int) := by omega
                  have hmc : m < (ls.getD i []).length := by rw [HNL.out]; omega
                  obtain ⟨bq', oq', eq', _, dm⟩ := i1.at hmc
                  cases eq'
                  obtain ⟨vm, hvm⟩ : ∃ p, (ls.getD i [])[m] = p := ⟨_, rfl⟩
                  have hlt : vm < pk := by
                    rw [← hvm, ← HPK.out]
                    subst hkm'
                    exact HC.out.up i hiL m hkc
                  rw [hvm] at dm
                  have tv : decide (vm ≥ pk) = false := decide_eq_false (by omega)
                  clear hk0 hkm' hvm hlt
                  by_cases hi0 : i = 0
                  · have ti : decide ((i : Int) > 0) = false := by simp [hi0]
                    have ti2 : decide (0 < i) = false := by simp [hi0]
                    have ti3 : ¬ 0 < i := by omega
                    clear hi0
                    go_upto_region 15 with fail
                    go_wp2_with (at_mapUpdate; refine wpList_unit rfl (Instr.mapUpdate 73 (.map (some bm)) (.int .i64 pk) (.int .i64 (i : Int))) rfl HPUT.out ?_)
                    go_roundw
                    first
                      | (case rel => exact ⟨k + 1, by omega, by go_num, hidE (by rw [HNX.out]; exact hst.out.put h2m _), hidE (fun q q1 q2 => (World.putObj_heap_other q1).trans (hkp.out q q1 q2))⟩)
                      | (refine ⟨⟨k + 1, by omega, by go_num, hidE (by rw [HNX.out]; exact hst.out.put h2m _), hidE (fun q q1 q2 => (World.putObj_heap_other q1).trans (hkp.out q q1 q2))⟩, ?_⟩)
                    try (case measure => (simp [intOf]; omega))
                    try (simp [intOf]; omega)
                  · have ti : decide ((i : Int) > 0) = true := by simp; omega
                    have ti2 : decide (0 < i) = true := by simp; omega
                    have ti3 : 0 < i := by omega
                    clear hi0
                    go_upto_region 15 with fail
                    go_wp2_with (at_mapUpdate; refine wpList_unit rfl (Instr.mapUpdate 73 (.map (some bm)) (.int .i64 pk) (.int .i64 (i : Int))) rfl HPUT.out ?_)
                    go_roundw
                    first
                      | (case rel => exact ⟨k + 1, by omega, by go_num, hidE (by rw [HNX.out]; exact hst.out.put h2m _), hidE (fun q q1 q2 => (World.putObj_heap_other q1).trans (hkp.out q q1 q2))⟩)
                      | (refine ⟨⟨k + 1, by omega, by go_num, hidE (by rw [HNX.out]; exact hst.out.put h2m _), hidE (fun q q1 q2 => (World.putObj_heap_other q1).trans (hkp.out q q1 q2))⟩, ?_⟩)
                    try (case measure => (simp [intOf]; omega))
                    try (simp [intOf]; omega)
              · obtain rfl : k = n := by omega
                have HEN := hidE (pairsAt_end (ls := ls) (i := i) (Nat.le_of_eq HNL.out))
                go_wp2_with fail
                go_roundw
                case rel => exact ⟨i + 1, by omega, by go_num, hidE (by rw [← HEN.out]; exact hst.out)⟩
                case measure => simp [intOf]; omega
          · have hie : i = ls.length := by omega
            rw [hie] at hst
            obtain ⟨w4, rfl⟩ : ∃ x : World, x = wr := ⟨wr, rfl⟩
            have X4 := hidE (blk_below hst.out.bl (lt_of_block X2.out) X2.out)
            have B4 := hidE (B2.out.trans (hst.out.bl.mono B2.out.size))
            have M4 := hidE hst.out.m
            have lm : bm < w4.heap.size := lt_of_block hst.out.m
            have iL : ¬ (i : Int) < (ls.length : Int) := by omega
            clear hst
            have f0 : w4.cell? ⟨w.heap.size, 0, none⟩ = some (.int .i64 (R : Int)) := by rw [cell_of_row _ _ _ _ _ _ X4.out]; rfl
            have f1 : w4.cell? ⟨w.heap.size, 1, none⟩ = some (.slice a bs.length cap) := by rw [cell_of_row _ _ _ _ _ _ X4.out]; rfl
            clear hie
            go_wp2_with fail
            refine (HP2.out _ (H.out.below B4.out (Nat.le_refl _)) (H2.out.below B4.out (Nat.le_refl _))).mono ?_
            rintro _ w5 ⟨rfl, hb5⟩
            have X5 := hidE (blk_below hb5 (lt_of_block X4.out) X4.out)
            have B5 := hidE (B4.out.trans (hb5.mono B4.out.size))
            have M5 := hidE (blk_below hb5 lm M4.out)
            clear f0 f1 hb5 X1 X2 X4 M4 lm HP1 HP2 HS HFW
            cases kk with
            | true =>
              obtain ⟨rfl, hyl, hyb, hyv⟩ := HKB.out rfl
              have HYL := hidE hyl
              have HYB := hidE hyb
              have HYV := hidE hyv
              clear hyb hyv hyl HKB
              have f0 : w5.cell? ⟨w.heap.size, 0, none⟩ = some (.int .i64 (R : Int)) := by rw [cell_of_row _ _ _ _ _ _ X5.out]; rfl
              go_wp2_with fail
              clear f0
              go_loopw [110] (fun i wr => ∃ x : Nat, x ≤ R ∧ i = .int .i64 x ∧ Hid (Below w5.heap.size w5 wr)) (fun i _ => R - (intOf i).toNat)
              case atStart => exact ⟨0, by omega, rfl, hidE (Below.refl _ _)⟩
              case round =>
                obtain ⟨x, hx, rfl, hbl⟩ := hrel
                obtain ⟨wo, rfl⟩ : ∃ x : World, x = wr := ⟨wr, rfl⟩
                have X6 := hidE (blk_below hbl.out (lt_of_block X5.out) X5.out)
                have f0 : wo.cell? ⟨w.heap.size, 0, none⟩ = some (.int .i64 (R : Int)) := by rw [cell_of_row _ _ _ _ _ _ X6.out]; rfl
                by_cases hxR : x < R
                · have xR : (x : Int) < (R : Int) := by omega
                  go_wp2_with fail
                  clear f0 X6
                  go_loopw [115] (fun i wr => ∃ z : Nat, z ≤ R ∧ i = .int .i64 z ∧ Hid (Below w5.heap.size w5 wr)) (fun i _ => R - (intOf i).toNat)
                  case atStart => exact ⟨0, by omega, rfl, hbl⟩
                  case round =>
                    clear hbl
                    obtain ⟨z, hz, rfl, hbl⟩ := hrel
                    obtain ⟨w6, rfl⟩ : ∃ x : World, x = wr := ⟨wr, rfl⟩
                    by_cases hzR : z < R
                    · have zR : (z : Int) < (R : Int) := by omega
                      have X6 := hidE (blk_below hbl.out (lt_of_block X5.out) X5.out)
                      have f0 : w6.cell? ⟨w.heap.size, 0, none⟩ = some (.int .i64 (R : Int)) := by rw [cell_of_row _ _ _ _ _ _ X6.out]; rfl
                      have f1 : w6.cell? ⟨w.heap.size, 1, none⟩ = some (.slice a bs.length cap) := by rw [cell_of_row _ _ _ _ _ _ X6.out]; rfl
                      obtain ⟨⟨s1, s2, s3, s4⟩, hs⟩ : ∃ s, spP (distN R bs x z) (distN R bs z x) = s := ⟨_, rfl⟩
                      have hb := HBT.out x z hxR hzR
                      rw [hs] at hb
                      have hsm := HSM.out x z hxR hzR
                      rw [hs] at hsm
                      simp only at hsm
                      obtain ⟨i, hi, hi2, hmi⟩ := HC.out.look hxR
                      obtain ⟨j, hj, hj2, hmj⟩ := HC.out.look hzR
                      have hij := HC.out.same x z i j hxR hzR hi hj hi2 hj2
                      have B5w := hidE (B5.out.trans (hbl.out.mono B5.out.size))
                      have q := HP3.out w6 x z (H.out.below B5w.out (Nat.le_refl _))
                      rw [hb] at q
                      unfold Sp.arr at q
                      simp only at q
                      have Q := hidE q
                      have HI := hidE hmi
                      have HJ := hidE hmj
                      have HIJ := hidE hij
                      have HS1 := hidE hsm
                      have HS0 := hidE hs
                      clear q hmi hmj hij hsm hs hb hi hj hi2 hj2
                      go_wp2_with fail
                      refine Q.out.mono ?_
                      rintro _ w7 ⟨rfl, hb7⟩
                      go_upto_region 27 with fail
                      obtain ⟨w8, hw8⟩ : ∃ X, X = w7.alloc (.cells #[.int .i64 s1, .int .i64 s2, .bool s3, .bool s4] 33) := ⟨_, rfl⟩
                      rw [← hw8]
                      have hb8 : Below w6.heap.size w6 w8 := by rw [hw8]; exact hb7.alloc hb7.size _
                      have hs8 : w8.heap[w7.heap.size]? = some (.cells #[.int .i64 s1, .int .i64 s2, .bool s3, .bool s4] 33 (0,0)) := by rw [hw8]; exact heap_alloc_new _ _
                      have B8 := hidE (hbl.out.trans (hb8.mono hbl.out.size))
                      have M8 := hidE (blk_below B8.out (lt_of_block M5.out) M5.out)
                      have c0 : w8.cell? ⟨w7.heap.size, 0, none⟩ = some (.int .i64 s1) := by rw [cell_of_row _ _ _ _ _ _ hs8]; rfl
                      have c1 : w8.cell? ⟨w7.heap.size, 1, none⟩ = some (.int .i64 s2) := by rw [cell_of_row _ _ _ _ _ _ hs8]; rfl
                      have c2 : w8.cell? ⟨w7.heap.size, 2, none⟩ = some (.bool s3) := by rw [cell_of_row _ _ _ _ _ _ hs8]; rfl
                      have c3 : w8.cell? ⟨w7.heap.size, 3, none⟩ = some (.bool s4) := by rw [cell_of_row _ _ _ _ _ _ hs8]; rfl
                      have k1 := run_map_at (P := Try.prog) (t := 73) (v := (i : Int)) Try.underlying73 Try.underlying3 M8.out HI.out
                      have k2 := run_map_at (P := Try.prog) (t := 73) (v := (j : Int)) Try.underlying73 Try.underlying3 M8.out HJ.out
                      clear hw8 hb8 hs8 hb7 f0 f1 X6
                      go_upto_region 28 with fail
                      clear k1
                      go_upto_region 29 with fail
                      clear k2
                      cases s3 with
                      | false =>
                        have tij : ((i : Int) == (j : Int)) = false := by simp; intro e; have := HIJ.out.1 (Int.ofNat.inj e); rw [← HS1.out] at this; simp at this
                        clear HIJ HS1 HS0
                        go_wp2_with fail
                        go_quiet (fail)
                        go_wp2_with fail
                        go_roundw
                        case rel => exact ⟨z + 1, by omega, by go_num, hidE (B8.out.trans (below_drewN' _ _))⟩
                        case measure => simp [intOf]; omega
                      | true =>
                        cases s4 with
                        | false =>
                          have tij : ((i : Int) == (j : Int)) = false := by simp; intro e; have := HIJ.out.1 (Int.ofNat.inj e); rw [← HS1.out] at this; simp at this
                          clear HIJ HS1 HS0
                          go_wp2_with fail
                          go_quiet (fail)
                          go_wp2_with fail
                          go_roundw
                          case rel => exact ⟨z + 1, by omega, by go_num, hidE (B8.out.trans (below_drewN' _ _))⟩
                          case measure => simp [intOf]; omega
                        | true =>
                          by_cases heq : s1 = s2
                          · have hsd : sameD (distN R bs) x z = true := by rw [← HS1.out]; simp; exact heq
                            have tij : ((i : Int) == (j : Int)) = true := by simp; exact congrArg Nat.cast (HIJ.out.2 hsd)
                            have teq : (s1 == s2) = true := by simp; exact heq
                            have hv := HYV.out x z hxR hzR hsd
                            have hb1 := HYB.out x hxR
                            have hb2 := HYB.out z hzR
                            rw [HS0.out] at hv
                            simp only at hv
                            have HY8 := H2.out.below (B5.out.trans (B8.out.mono B5.out.size)) (Nat.le_refl _)
                            have hxl : x < y.length := by rw [HYL.out]; exact hxR
                            have hzl : z < y.length := by rw [HYL.out]; exact hzR
                            obtain ⟨yb, yo, rfl, hyb, dx⟩ := HY8.at hxl
                            obtain ⟨yb', yo', ey, _, dz⟩ := HY8.at hzl
                            cases ey
                            have gx : y.getD x 0 = y[x] := by simp [List.getD_eq_getElem?_getD, hxl]
                            have gz : y.getD z 0 = y[z] := by simp [List.getD_eq_getElem?_getD, hzl]
                            rw [gx] at hv hb1
                            rw [gz] at hv hb2
                            obtain ⟨vx, hvx⟩ : ∃ v, y[x] = v := ⟨_, rfl⟩
                            obtain ⟨vz, hvz⟩ : ∃ v, y[z] = v := ⟨_, rfl⟩
                            rw [hvx] at hv hb1 dx
                            rw [hvz] at hv hb2 dz
                            have hw : IntKind.i64.wrap (vz - vx) = s1 := by rw [IntWalk.i64_in _ (by omega)]; exact hv
                            have xyl : (x : Int) < (y.length : Int) := by omega
                            have zyl : (z : Int) < (y.length : Int) := by omega
                            clear hv hb1 hb2 HY8 gx gz hvx hvz hxl hzl
                            clear hsd heq
                            clear HIJ HS1 HS0
                            go_wp2_with fail
                            go_quiet (fail)
                            go_wp2_with fail
                            iterate 5 (try (go_quiet (fail)); try (go_wp2_with fail))
                            go_roundw
                            case rel => exact ⟨z + 1, by omega, by go_num, hidE (B8.out.trans (below_drewN' _ _))⟩
                            case measure => simp [intOf]; omega
                          · have tij : ((i : Int) == (j : Int)) = false := by simp; intro e; have := HIJ.out.1 (Int.ofNat.inj e); rw [← HS1.out] at this; simp at this; exact heq this
                            have teq : (s1 == s2) = false := by simp; exact heq
                            clear heq
                            clear HIJ HS1 HS0
                            go_wp2_with fail
                            go_quiet (fail)
                            go_wp2_with fail
                            go_roundw
                            case rel => exact ⟨z + 1, by omega, by go_num, hidE (B8.out.trans (below_drewN' _ _))⟩
                            case measure => simp [intOf]; omega
                    · obtain rfl : z = R := by omega
                      have zR : ¬ (z : Int) < (z : Int) := by omega
                      go_wp2_with fail
                      go_roundw
                      case rel => exact ⟨x + 1, by omega, by go_num, hbl⟩
                      case measure => simp [intOf]; omega
                · obtain rfl : x = R := by omega
                  have xR : ¬ (x : Int) < (x : Int) := by omega
                  have M9 := blk_below hbl.out (lt_of_block M5.out) M5.out
                  have B9 := hidE (B5.out.trans (hbl.out.mono B5.out.size))
                  have hsz := HC.out.size
                  go_wp2_with fail
                  refine (alive_any _).mono ?_
                  rintro _ w9 ⟨rfl, hb9⟩
                  have X9 := hidE (blk_below hb9 (lt_of_block (blk_below hbl.out (lt_of_block X5.out) X5.out)) (blk_below hbl.out (lt_of_block X5.out) X5.out))
                  have M10 := blk_below hb9 (lt_of_block M9) M9
                  have f0 : w9.cell? ⟨w.heap.size, 0, none⟩ = some (.int .i64 (x : Int)) := by rw [cell_of_row _ _ _ _ _ _ X9.out]; rfl
                  have hlm := run_len_map (ty := 3) Try.underlying73 M10
                  rw [hsz] at hlm
                  have teq : ((x : Int) == (x : Int)) = true := by simp
                  clear hsz
                  go_wp2_with fail
                  go_ret
                  exact ⟨rfl, B9.out.trans (hb9.mono B9.out.size)⟩
            | false =>
              clear HKB
              have f0 : w5.cell? ⟨w.heap.size, 0, none⟩ = some (.int .i64 (R : Int)) := by rw [cell_of_row _ _ _ _ _ _ X5.out]; rfl
              go_wp2_with fail
              clear f0
              go_loopw [110] (fun i wr => ∃ x : Nat, x ≤ R ∧ i = .int .i64 x ∧ Hid (Below w5.heap.size w5 wr)) (fun i _ => R - (intOf i).toNat)
              case atStart => exact ⟨0, by omega, rfl, hidE (Below.refl _ _)⟩
              case round =>
                obtain ⟨x, hx, rfl, hbl⟩ := hrel
                obtain ⟨wo, rfl⟩ : ∃ x : World, x = wr := ⟨wr, rfl⟩
                have X6 := hidE (blk_below hbl.out (lt_of_block X5.out) X5.out)
                have f0 : wo.cell? ⟨w.heap.size, 0, none⟩ = some (.int .i64 (R : Int)) := by rw [cell_of_row _ _ _ _ _ _ X6.out]; rfl
                by_cases hxR : x < R
                · have xR : (x : Int) < (R : Int) := by omega
                  go_wp2_with fail
                  clear f0 X6
                  go_loopw [115] (fun i wr => ∃ z : Nat, z ≤ R ∧ i = .int .i64 z ∧ Hid (Below w5.heap.size w5 wr)) (fun i _ => R - (intOf i).toNat)
                  case atStart => exact ⟨0, by omega, rfl, hbl⟩
                  case round =>
                    clear hbl
                    obtain ⟨z, hz, rfl, hbl⟩ := hrel
                    obtain ⟨w6, rfl⟩ : ∃ x : World, x = wr := ⟨wr, rfl⟩
                    by_cases hzR : z < R
                    · have zR : (z : Int) < (R : Int) := by omega
                      have X6 := hidE (blk_below hbl.out (lt_of_block X5.out) X5.out)
                      have f0 : w6.cell? ⟨w.heap.size, 0, none⟩ = some (.int .i64 (R : Int)) := by rw [cell_of_row _ _ _ _ _ _ X6.out]; rfl
                      have f1 : w6.cell? ⟨w.heap.size, 1, none⟩ = some (.slice a bs.length cap) := by rw [cell_of_row _ _ _ _ _ _ X6.out]; rfl
                      obtain ⟨⟨s1, s2, s3, s4⟩, hs⟩ : ∃ s, spP (distN R bs x z) (distN R bs z x) = s := ⟨_, rfl⟩
                      have hb := HBT.out x z hxR hzR
                      rw [hs] at hb
                      have hsm := HSM.out x z hxR hzR
                      rw [hs] at hsm
                      simp only at hsm
                      obtain ⟨i, hi, hi2, hmi⟩ := HC.out.look hxR
                      obtain ⟨j, hj, hj2, hmj⟩ := HC.out.look hzR
                      have hij := HC.out.same x z i j hxR hzR hi hj hi2 hj2
                      have B5w := hidE (B5.out.trans (hbl.out.mono B5.out.size))
                      have q := HP3.out w6 x z (H.out.below B5w.out (Nat.le_refl _))
                      rw [hb] at q
                      unfold Sp.arr at q
                      simp only at q
                      have Q := hidE q
                      have HI := hidE hmi
                      have HJ := hidE hmj
                      have HIJ := hidE hij
                      have HS1 := hidE hsm
                      have HS0 := hidE hs
                      clear q hmi hmj hij hsm hs hb hi hj hi2 hj2
                      go_wp2_with fail
                      refine Q.out.mono ?_
                      rintro _ w7 ⟨rfl, hb7⟩
                      go_upto_region 27 with fail
                      obtain ⟨w8, hw8⟩ : ∃ X, X = w7.alloc (.cells #[.int .i64 s1, .int .i64 s2, .bool s3, .bool s4] 33) := ⟨_, rfl⟩
                      rw [← hw8]
                      have hb8 : Below w6.heap.size w6 w8 := by rw [hw8]; exact hb7.alloc hb7.size _
                      have hs8 : w8.heap[w7.heap.size]? = some (.cells #[.int .i64 s1, .int .i64 s2, .bool s3, .bool s4] 33 (0,0)) := by rw [hw8]; exact heap_alloc_new _ _
                      have B8 := hidE (hbl.out.trans (hb8.mono hbl.out.size))
                      have M8 := hidE (blk_below B8.out (lt_of_block M5.out) M5.out)
                      have c0 : w8.cell? ⟨w7.heap.size, 0, none⟩ = some (.int .i64 s1) := by rw [cell_of_row _ _ _ _ _ _ hs8]; rfl
                      have c1 : w8.cell? ⟨w7.heap.size, 1, none⟩ = some (.int .i64 s2) := by rw [cell_of_row _ _ _ _ _ _ hs8]; rfl
                      have c2 : w8.cell? ⟨w7.heap.size, 2, none⟩ = some (.bool s3) := by rw [cell_of_row _ _ _ _ _ _ hs8]; rfl
                      have c3 : w8.cell? ⟨w7.heap.size, 3, none⟩ = some (.bool s4) := by rw [cell_of_row _ _ _ _ _ _ hs8]; rfl
                      have k1 := run_map_at (P := Try.prog) (t := 73) (v := (i : Int)) Try.underlying73 Try.underlying3 M8.out HI.out
                      have k2 := run_map_at (P := Try.prog) (t := 73) (v := (j : Int)) Try.underlying73 Try.underlying3 M8.out HJ.out
                      clear hw8 hb8 hs8 hb7 f0 f1 X6
                      go_upto_region 28 with fail
                      clear k1
                      go_upto_region 29 with fail
                      clear k2
                      cases s3 with
                      | false =>
                        have tij : ((i : Int) == (j : Int)) = false := by simp; intro e; have := HIJ.out.1 (Int.ofNat.inj e); rw [← HS1.out] at this; simp at this
                        clear HIJ HS1 HS0
                        go_wp2_with fail
                        go_quiet (fail)
                        go_wp2_with fail
                        go_roundw
                        case rel => exact ⟨z + 1, by omega, by go_num, hidE (B8.out.trans (below_drewN' _ _))⟩
                        case measure => simp [intOf]; omega
                      | true =>
                        cases s4 with
                        | false =>
                          have tij : ((i : Int) == (j : Int)) = false := by simp; intro e; have := HIJ.out.1 (Int.ofNat.inj e); rw [← HS1.out] at this; simp at this
                          clear HIJ HS1 HS0
                          go_wp2_with fail
                          go_quiet (fail)
                          go_wp2_with fail
                          go_roundw
                          case rel => exact ⟨z + 1, by omega, by go_num, hidE (B8.out.trans (below_drewN' _ _))⟩
                          case measure => simp [intOf]; omega
                        | true =>
                          by_cases heq : s1 = s2
                          · have hsd : sameD (distN R bs) x z = true := by rw [← HS1.out]; simp; exact heq
                            have tij : ((i : Int) == (j : Int)) = true := by simp; exact congrArg Nat.cast (HIJ.out.2 hsd)
                            have teq : (s1 == s2) = true := by simp; exact heq
                            clear hsd heq
                            clear HIJ HS1 HS0
                            go_wp2_with fail
                            go_quiet (fail)
                            go_wp2_with fail
                            go_roundw
                            case rel => exact ⟨z + 1, by omega, by go_num, hidE (B8.out.trans (below_drewN' _ _))⟩
                            case measure => simp [intOf]; omega
                          · have tij : ((i : Int) == (j : Int)) = false := by simp; intro e; have := HIJ.out.1 (Int.ofNat.inj e); rw [← HS1.out] at this; simp at this; exact heq this
                            have teq : (s1 == s2) = false := by simp; exact heq
                            clear heq
                            clear HIJ HS1 HS0
                            go_wp2_with fail
                            go_quiet (fail)
                            go_wp2_with fail
                            go_roundw
                            case rel => exact ⟨z + 1, by omega, by go_num, hidE (B8.out.trans (below_drewN' _ _))⟩
                            case measure => simp [intOf]; omega
                    · obtain rfl : z = R := by omega
                      have zR : ¬ (z : Int) < (z : Int) := by omega
                      go_wp2_with fail
                      go_roundw
                      case rel => exact ⟨x + 1, by omega, by go_num, hbl⟩
                      case measure => simp [intOf]; omega
                · obtain rfl : x = R := by omega
                  have xR : ¬ (x : Int) < (x : Int) := by omega
                  have M9 := blk_below hbl.out (lt_of_block M5.out) M5.out
                  have B9 := hidE (B5.out.trans (hbl.out.mono B5.out.size))
                  have hsz := HC.out.size
                  go_wp2_with fail
                  refine (alive_any _).mono ?_
                  rintro _ w9 ⟨rfl, hb9⟩
                  have X9 := hidE (blk_below hb9 (lt_of_block (blk_below hbl.out (lt_of_block X5.out) X5.out)) (blk_below hbl.out (lt_of_block X5.out) X5.out))
                  have M10 := blk_below hb9 (lt_of_block M9) M9
                  have f0 : w9.cell? ⟨w.heap.size, 0, none⟩ = some (.int .i64 (x : Int)) := by rw [cell_of_row _ _ _ _ _ _ X9.out]; rfl
                  have hlm := run_len_map (ty := 3) Try.underlying73 M10
                  rw [hsz] at hlm
                  have teq : ((x : Int) == (x : Int)) = true := by simp
                  clear hsz
                  go_wp2_with fail
                  go_ret
                  exact ⟨rfl, B9.out.trans (hb9.mono B9.out.size)⟩
      · have hE : rigidE N bs = ([], askedE N bs []) := by unfold rigidE; rw [if_neg he]
        obtain ⟨c, hc⟩ : ∃ c, askedE N bs [] = c := ⟨_, rfl⟩
        rw [hc] at hE he
        rw [hE] at h1
        have hc2 : (c != 0) = true := by simpa using he
        have HP1 := hidE h1
        clear h1 hE he hc
        go_enter Try.func20, Try.ntmps20
        go_wp2_with fail
        refine (HS.out _).mono ?_
        rintro _ w1 ⟨rfl, hb1⟩
        have X1 := hidE (blk_below hb1 (by simp) (heap_alloc_new w (.cells #[.int .i64 N, .slice a bs.length cap] 24)))
        have B1 := hidE (B0.out.trans (hb1.mono B0.out.size))
        clear hb1
        have f0 : w1.cell? ⟨w.heap.size, 0, none⟩ = some (.int .i64 N) := by rw [cell_of_row _ _ _ _ _ _ X1.out]; rfl
        have f1 : w1.cell? ⟨w.heap.size, 1, none⟩ = some (.slice a bs.length cap) := by rw [cell_of_row _ _ _ _ _ _ X1.out]; rfl
        go_wp2_with fail
        refine (HP1.out _ (H.out.below B1.out (Nat.le_refl _))).mono ?_
        rintro _ w2 ⟨⟨v2, rfl, ho2⟩, hb2⟩
        obtain ⟨o2, c2, rfl, hi2⟩ := ho2.lists
        have B2 := hidE (B1.out.trans (hb2.mono B1.out.size))
        clear f0 f1 hb2 hi2 ho2
        go_wp2_with fail
        refine (alive_any _).mono ?_
        rintro _ w3 ⟨rfl, hb3⟩
        go_wp2_with fail
        go_ret
        exact ⟨rfl, B2.out.trans (hb3.mono B2.out.size)⟩
    · have d1 : decide ((y.length : Int) > 20) = true := by simp; omega
      go_enter Try.func20, Try.ntmps20
      go_wp2_with fail
      refine (HS.out _).mono ?_
      rintro e w1 ⟨rfl, hb1⟩
      have B1 := hidE (B0.out.trans (hb1.mono B0.out.size))
      go_wp2_with fail
      refine (alive_any _).mono ?_
      rintro e w2 ⟨rfl, hb2⟩
      go_wp2_with fail
      go_ret
      exact ⟨rfl, B1.out.trans (hb2.mono B1.out.size)⟩

end Go.Proofs.Ytejbpoclfjkllaa
