/- Walks: index, sum, CheckPath. No conditions beyond those stated. -/
import Derived.Test.YtejbpoclfjkllaaA1
import Derived.Test.YtejbpoclfjkllaaA3
import Derived.Test.YtejbpoclfjkllaaP2
namespace Go.Proofs.Ytejbpoclfjkllaa
open Go Go.RowKit Go.Shelf

theorem index1_any (w : World) (q : Int) (b : Nat) (a : Option Addr) (n cap : Nat) (hn : n ≤ 9223372036854775807) (hc : w.cell? ⟨b, 1, none⟩ = some (.slice a n cap)) :
    Calls Try.prog 144 #[.int .i64 q, .pointer (some ⟨b, 0, none⟩)] w fun e w' => e = .returned (.bool (!inR q 0 ((n : Int) - 1))) ∧ w = w' := by
  have hw : IntKind.i64.wrap ((n : Int) - 1) = (n : Int) - 1 := IntWalk.i64_in _ (by omega)
  go_enter Try.func144, Try.ntmps144
  go_wp2_with (go_at_call 106; refine (within_any _ _ _ _).mono ?_; rintro e w' ⟨rfl, rfl⟩)
  go_ret
  exact ⟨rfl, rfl⟩

theorem index_any (w : World) (N : Int) (a : Option Addr) (cap n : Nat) (a2 : Option Addr) (cap2 : Nat) (l : List Int) (hn : n ≤ 9223372036854775807) (hl : l.length ≤ 9223372036854775807) (h : IntsAt w a2 l) :
    Calls Try.prog 111 #[.agg #[.int .i64 N, .slice a n cap], .slice a2 l.length cap2] w fun e w' => e = .returned (.bool (indexP n l)) ∧ Below w.heap.size w w' := by
  have H := hidE h
  clear h
  have hc : (w.alloc (.cells #[.int .i64 N, .slice a n cap] 24)).cell? ⟨w.heap.size, 1, none⟩ = some (.slice a n cap) := by simp [go_sem]
  have T : TestsInts Try.prog 144 #[.pointer (some ⟨w.heap.size, 0, none⟩)] (w.alloc (.cells #[.int .i64 N, .slice a n cap] 24)) l (fun q => !inR q 0 ((n : Int) - 1)) :=
    fun k hk W hb => (index1_any W _ w.heap.size a n cap hn ((hb.cell (by simp)).trans hc)).mono fun e W' ⟨he, hw⟩ => ⟨he, hw ▸ Below.refl _ _⟩
  have HT := hidE T
  have E := hidE (enters_of Try.func144 (by kernel_rfl) rfl)
  clear T hc
  go_enter Try.func111, Try.ntmps111
  go_wp2_with (go_at_call 140; refine (containsFuncInts_any _ a2 cap2 l _ _ _ hl (H.out.alloc _) HT.out E.out).mono ?_; rintro e w' ⟨rfl, hb⟩)
  go_ret
  exact ⟨rfl, ((Below.refl _ _).alloc (Nat.le_refl _) _).trans (hb.mono (by simp))⟩

theorem bAt_nat {bs : List Bd} {q : Nat} (hq : q < bs.length) : bAt bs (q : Int) = bs[q] := by
  unfold bAt
  simp [List.getD_eq_getElem?_getD, hq]
theorem sumGo_step {bs : List Bd} {l : List Int} {y A S : Int} {k q : Nat} (hk : k < l.length) (hq : q < bs.length) (e : l[k] = (q : Int)) :
    sumGo bs y (l.drop k) A S = if bs[q].src != A then (0, false) else sumGo bs y (l.drop (k + 1)) bs[q].dst (S + bs[q].most) := by
  rw [List.drop_eq_getElem_cons hk, sumGo, e, bAt_nat hq]
theorem sumGo_end {bs : List Bd} {l : List Int} {y A S : Int} {k : Nat} (hk : ¬ k < l.length) : sumGo bs y (l.drop k) A S = (S, A == y) := by
  rw [List.drop_eq_nil_of_le (by omega), sumGo]

set_option maxRecDepth 100000 in
set_option maxHeartbeats 2000000 in
theorem sum_any (w : World) (N : Int) (a : Option Addr) (cap : Nat) (bs : List Bd) (a2 : Option Addr) (cap2 : Nat) (l : List Int) (x y : Int) (hl : bs.length ≤ 9223372036854775807) (hl2 : l.length ≤ 9223372036854775807)
    (hv : ∀ b ∈ bs, -1000000 ≤ b.most ∧ b.most ≤ 1000000) (h : BoundsAt w a bs) (h2 : IntsAt w a2 l) :
    Calls Try.prog 120 #[.agg #[.int .i64 N, .slice a bs.length cap], .slice a2 l.length cap2, .int .i64 x, .int .i64 y] w fun e w' => e = .returned (.tuple #[.int .i64 (sumP bs l x y).1, .bool (sumP bs l x y).2]) ∧ Below w.heap.size w w' := by
  have b0 : Below w.heap.size w (w.alloc (.cells #[.int .i64 N, .slice a bs.length cap] 24)) := (Below.refl _ _).alloc (Nat.le_refl _) _
  have B0 := hidE b0
  have H := hidE h
  have H2 := hidE h2
  have HV := hidE hv
  clear b0 h h2 hv
  by_cases hbig : 2000 < l.length
  · have hd : decide ((l.length : Int) > 2000) = true := by simp; omega
    have hs : sumP bs l x y = (0, false) := by unfold sumP; rw [if_pos hbig]
    have HS := hidE hs
    clear hs hbig
    go_enter Try.func120, Try.ntmps120
    go_wp2_with fail
    go_ret2
    exact ⟨by rw [HS.out]; rfl, B0.out⟩
  have hd : decide ((l.length : Int) > 2000) = false := by simp; omega
  obtain ⟨ix, hix⟩ : ∃ t, indexP bs.length l = t := ⟨_, rfl⟩
  have hidx := fun W hb => index_any W N a cap bs.length a2 cap2 l hl hl2 hb
  rw [hix] at hidx
  have HI := hidE hidx
  have HIX := hidE hix
  clear hidx hix
  cases ix with
  | false =>
    have hs : sumP bs l x y = (0, false) := by unfold sumP; rw [if_neg hbig, if_neg (by rw [HIX.out]; simp)]
    have HS := hidE hs
    clear hs hbig
    go_enter Try.func120, Try.ntmps120
    go_wp2_with fail
    refine (HI.out _ (H2.out.alloc _)).mono ?_
    rintro e w1 ⟨rfl, hb1⟩
    go_wp2_with fail
    go_ret2
    exact ⟨by rw [HS.out]; rfl, B0.out.trans (hb1.mono B0.out.size)⟩
  | true =>
    have hs : sumP bs l x y = sumGo bs y (l.drop 0) x 0 := by unfold sumP; rw [if_neg hbig, if_pos HIX.out]; rfl
    have HS := hidE hs
    have HALL := hidE (indexP_iff.1 HIX.out)
    have HBIG := hidE hbig
    clear hs hbig
    go_enter Try.func120, Try.ntmps120
    go_wp2_with fail
    refine (HI.out _ (H2.out.alloc _)).mono ?_
    rintro e w1 ⟨rfl, hb1⟩
    have y0 := blk_below hb1 (by simp) (heap_alloc_new w (.cells #[.int .i64 N, .slice a bs.length cap] 24))
    have Y0 := hidE y0
    have HB1 := hidE (B0.out.trans (hb1.mono B0.out.size))
    have hsz : w.heap.size < w1.heap.size := lt_of_block y0
    clear y0 hb1
    go_wp2_with fail
    go_loopw [2, 10, 25] (fun va vs i wr => ∃ (k : Nat) (A S : Int), k ≤ l.length ∧ i = .int .i64 k ∧ va = .int .i64 A ∧ vs = .int .i64 S ∧ Hid (sumP bs l x y = sumGo bs y (l.drop k) A S) ∧ -((k : Int) * 1000000) ≤ S ∧ S ≤ (k : Int) * 1000000 ∧ Hid (Below w1.heap.size w1 wr)) (fun _ _ i _ => l.length - (intOf i).toNat)
    case atStart => exact ⟨0, x, 0, by omega, rfl, rfl, rfl, HS, by omega, by omega, hidE (Below.refl _ _)⟩
    case round =>
      obtain ⟨k, A, S, hk, rfl, rfl, rfl, HG, s1, s2, HB⟩ := hrel
      have xr := blk_below HB.out hsz Y0.out
      have e1 : wr.cell? ⟨w.heap.size, 1, none⟩ = some (.slice a bs.length cap) := by rw [cell_of_row _ _ _ _ _ _ xr]; rfl
      have lr := lt_of_block xr
      have bw : Below w.heap.size w wr := HB1.out.trans (HB.out.mono HB1.out.size)
      by_cases hlt : k < l.length
      · obtain ⟨b, off, rfl, hbl, hck⟩ := (H2.out.below bw (Nat.le_refl _)).at hlt
        obtain ⟨q, hq⟩ : ∃ q : Nat, l[k] = (q : Int) := by
          have := HALL.out l[k] (List.getElem_mem hlt)
          exact ⟨l[k].toNat, by omega⟩
        have hqb : q < bs.length := by
          have := HALL.out l[k] (List.getElem_mem hlt)
          omega
        rw [hq] at hck
        obtain ⟨b2, off2, rfl, hbl2, hcs⟩ := (H.out.below bw (Nat.le_refl _)).at hqb
        obtain ⟨c0, c1, c2, c3⟩ := hcs
        have hstep := sumGo_step (y := y) (A := A) (S := S) hlt hqb hq
        have hm := HV.out bs[q] (List.getElem_mem hqb)
        obtain ⟨z, hz⟩ : ∃ z, bs[q] = z := ⟨_, rfl⟩
        rw [hz] at c0 c1 c2 c3 hstep hm
        obtain ⟨xs, xd, xm, xr'⟩ := z
        simp only at c0 c1 c2 c3 hstep hm
        have hw : IntKind.i64.wrap (S + xm) = S + xm := IntWalk.i64_in _ (by have := HBIG.out; omega)
        have BW := hidE bw
        cases hne : (xs != A) with
        | true =>
          rw [hne, if_pos rfl] at hstep
          have HST := hidE hstep
          clear hstep hz hq hm xr bw hw
          go_wp2_with fail
          go_ret2
          exact ⟨by rw [HG.out, HST.out]; rfl, BW.out.trans ((Below.refl _ _).alloc (Nat.le_of_lt lr) _)⟩
        | false =>
          rw [hne, if_neg (by simp)] at hstep
          have HST := hidE hstep
          have t1 : -(((k + 1 : Nat) : Int) * 1000000) ≤ S + xm := by omega
          have t2 : S + xm ≤ ((k + 1 : Nat) : Int) * 1000000 := by omega
          have T1 := hidE t1
          have T2 := hidE t2
          clear hstep hz hq hm xr bw t1 t2
          go_wp2_with fail
          go_quiet (fail)
          go_wp2_with fail
          go_roundw
          case rel => exact ⟨k + 1, xd, S + xm, by omega, by go_num, rfl, rfl, hidE (by rw [HG.out, HST.out]), T1.out, T2.out, hidE ((HB.out.alloc HB.out.size _).trans (below_drewN' _ _))⟩
          case measure => simp [intOf]; omega
      · have hend := sumGo_end (bs := bs) (y := y) (A := A) (S := S) hlt
        have HE := hidE hend
        have BW := hidE bw
        clear hend xr bw
        go_wp2_with fail
        go_ret2
        exact ⟨by rw [HG.out, HE.out]; rfl, BW.out⟩

/-- CheckPath: whether a list is a path of at most that sum, and the error. -/
def checkPathE (N : Int) (bs : List Bd) (l : List Int) (x y m : Int) : Bool × Int :=
  if checkP N bs ≠ 0 then (false, checkP N bs) else if pointP N [x, y] ≠ 0 then (false, pointP N [x, y]) else ((sumP bs l x y).2 && decide ((sumP bs l x y).1 ≤ m), 0)

set_option maxRecDepth 100000 in
set_option maxHeartbeats 2000000 in
theorem checkPath_any (w : World) (N : Int) (a : Option Addr) (cap : Nat) (bs : List Bd) (a2 : Option Addr) (cap2 : Nat) (l : List Int) (x y m : Int) (hN : i64ok N) (hl : bs.length ≤ 9223372036854775807) (hl2 : l.length ≤ 9223372036854775807) (h : BoundsAt w a bs) (h2 : IntsAt w a2 l) :
    Calls Try.prog 70 #[.agg #[.int .i64 N, .slice a bs.length cap], .slice a2 l.length cap2, .int .i64 x, .int .i64 y, .int .i64 m] w fun e w' => e = .returned (.tuple #[.bool (checkPathE N bs l x y m).1, .int .i64 (checkPathE N bs l x y m).2]) ∧ Below w.heap.size w w' := by
  have b0 : Below w.heap.size w (w.alloc (.cells #[.int .i64 N, .slice a bs.length cap] 24)) := (Below.refl _ _).alloc (Nat.le_refl _) _
  obtain ⟨cc, hcc⟩ : ∃ t, checkP N bs = t := ⟨_, rfl⟩
  have hck := fun W hb => check_any W N a cap bs hN hl hb
  rw [hcc] at hck
  have B0 := hidE b0
  have H := hidE h
  have H2 := hidE h2
  have HCK := hidE hck
  have HCC := hidE hcc
  clear b0 h h2 hck hcc
  by_cases hc : cc = 0
  · subst hc
    obtain ⟨n0, n1, n2, nv⟩ := checkP_zero HCC.out
    have hsm := fun W hb hb2 => sum_any W N a cap bs a2 cap2 l x y hl hl2 (fun b hb => by obtain ⟨q, _⟩ := nv b hb; exact ⟨q.2.2.2.2.1, q.2.2.2.2.2⟩) hb hb2
    have hpt := fun W b2 hb => point_any W N (.slice a bs.length cap) (some ⟨b2, 0, none⟩) 2 [x, y] n0 n1 (by simp) hb
    simp only [List.length_cons, List.length_nil] at hpt
    obtain ⟨pp, hpp⟩ : ∃ t, pointP N [x, y] = t := ⟨_, rfl⟩
    rw [hpp] at hpt
    obtain ⟨s1, hs1⟩ : ∃ t, (sumP bs l x y).1 = t := ⟨_, rfl⟩
    obtain ⟨s2, hs2⟩ : ∃ t, (sumP bs l x y).2 = t := ⟨_, rfl⟩
    rw [hs1, hs2] at hsm
    have hE : checkPathE N bs l x y m = if pp ≠ 0 then (false, pp) else (s2 && decide (s1 ≤ m), 0) := by unfold checkPathE; rw [if_neg (by simp [HCC.out]), hpp, hs1, hs2]
    have HSM := hidE hsm
    have HPT := hidE hpt
    have HE := hidE hE
    clear hsm hpt hE n0 n1 n2 nv hpp hs1 hs2
    go_enter Try.func70, Try.ntmps70
    go_wp2_with fail
    refine (HCK.out _ (H.out.alloc _)).mono ?_
    rintro e w1 ⟨rfl, hb1⟩
    have y0 := blk_below hb1 (by simp) (heap_alloc_new w (.cells #[.int .i64 N, .slice a bs.length cap] 24))
    have e0 : w1.cell? ⟨w.heap.size, 0, none⟩ = some (.int .i64 N) := by rw [cell_of_row _ _ _ _ _ _ y0]; rfl
    have e1 : w1.cell? ⟨w.heap.size, 1, none⟩ = some (.slice a bs.length cap) := by rw [cell_of_row _ _ _ _ _ _ y0]; rfl
    have Y0 := hidE y0
    have B1 := hidE (B0.out.trans (hb1.mono B0.out.size))
    have l0 : w.heap.size < w1.heap.size := lt_of_block y0
    clear y0 hb1
    go_wp2_with fail
    refine (HPT.out _ _ (ints_two w1 x y)).mono ?_
    rintro e w2 ⟨rfl, hb2⟩
    have hb2' : Below w1.heap.size w1 w2 := ((Below.refl _ _).alloc (Nat.le_refl _) _).trans (hb2.mono (by simp))
    have y2 := blk_below hb2' (lt_of_block Y0.out) Y0.out
    have f0 : w2.cell? ⟨w.heap.size, 0, none⟩ = some (.int .i64 N) := by rw [cell_of_row _ _ _ _ _ _ y2]; rfl
    have f1 : w2.cell? ⟨w.heap.size, 1, none⟩ = some (.slice a bs.length cap) := by rw [cell_of_row _ _ _ _ _ _ y2]; rfl
    have B2 := hidE (B1.out.trans (hb2'.mono B1.out.size))
    clear e0 e1 y2 hb2 hb2'
    by_cases hp : pp = 0
    · subst hp
      obtain ⟨c, hcm⟩ : ∃ c, decide (s1 ≤ m) = c := ⟨_, rfl⟩
      have hE := HE.out
      rw [if_neg (by simp), hcm] at hE
      have HE2 := hidE hE
      clear hE
      go_wp2_with fail
      refine (HSM.out _ (H.out.below B2.out (Nat.le_refl _)) (H2.out.below B2.out (Nat.le_refl _))).mono ?_
      rintro e w3 ⟨rfl, hb3⟩
      have B3 := hidE (B2.out.trans (hb3.mono B2.out.size))
      clear hb3
      cases s2 <;>
        (go_wp2_with fail
         go_ret2
         exact ⟨by rw [HE2.out]; rfl, B3.out⟩)
    · have hb : (pp != 0) = true := by simpa using hp
      have hE := HE.out
      rw [if_pos hp] at hE
      have HE2 := hidE hE
      clear hE hp
      go_wp2_with fail
      go_ret2
      exact ⟨by rw [HE2.out]; rfl, B2.out⟩
  · have hb : (cc != 0) = true := by simpa using hc
    have hb' : (cc == 0) = false := by simpa using hc
    have hE : checkPathE N bs l x y m = (false, cc) := by unfold checkPathE; rw [if_pos (by rw [HCC.out]; exact hc), HCC.out]
    have HE := hidE hE
    clear hE hc
    go_enter Try.func70, Try.ntmps70
    go_wp2_with fail
    refine (HCK.out _ (H.out.alloc _)).mono ?_
    rintro e w1 ⟨rfl, hb1⟩
    go_wp2_with fail
    go_ret2
    exact ⟨by rw [HE.out]; rfl, B0.out.trans (hb1.mono B0.out.size)⟩

end Go.Proofs.Ytejbpoclfjkllaa
