/- What the law AreaForms needs beyond the base: Wa, Y1, PlQ, Mf4, Ad, Y3, Ae, Sd, Rf1, Mf7, Du1, Rf2, Y5, Rf3, Al1, Lm. No conditions beyond those stated. -/
import Derived.Test.YthjmkmjojlfejaaGreatB01
import Derived.Test.YthjmkmjojlfejaaGreatProg
import Derived.WalkKit
import Derived.Handy
import Derived.RangeFuncRecord
import Derived.Shelf.Abstract
import Derived.Test.YthjmkmjojlfejaaGreatB02
import Derived.Deep.QuietTactic
import Derived.BigQuiet
import Derived.Laws.CopyOwn
import Derived.WalkSmall
import Derived.RangeFuncNested
import Derived.RangeFuncBound
import Derived.RangeFuncCalls
import Derived.RangeFuncLeaves
import Derived.Shelf.RegionOpen
import Derived.OwnWalkIn
import Derived.TacticsInMore
import Derived.LoopNIn
import Derived.LoopIn
import Derived.Maps.AppendAt
import Derived.Deep.Onto
import Derived.OrdersHeld
import Derived.Deep.LoopGhost
import Derived.Deep.WholeRow
import Derived.Deep.OwnRows
import Derived.StillTailTactics
import Derived.Great.Walk
import Derived.Great.BuildSlice
import Derived.WalkMore
import Derived.Deep.MidRow
import Derived.Deep.RegionHeld3
import Derived.Deep.DeepCutAuto
import Derived.Shelf.Small.Bits
import Derived.Shelf.Small.Wraps
import Derived.Shelf.Strconv.Itoa0
import Derived.Shelf.Sort.Plain
import Derived.Shelf.Slices.Turned
import Derived.Ground.Names2Prog
import Derived.Shelf.Slices.CompactI
import Derived.Shelf.Slices.SearchI
import Derived.Shelf.Slices.Cells
import Derived.Shelf.Slices.In.SortNone
import Derived.Lib.OwnBridge
import Derived.Lib.SliceRun
import Derived.WalkSpells
import Derived.Deep.RegionWith
import Derived.Lib.AppendZerosOnto
import Derived.Deep.CutBlock
import Derived.Test.YthjmkmjojlfejaaGreatB03
import Derived.IntWalk
import Derived.Test.YthjmkmjojlfejaaGreatB05
import Derived.Test.YthjmkmjojlfejaaGreatB07
import Derived.Test.YthjmkmjojlfejaaGreatB06
import Derived.Test.YthjmkmjojlfejaaGreatB04
import Derived.Test.YthjmkmjojlfejaaGreatB12
import Derived.Test.YthjmkmjojlfejaaGreatB11
import Derived.Test.YthjmkmjojlfejaaGreatB10
import Derived.Test.YthjmkmjojlfejaaGreatB13
import Derived.Test.YthjmkmjojlfejaaGreatB09
import Derived.Test.YthjmkmjojlfejaaGreatB08
import Derived.Scope

namespace Go.Proofs.YthjmkmjojlfejaaGreat
open Go Go.RowKit Go.Shelf
theorem refwithin_any (n a b : Int) (w : World) : Calls Tryz.prog 180 #[.int .i64 n, .int .i64 a, .int .i64 b] w fun e w' => e = .returned (.bool (inR n a b)) ∧ w = w' := by
  unfold inR
  go_enter Tryz.func180, Tryz.ntmps180
  go_wp2
  all_goals go_ret
  all_goals refine ⟨?_, rfl⟩
  all_goals simp [*]
  omega
end Go.Proofs.YthjmkmjojlfejaaGreat

namespace Go.Proofs.YthjmkmjojlfejaaGreat
open Go Go.RowKit Go.Shelf
theorem refwithin_at {n a b : Int} {r : Bool} (h : inR n a b = r) (w : World) : Calls Tryz.prog 180 #[.int .i64 n, .int .i64 a, .int .i64 b] w fun e w' => e = .returned (.bool r) ∧ w = w' := by
  rw [← h]; exact refwithin_any n a b w
theorem checkP_bad {N : Int} {bs : List Bd} (h1 : ¬ 128 < N) (h2 : ¬ 2000 < bs.length) (h3 : ¬ N < 1) {k : Nat} (hk : k < bs.length) (hb : badB N bs[k] = true) : checkP N bs = 1 := by
  rw [checkP, if_neg (by omega), checkedP, if_neg h3, any_of_at hk hb]; rfl
set_option maxHeartbeats 2000000 in
theorem refcheck_any (w : World) (N : Int) (a : Option Addr) (cap : Nat) (bs : List Bd) (hN : i64ok N) (hl : bs.length ≤ 9223372036854775807) (h : BoundsAt w a bs) :
    Calls Tryz.prog 130 #[.agg #[.int .i64 N, .slice a bs.length cap]] w fun e w' => e = .returned (.int .i64 (checkP N bs)) ∧ Below w.heap.size w w' := by
  unfold i64ok at hN
  by_cases h1 : 128 < N
  · have e : checkP N bs = 2 := by simp [checkP, h1]
    have E := hidE e
    have hd : decide (N > 128) = true := by simpa using h1
    clear e
    go_enter Tryz.func130, Tryz.ntmps130
    go_wp2
    go_ret
    exact ⟨by rw [E.out]; rfl, by go_grown⟩
  have hd1 : decide (N > 128) = false := by simpa using h1
  by_cases h2 : 2000 < bs.length
  · have e : checkP N bs = 2 := by simp [checkP, h2]
    have E := hidE e
    have hd : decide ((bs.length : Int) > 2000) = true := by simp; omega
    clear e
    go_enter Tryz.func130, Tryz.ntmps130
    go_wp2
    go_ret
    exact ⟨by rw [E.out]; rfl, by go_grown⟩
  have hd2 : decide ((bs.length : Int) > 2000) = false := by simp; omega
  by_cases h3 : N < 1
  · have e : checkP N bs = 1 := by rw [checkP, if_neg (by omega), checkedP, if_pos h3]
    have E := hidE e
    clear e
    go_enter Tryz.func130, Tryz.ntmps130
    go_wp2
    go_ret
    exact ⟨by rw [E.out]; rfl, by go_grown⟩
  have hw1 : IntKind.i64.wrap (N - 1) = N - 1 := IntWalk.i64_in _ (by omega)
  go_enter Tryz.func130, Tryz.ntmps130
  go_wp2
  go_loopw [3] (fun i wr => ∃ k : Nat, k ≤ bs.length ∧ i = .int .i64 k ∧ Hid ((bs.take k).any (badB N) = false) ∧ Hid (wr.heap[w.heap.size]? = some (.cells #[.int .i64 N, .slice a bs.length cap] 24 (0,0))) ∧ Below w.heap.size w wr)
      (fun i _ => bs.length - (intOf i).toNat)
  case atStart => exact ⟨0, by omega, rfl, hidE rfl, hidE (heap_alloc_new _ _), by go_grown⟩
  case round =>
    obtain ⟨k, hk, rfl, HA, HS, hb⟩ := hrel
    have hc0 : wr.cell? ⟨w.heap.size, 0, none⟩ = some (.int .i64 N) := by rw [cell_of_row _ _ _ _ _ _ HS.out]; rfl
    have hc1 : wr.cell? ⟨w.heap.size, 1, none⟩ = some (.slice a bs.length cap) := by rw [cell_of_row _ _ _ _ _ _ HS.out]; rfl
    have hsz : w.heap.size < wr.heap.size := lt_of_block HS.out
    by_cases hlt : k < bs.length
    · obtain ⟨b, off, rfl, hbl, hcs⟩ := h.at hlt
      obtain ⟨c0, c1, c2, c3⟩ := hcs.below hb hbl
      obtain ⟨x, hx⟩ : ∃ x, bs[k] = x := ⟨_, rfl⟩
      rw [hx] at c0 c1 c2 c3
      have hbad : badB N bs[k] = (!inR x.src 0 (N - 1) || !inR x.dst 0 (N - 1) || x.src == x.dst || !inR x.most (-1000000) 1000000 || !inR x.rcd 0 1000000) := by rw [hx]; rfl
      obtain ⟨r1, q1⟩ : ∃ r, inR x.src 0 (N - 1) = r := ⟨_, rfl⟩
      obtain ⟨r2, q2⟩ : ∃ r, inR x.dst 0 (N - 1) = r := ⟨_, rfl⟩
      obtain ⟨r3, q3⟩ : ∃ r, inR x.most (-1000000) 1000000 = r := ⟨_, rfl⟩
      obtain ⟨r4, q4⟩ : ∃ r, inR x.rcd 0 1000000 = r := ⟨_, rfl⟩
      rw [q1, q2, q3, q4] at hbad
      have HH := hidE h
      have HB := hidE hbad
      have Q1 := hidE q1
      have Q2 := hidE q2
      have Q3 := hidE q3
      have Q4 := hidE q4
      obtain ⟨xs, xd, xm, xr⟩ := x
      simp only at c0 c1 c2 c3
      clear hcs h hx hbad q1 q2 q3 q4
      have stay : badB N bs[k] = false → ∃ k' : Nat, k' ≤ bs.length ∧ Value.int .i64 ((k : Int) + 1) = .int .i64 k' ∧ Hid ((bs.take k').any (badB N) = false) := fun hf => ⟨k + 1, by omega, by go_num, hidE (take_any_succ hlt HA.out hf)⟩
      have ST := hidE stay
      have CB := hidE (fun hf : badB N bs[k] = true => checkP_bad (by omega) (by omega) (by omega) hlt hf)
      clear stay
      cases r1 with
      | false =>
        go_wp2_with (go_at_call 180; first | ((with_reducible refine (refwithin_at Q1.out _).mono ?_); rintro e w' ⟨rfl, rfl⟩))
        go_ret
        exact ⟨by rw [CB.out (by rw [HB.out]; rfl)]; rfl, by go_grown⟩
      | true =>
        cases r2 with
        | false =>
          go_wp2_with (go_at_call 180; first | ((with_reducible refine (refwithin_at Q1.out _).mono ?_); rintro e w' ⟨rfl, rfl⟩) | ((with_reducible refine (refwithin_at Q2.out _).mono ?_); rintro e w' ⟨rfl, rfl⟩))
          go_ret
          exact ⟨by rw [CB.out (by rw [HB.out]; rfl)]; rfl, by go_grown⟩
        | true =>
          cases r3 with
          | false =>
            go_wp2_with (go_at_call 180; first | ((with_reducible refine (refwithin_at Q1.out _).mono ?_); rintro e w' ⟨rfl, rfl⟩) | ((with_reducible refine (refwithin_at Q2.out _).mono ?_); rintro e w' ⟨rfl, rfl⟩) | ((with_reducible refine (refwithin_at Q3.out _).mono ?_); rintro e w' ⟨rfl, rfl⟩))
            go_ret
            exact ⟨by rw [CB.out (by rw [HB.out]; simp)]; rfl, by go_grown⟩
          | true =>
            cases r4 with
            | false =>
              go_wp2_with (go_at_call 180; first | ((with_reducible refine (refwithin_at Q1.out _).mono ?_); rintro e w' ⟨rfl, rfl⟩) | ((with_reducible refine (refwithin_at Q2.out _).mono ?_); rintro e w' ⟨rfl, rfl⟩) | ((with_reducible refine (refwithin_at Q3.out _).mono ?_); rintro e w' ⟨rfl, rfl⟩) | ((with_reducible refine (refwithin_at Q4.out _).mono ?_); rintro e w' ⟨rfl, rfl⟩))
              go_ret
              exact ⟨by rw [CB.out (by rw [HB.out]; simp)]; rfl, by go_grown⟩
            | true =>
              by_cases he : xs = xd
              · have hbe : (xs == xd) = true := by simpa using he
                have HBE := hidE hbe
                go_wp2_with (go_at_call 180; first | ((with_reducible refine (refwithin_at Q1.out _).mono ?_); rintro e w' ⟨rfl, rfl⟩) | ((with_reducible refine (refwithin_at Q2.out _).mono ?_); rintro e w' ⟨rfl, rfl⟩) | ((with_reducible refine (refwithin_at Q3.out _).mono ?_); rintro e w' ⟨rfl, rfl⟩) | ((with_reducible refine (refwithin_at Q4.out _).mono ?_); rintro e w' ⟨rfl, rfl⟩))
                go_ret
                exact ⟨by rw [CB.out (by rw [HB.out, HBE.out]; simp)]; rfl, by go_grown⟩
              · have hbe : (xs == xd) = false := by simpa using he
                have HBE := hidE hbe
                go_wp2_with (go_at_call 180; first | ((with_reducible refine (refwithin_at Q1.out _).mono ?_); rintro e w' ⟨rfl, rfl⟩) | ((with_reducible refine (refwithin_at Q2.out _).mono ?_); rintro e w' ⟨rfl, rfl⟩) | ((with_reducible refine (refwithin_at Q3.out _).mono ?_); rintro e w' ⟨rfl, rfl⟩) | ((with_reducible refine (refwithin_at Q4.out _).mono ?_); rintro e w' ⟨rfl, rfl⟩))
                go_roundw
                case rel =>
                  obtain ⟨k', g1, g2, g3⟩ := ST.out (by rw [HB.out, HBE.out]; rfl)
                  exact ⟨k', g1, g2, g3, hidE ((Below.heap_alloc _ _ _ hsz).trans HS.out), by go_grown⟩
                case measure => simp [intOf]; omega
    · have e : checkP N bs = 0 := by rw [checkP, if_neg (by omega), checkedP, if_neg (by omega), any_of_take (by omega) HA.out]; rfl
      have E := hidE e
      clear e
      go_wp2
      go_ret
      exact ⟨by rw [E.out]; rfl, hb⟩
end Go.Proofs.YthjmkmjojlfejaaGreat

namespace Go.Proofs.YthjmkmjojlfejaaGreat
def keptB (y : List Int) (b : Bd) : Bool := decide (b.most < getI y b.dst - getI y b.src)
/-- Kept: the index, whether all are kept, the error. -/
def keptE (N : Int) (bs : List Bd) (y : List Int) : Int × Bool × Int :=
  if checkP N bs ≠ 0 then (0, false, checkP N bs) else if valuesB N y = false then (0, false, 1) else (max (idxOf (keptB y) bs) 0, decide (idxOf (keptB y) bs < 0), 0)
/-- Values that keep a system. -/
structure Keeps (N : Nat) (bs : List Bd) (y : List Int) : Prop where
  len : y.length = N
  zero : y.getD 0 0 = 0
  bd : ∀ v ∈ y, -400000000 ≤ v ∧ v ≤ 400000000
  pot : Pot y bs
end Go.Proofs.YthjmkmjojlfejaaGreat

namespace Go.Proofs.YthjmkmjojlfejaaGreat
def costFrom (flow : List Int) : Nat → List Bd → Int
  | _, [] => 0
  | i, b :: bs => flow.getD i 0 * b.most + costFrom flow (i + 1) bs
def costOf (bs : List Bd) (flow : List Int) : Int := costFrom flow 0 bs
end Go.Proofs.YthjmkmjojlfejaaGreat

namespace Go.Proofs.YthjmkmjojlfejaaGreat
open Go Go.RowKit Go.Shelf
/-- Whether all points from 1 on below k get what they shall. -/
def carriedTo (bs : List Bd) (flow w : List Int) (k : Nat) : Bool := (List.range k).all fun p => p == 0 || netOf bs flow p == w.getD p 0
def carriesP (N : Nat) (bs : List Bd) (w flow : List Int) : Int × Bool := if carriedTo bs flow w N then (costOf bs flow, true) else (0, false)
end Go.Proofs.YthjmkmjojlfejaaGreat

namespace Go.Proofs.YthjmkmjojlfejaaGreat
open Go Go.RowKit Go.Shelf
set_option maxHeartbeats 1000000 in
theorem refvalues_any (w : World) (N : Int) (sv : Value) (a : Option Addr) (cap : Nat) (y : List Int) (hN0 : 1 ≤ N) (hl : y.length ≤ 9223372036854775807) (h : IntsAt w a y) :
    Calls Tryz.prog 148 #[.agg #[.int .i64 N, sv], .slice a y.length cap] w fun e w' => e = .returned (.bool (valuesB N y)) ∧ Below w.heap.size w w' := by
  by_cases h1 : (y.length : Int) = N
  · have h1b : ((y.length : Int) != N) = false := by simpa using h1
    have h1c : ((y.length : Int) == 0) = false := beq_eq_false_iff_ne.2 (by omega)
    have hlt : 0 < y.length := by omega
    obtain ⟨b, off, rfl, hbl, hc⟩ := h.at hlt
    have hg : y.getD 0 0 = y[0] := getD_get y 0 hlt
    obtain ⟨v, hv⟩ : ∃ v, y[0] = v := ⟨_, rfl⟩
    rw [hv] at hc hg
    rw [Nat.add_zero] at hc
    by_cases h2 : v = 0
    · have h2b : (v != 0) = false := by simpa using h2
      have hval : valuesB N y = !(y.any fun v => !inR v (-400000000) 400000000) := by unfold valuesB; rw [hg, h1]; simp [h2]
      have HV := hidE hval
      have H := hidE h
      have HH1 := hidE h1
      clear hval hg hv h2 h h1
      go_enter Tryz.func148, Tryz.ntmps148
      go_wp2_with fail
      go_loopw [5] (fun i wr => ∃ k : Nat, k ≤ y.length ∧ i = .int .i64 k ∧ Hid ((y.take k).any (fun v => !inR v (-400000000) 400000000) = false) ∧ Below w.heap.size w wr) (fun i _ => y.length - (intOf i).toNat)
      case atStart => exact ⟨0, by omega, rfl, hidE rfl, by go_grown⟩
      case round =>
        obtain ⟨k, hk, rfl, HA, hb⟩ := hrel
        clear hc
        by_cases hlt2 : k < y.length
        · obtain ⟨b', off', e', _, hck⟩ := (H.out.below hb (Nat.le_refl _)).at hlt2
          cases e'
          obtain ⟨x, hx⟩ : ∃ x, y[k] = x := ⟨_, rfl⟩
          rw [hx] at hck
          obtain ⟨r, hr⟩ : ∃ r, inR x (-400000000) 400000000 = r := ⟨_, rfl⟩
          have HX := hidE hx
          have HR := hidE hr
          clear hx hr
          cases r with
          | false =>
            have hq := any_of_at (p := fun v => !inR v (-400000000) 400000000) hlt2 (by rw [HX.out, HR.out]; rfl)
            have HQ := hidE hq
            clear hq
            go_wp2_with (go_at_call 180; refine (refwithin_at HR.out _).mono ?_; rintro e w' ⟨rfl, rfl⟩)
            go_ret
            exact ⟨by rw [HV.out, HQ.out]; rfl, hb⟩
          | true =>
            go_wp2_with (go_at_call 180; refine (refwithin_at HR.out _).mono ?_; rintro e w' ⟨rfl, rfl⟩)
            go_roundw
            case rel => exact ⟨k + 1, by omega, by go_num, hidE (take_any_succ hlt2 HA.out (by rw [HX.out, HR.out]; rfl)), hb⟩
            case measure => simp [intOf]; omega
        · have hq := any_of_take (p := fun v => !inR v (-400000000) 400000000) (by omega) HA.out
          have HQ := hidE hq
          clear hq
          go_wp2_with fail
          go_ret
          exact ⟨by rw [HV.out, HQ.out]; rfl, hb⟩
    · have h2b : (v != 0) = true := by simpa using h2
      have hval : valuesB N y = false := by unfold valuesB; rw [hg]; simp [h2]
      have HV := hidE hval
      clear hval hg hv h2 h h1
      go_enter Tryz.func148, Tryz.ntmps148
      go_wp2_with fail
      go_ret
      exact ⟨by rw [HV.out]; rfl, by go_grown⟩
  · have h1b : ((y.length : Int) != N) = true := by simpa using h1
    have hval : valuesB N y = false := by unfold valuesB; simp [h1]
    have HV := hidE hval
    clear hval h1 h
    go_enter Tryz.func148, Tryz.ntmps148
    go_wp2_with fail
    go_ret
    exact ⟨by rw [HV.out]; rfl, by go_grown⟩
end Go.Proofs.YthjmkmjojlfejaaGreat

namespace Go.Proofs.YthjmkmjojlfejaaGreat
open Go Go.RowKit Go.Shelf
theorem weighed_bd {N : Int} {x : List Int} (h : weighedB N x = true) : (x.length : Int) = N ∧ ∀ v ∈ x, -1000000 ≤ v ∧ v ≤ 1000000 := by
  unfold weighedB at h
  simp only [Bool.and_eq_true, decide_eq_true_eq, List.all_eq_true] at h
  refine ⟨h.1.1, fun v hv => ?_⟩
  have := h.2 v hv
  unfold inR at this
  simpa using this
def formE (N : Int) (bs : List Bd) (x y : List Int) : Int × Int := if checkP N bs ≠ 0 then (0, checkP N bs) else if weighedB N x = false ∨ valuesB N y = false then (0, 1) else (formP x y, 0)
def flowE (N : Int) (bs : List Bd) (x flow : List Int) (most : Int) : Bool × Int :=
  if checkP N bs ≠ 0 then (false, checkP N bs) else if weighedB N x = false then (false, 1) else if flowingB bs.length flow = false then (false, 0) else ((carriesP N.toNat bs x flow).2 && decide ((carriesP N.toNat bs x flow).1 ≤ most), 0)
def bestE (N : Int) (bs : List Bd) (x y flow : List Int) : Bool × Int :=
  if checkP N bs ≠ 0 then (false, checkP N bs) else if weighedB N x = false ∨ valuesB N y = false then (false, 1) else if (keptE N bs y).2.1 = false ∨ flowingB bs.length flow = false then (false, 0)
  else ((carriesP N.toNat bs x flow).2 && ((carriesP N.toNat bs x flow).1 == formP x y), 0)
set_option maxHeartbeats 2000000 in
theorem formE_any (w : World) (N : Int) (a : Option Addr) (cap : Nat) (bs : List Bd) (a2 : Option Addr) (cap2 : Nat) (x : List Int) (a3 : Option Addr) (cap3 : Nat) (y : List Int) (hN : i64ok N) (hl : bs.length ≤ 9223372036854775807) (h : BoundsAt w a bs) (hl2 : x.length ≤ 9223372036854775807) (h2 : IntsAt w a2 x) (hl3 : y.length ≤ 9223372036854775807) (h3 : IntsAt w a3 y) :
    Calls Tryz.prog 39 #[.agg #[.int .i64 N, .slice a bs.length cap], .slice a2 x.length cap2, .slice a3 y.length cap3] w fun e w' => e = .returned (.tuple #[.int .i64 (formE N bs x y).1, .int .i64 (formE N bs x y).2]) ∧ Below w.heap.size w w' := by
  have B0 := hidE (show Below w.heap.size w (w.alloc (.cells #[.int .i64 N, .slice a bs.length cap] 24)) from (Below.refl _ _).alloc (Nat.le_refl _) _)
  have hch := check_any (w.alloc (.cells #[.int .i64 N, .slice a bs.length cap] 24)) N a cap bs hN hl (h.alloc _)
  obtain ⟨P1, hP1⟩ : ∃ z, (formE N bs x y).1 = z := ⟨_, rfl⟩
  obtain ⟨P2, hP2⟩ : ∃ z, (formE N bs x y).2 = z := ⟨_, rfl⟩
  rw [hP1, hP2]
  have H := hidE h
  have HN := hidE hN
  have H2 := hidE h2
  have H3 := hidE h3
  clear h h2 h3 hN
  by_cases z : checkP N bs = 0
  · rw [z] at hch
    obtain ⟨R, rfl, hR1, hR2, hbl, hv⟩ := allOk_of z
    have HZ := hidE z
    have HCH := hidE hch
    have HV := hidE hv
    clear z hch hv
    have HWE := hidE (fun W hy => weighed_any W (R : Int) a2 cap2 x hl2 hy)
    have HVA := hidE (fun W hy => valued_any W (R : Int) a3 cap3 y (by omega) hl3 hy)
    cases hq : weighedB (R : Int) x with
    | false =>
      unfold formE at hP1 hP2
      rw [if_neg (by have := HZ.out; omega), if_pos (.inl hq)] at hP1 hP2
      obtain rfl : (0 : Int) = P1 := hP1
      obtain rfl : (1 : Int) = P2 := hP2
      rw [hq] at HWE
      clear hq
      go_enter Tryz.func39, Tryz.ntmps39
      go_wp2_with fail
      refine (HCH.out).mono ?_
      rintro e w1 ⟨rfl, hb1⟩
      have x1 := blk_below hb1 (by simp) (heap_alloc_new w (.cells #[.int .i64 (R : Int), .slice a bs.length cap] 24))
      have c0_1 : w1.cell? ⟨w.heap.size, 0, none⟩ = some (.int .i64 (R : Int)) := by rw [cell_of_row _ _ _ _ _ _ x1]; rfl
      have c1_1 : w1.cell? ⟨w.heap.size, 1, none⟩ = some (.slice a bs.length cap) := by rw [cell_of_row _ _ _ _ _ _ x1]; rfl
      have l1 := lt_of_block x1
      have B1 := hidE (B0.out.trans (hb1.mono B0.out.size))
      have X1 := hidE x1
      clear hb1 x1
      go_wp2_with fail
      refine (HWE.out _ ((H2).out.below B1.out (Nat.le_refl _))).mono ?_
      rintro e w2 ⟨rfl, hb2⟩
      have x2 := blk_below hb2 l1 X1.out
      have c0_2 : w2.cell? ⟨w.heap.size, 0, none⟩ = some (.int .i64 (R : Int)) := by rw [cell_of_row _ _ _ _ _ _ x2]; rfl
      have c1_2 : w2.cell? ⟨w.heap.size, 1, none⟩ = some (.slice a bs.length cap) := by rw [cell_of_row _ _ _ _ _ _ x2]; rfl
      have l2 := lt_of_block x2
      have B2 := hidE (B1.out.trans (hb2.mono B1.out.size))
      have X2 := hidE x2
      clear hb2 x2 c0_1 c1_1
      go_wp2_with fail
      go_ret2
      exact ⟨rfl, B2.out⟩
    | true =>
      have HB := hidE (weighed_bd hq)
      rw [hq] at HWE
      cases hu : valuesB (R : Int) y with
      | false =>
        unfold formE at hP1 hP2
        rw [if_neg (by have := HZ.out; omega), if_pos (.inr hu)] at hP1 hP2
        obtain rfl : (0 : Int) = P1 := hP1
        obtain rfl : (1 : Int) = P2 := hP2
        rw [hu] at HVA
        clear hq hu
        go_enter Tryz.func39, Tryz.ntmps39
        go_wp2_with fail
        refine (HCH.out).mono ?_
        rintro e w1 ⟨rfl, hb1⟩
        have x1 := blk_below hb1 (by simp) (heap_alloc_new w (.cells #[.int .i64 (R : Int), .slice a bs.length cap] 24))
        have c0_1 : w1.cell? ⟨w.heap.size, 0, none⟩ = some (.int .i64 (R : Int)) := by rw [cell_of_row _ _ _ _ _ _ x1]; rfl
        have c1_1 : w1.cell? ⟨w.heap.size, 1, none⟩ = some (.slice a bs.length cap) := by rw [cell_of_row _ _ _ _ _ _ x1]; rfl
        have l1 := lt_of_block x1
        have B1 := hidE (B0.out.trans (hb1.mono B0.out.size))
        have X1 := hidE x1
        clear hb1 x1
        go_wp2_with fail
        refine (HWE.out _ ((H2).out.below B1.out (Nat.le_refl _))).mono ?_
        rintro e w2 ⟨rfl, hb2⟩
        have x2 := blk_below hb2 l1 X1.out
        have c0_2 : w2.cell? ⟨w.heap.size, 0, none⟩ = some (.int .i64 (R : Int)) := by rw [cell_of_row _ _ _ _ _ _ x2]; rfl
        have c1_2 : w2.cell? ⟨w.heap.size, 1, none⟩ = some (.slice a bs.length cap) := by rw [cell_of_row _ _ _ _ _ _ x2]; rfl
        have l2 := lt_of_block x2
        have B2 := hidE (B1.out.trans (hb2.mono B1.out.size))
        have X2 := hidE x2
        clear hb2 x2 c0_1 c1_1
        go_wp2_with fail
        refine (HVA.out _ ((H3).out.below B2.out (Nat.le_refl _))).mono ?_
        rintro e w3 ⟨rfl, hb3⟩
        have x3 := blk_below hb3 l2 X2.out
        have c0_3 : w3.cell? ⟨w.heap.size, 0, none⟩ = some (.int .i64 (R : Int)) := by rw [cell_of_row _ _ _ _ _ _ x3]; rfl
        have c1_3 : w3.cell? ⟨w.heap.size, 1, none⟩ = some (.slice a bs.length cap) := by rw [cell_of_row _ _ _ _ _ _ x3]; rfl
        have l3 := lt_of_block x3
        have B3 := hidE (B2.out.trans (hb3.mono B2.out.size))
        have X3 := hidE x3
        clear hb3 x3 c0_2 c1_2
        go_wp2_with fail
        go_ret2
        exact ⟨rfl, B3.out⟩
      | true =>
        unfold formE at hP1 hP2
        rw [if_neg (by have := HZ.out; omega), if_neg (by simp [hq, hu])] at hP1 hP2
        obtain rfl : (0 : Int) = P2 := hP2
        have HVB := hidE (valuesB_iff.1 hu)
        have HFO := hidE (fun W hx hy => form_any W a2 cap2 x a3 cap3 y (by have := HB.out.1; omega) (by have := HB.out.1; have := HVB.out.1; omega) hx hy HB.out.2 HVB.out.2.2)
        rw [show formP x y = P1 from hP1] at HFO
        rw [hu] at HVA
        clear hq hu hP1
        go_enter Tryz.func39, Tryz.ntmps39
        go_wp2_with fail
        refine (HCH.out).mono ?_
        rintro e w1 ⟨rfl, hb1⟩
        have x1 := blk_below hb1 (by simp) (heap_alloc_new w (.cells #[.int .i64 (R : Int), .slice a bs.length cap] 24))
        have c0_1 : w1.cell? ⟨w.heap.size, 0, none⟩ = some (.int .i64 (R : Int)) := by rw [cell_of_row _ _ _ _ _ _ x1]; rfl
        have c1_1 : w1.cell? ⟨w.heap.size, 1, none⟩ = some (.slice a bs.length cap) := by rw [cell_of_row _ _ _ _ _ _ x1]; rfl
        have l1 := lt_of_block x1
        have B1 := hidE (B0.out.trans (hb1.mono B0.out.size))
        have X1 := hidE x1
        clear hb1 x1
        go_wp2_with fail
        refine (HWE.out _ ((H2).out.below B1.out (Nat.le_refl _))).mono ?_
        rintro e w2 ⟨rfl, hb2⟩
        have x2 := blk_below hb2 l1 X1.out
        have c0_2 : w2.cell? ⟨w.heap.size, 0, none⟩ = some (.int .i64 (R : Int)) := by rw [cell_of_row _ _ _ _ _ _ x2]; rfl
        have c1_2 : w2.cell? ⟨w.heap.size, 1, none⟩ = some (.slice a bs.length cap) := by rw [cell_of_row _ _ _ _ _ _ x2]; rfl
        have l2 := lt_of_block x2
        have B2 := hidE (B1.out.trans (hb2.mono B1.out.size))
        have X2 := hidE x2
        clear hb2 x2 c0_1 c1_1
        go_wp2_with fail
        refine (HVA.out _ ((H3).out.below B2.out (Nat.le_refl _))).mono ?_
        rintro e w3 ⟨rfl, hb3⟩
        have x3 := blk_below hb3 l2 X2.out
        have c0_3 : w3.cell? ⟨w.heap.size, 0, none⟩ = some (.int .i64 (R : Int)) := by rw [cell_of_row _ _ _ _ _ _ x3]; rfl
        have c1_3 : w3.cell? ⟨w.heap.size, 1, none⟩ = some (.slice a bs.length cap) := by rw [cell_of_row _ _ _ _ _ _ x3]; rfl
        have l3 := lt_of_block x3
        have B3 := hidE (B2.out.trans (hb3.mono B2.out.size))
        have X3 := hidE x3
        clear hb3 x3 c0_2 c1_2
        go_wp2_with fail
        refine (HFO.out _ ((H2).out.below B3.out (Nat.le_refl _)) ((H3).out.below B3.out (Nat.le_refl _))).mono ?_
        rintro e w4 ⟨rfl, rfl⟩
        go_wp2_with fail
        go_ret2
        exact ⟨rfl, B3.out⟩
  · have zb : (checkP N bs != 0) = true := by simpa using z
    unfold formE at hP1 hP2
    rw [if_pos z] at hP1 hP2
    obtain rfl : (0 : Int) = P1 := hP1
    obtain rfl : checkP N bs = P2 := hP2
    have HCH := hidE hch
    obtain ⟨c, hc⟩ : ∃ c, checkP N bs = c := ⟨_, rfl⟩
    rw [hc] at zb HCH ⊢
    clear hch hc z
    go_enter Tryz.func39, Tryz.ntmps39
    go_wp2_with fail
    refine (HCH.out).mono ?_
    rintro e w1 ⟨rfl, hb1⟩
    have x1 := blk_below hb1 (by simp) (heap_alloc_new w (.cells #[.int .i64 N, .slice a bs.length cap] 24))
    have c0_1 : w1.cell? ⟨w.heap.size, 0, none⟩ = some (.int .i64 N) := by rw [cell_of_row _ _ _ _ _ _ x1]; rfl
    have c1_1 : w1.cell? ⟨w.heap.size, 1, none⟩ = some (.slice a bs.length cap) := by rw [cell_of_row _ _ _ _ _ _ x1]; rfl
    have l1 := lt_of_block x1
    have B1 := hidE (B0.out.trans (hb1.mono B0.out.size))
    have X1 := hidE x1
    clear hb1 x1
    go_wp2_with fail
    go_ret2
    exact ⟨rfl, B1.out⟩
end Go.Proofs.YthjmkmjojlfejaaGreat

namespace Go.Proofs.YthjmkmjojlfejaaGreat
open Go Go.RowKit Go.Shelf
theorem within5_any (n a b : Int) (w : World) : Calls Tryz.prog 94 #[.int .i64 n, .int .i64 a, .int .i64 b] w fun e w' => e = .returned (.bool (inR n a b)) ∧ w = w' := by
  unfold inR
  go_enter Tryz.func94, Tryz.ntmps94
  go_wp2
  all_goals go_ret
  all_goals refine ⟨?_, rfl⟩
  all_goals simp [*]
  all_goals omega
end Go.Proofs.YthjmkmjojlfejaaGreat

namespace Go.Proofs.YthjmkmjojlfejaaGreat
open Go Go.RowKit Go.Shelf
theorem all_take_succ {p : Int → Bool} {y : List Int} {k : Nat} (hk : k < y.length) : (y.take (k + 1)).all p = ((y.take k).all p && p y[k]) := by
  rw [List.take_succ_eq_append_getElem hk, List.all_append]; simp
theorem all_false {p : Int → Bool} {y : List Int} {k : Nat} (hk : k < y.length) (h : p y[k] = false) : y.all p = false := by
  rw [List.all_eq_false]
  exact ⟨_, List.getElem_mem hk, by simp [h]⟩
set_option maxHeartbeats 2000000 in
theorem refWeighed_any (w : World) (N : Int) (a : Option Addr) (cap : Nat) (y : List Int) (hl : y.length ≤ 9223372036854775807) (h : IntsAt w a y) :
    Calls Tryz.prog 143 #[.int .i64 N, .slice a y.length cap] w fun e w' => e = .returned (.bool (weighedB N y)) ∧ w' = w := by
  have H := hidE h
  have HW : Hid (weighedB N y = (decide ((y.length : Int) = N) && decide (nz y ≤ 60) && y.all fun v => inR v (-1000000) 1000000)) := hidE rfl
  clear h
  by_cases h1 : (y.length : Int) = N
  rotate_left
  · have h1b : ((y.length : Int) != N) = true := by simpa using h1
    have HV : Hid (weighedB N y = false) := hidE (by rw [HW.out]; simp [h1])
    clear h1 HW
    go_enter Tryz.func143, Tryz.ntmps143
    go_wp2_with fail
    go_ret
    exact ⟨by rw [HV.out]; rfl, rfl⟩
  have h1b : ((y.length : Int) != N) = false := by simpa using h1
  have HV : Hid (weighedB N y = (decide (nz y ≤ 60) && y.all fun v => inR v (-1000000) 1000000)) := hidE (by rw [HW.out]; simp [h1])
  clear h1 HW
  go_enter Tryz.func143, Tryz.ntmps143
  go_wp2_with fail
  go_loopw [5, 6] (fun n i wr => ∃ k : Nat, k ≤ y.length ∧ i = .int .i64 k ∧ n = .int .i64 (nz (y.take k) : Nat) ∧ Hid (((y.take k).all fun v => inR v (-1000000) 1000000) = true) ∧ wr = w) (fun _ i _ => y.length - (intOf i).toNat)
  case atStart => exact ⟨0, Nat.zero_le _, rfl, rfl, hidE rfl, rfl⟩
  case round =>
    obtain ⟨k, hk, rfl, rfl, HA, rfl⟩ := hrel
    obtain ⟨w, rfl⟩ : ∃ x : World, x = wr := ⟨wr, rfl⟩
    have hz := nz_le y k
    by_cases hlt : k < y.length
    · obtain ⟨b, off, rfl, hbl, hc⟩ := H.out.at hlt
      have HS := hidE (nz_succ hlt)
      have HT := hidE (all_take_succ (p := fun v => inR v (-1000000) 1000000) hlt)
      have HU := hidE (all_false (p := fun v => inR v (-1000000) 1000000) hlt)
      obtain ⟨v, hv⟩ : ∃ v, y[k] = v := ⟨_, rfl⟩
      rw [hv] at hc HS HT HU
      have HLT := hidE hlt
      clear hv
      go_wp2_with fail
      refine (within5_any v (-1000000) 1000000 _).mono ?_
      rintro e w5 ⟨rfl, hw5⟩
      rw [← hw5]
      clear hw5
      cases hr : inR v (-1000000) 1000000 with
      | false =>
        have HF : Hid (weighedB N y = false) := hidE (by rw [HV.out, HU.out hr]; simp)
        clear hr
        go_wp2_with fail
        go_ret
        exact ⟨by rw [HF.out]; rfl, rfl⟩
      | true =>
        have HA2 : Hid (((y.take (k + 1)).all fun v => inR v (-1000000) 1000000) = true) := hidE (by rw [HT.out, HA.out, hr]; rfl)
        clear hr
        by_cases h2 : v = 0
        · have h2b : (v != 0) = false := by simpa using h2
          rw [h2b] at HS
          clear h2
          go_wp2_with fail
          go_roundw
          case rel => exact ⟨k + 1, HLT.out, by go_num, by rw [HS.out]; rfl, HA2, trivial⟩
          case measure => have := HLT.out; simp [intOf]; omega
        · have h2b : (v != 0) = true := by simpa using h2
          rw [h2b] at HS
          clear h2
          go_wp2_with fail
          go_roundw
          case rel => exact ⟨k + 1, HLT.out, by go_num, by rw [HS.out]; go_num, HA2, trivial⟩
          case measure => have := HLT.out; simp [intOf]; omega
    · obtain rfl : k = y.length := by omega
      have e : y.take y.length = y := List.take_length
      rw [e] at hz HA ⊢
      have HV2 : Hid (weighedB N y = decide (nz y ≤ 60)) := hidE (by rw [HV.out, HA.out]; simp)
      by_cases h3 : nz y ≤ 60
      · have h3b : decide (nz y ≤ 60) = true := by simpa using h3
        have h3c : decide ((nz y : Int) ≤ 60) = true := by simp; omega
        have HV3 : Hid (weighedB N y = true) := hidE (by rw [HV2.out]; exact h3b)
        clear e h3
        go_wp2_with fail
        go_ret
        exact ⟨by rw [HV3.out]; rfl, rfl⟩
      · have h3b : decide (nz y ≤ 60) = false := by simpa using h3
        have h3c : decide ((nz y : Int) ≤ 60) = false := by simp; omega
        have HV3 : Hid (weighedB N y = false) := hidE (by rw [HV2.out]; exact h3b)
        clear e h3
        go_wp2_with fail
        go_ret
        exact ⟨by rw [HV3.out]; rfl, rfl⟩
set_option maxHeartbeats 2000000 in
theorem refform_any (w : World) (a : Option Addr) (cap : Nat) (x : List Int) (a2 : Option Addr) (cap2 : Nat) (y : List Int) (hx : x.length ≤ 128) (hl : x.length ≤ y.length) (h : IntsAt w a x) (h2 : IntsAt w a2 y)
    (bx : ∀ v ∈ x, -1000000 ≤ v ∧ v ≤ 1000000) (by_ : ∀ v ∈ y, -400000000 ≤ v ∧ v ≤ 400000000) :
    Calls Tryz.prog 113 #[.slice a x.length cap, .slice a2 y.length cap2] w fun e w' => e = .returned (.int .i64 (formP x y)) ∧ Below w.heap.size w w' := by
  have hp : ∀ i, i < x.length → -400000000000000 ≤ x.getD i 0 * y.getD i 0 ∧ x.getD i 0 * y.getD i 0 ≤ 400000000000000 := by
    intro i hi
    have h1 := bx (x.getD i 0) (by rw [getD_get x 0 hi]; exact List.getElem_mem hi)
    have h3 := by_ (y.getD i 0) (by rw [getD_get y 0 (show i < y.length by omega)]; exact List.getElem_mem _)
    have := mul_bd (A := 1000000) (B := 400000000) h1.1 h1.2 h3.1 h3.2
    omega
  have hs : ∀ k, k ≤ x.length → -51200000000000000 ≤ sumN (fun i => x.getD i 0 * y.getD i 0) k ∧ sumN (fun i => x.getD i 0 * y.getD i 0) k ≤ 51200000000000000 := by
    intro k hk
    have := sumN_bd (f := fun i => x.getD i 0 * y.getD i 0) (c := 400000000000000) (n := k) fun i hi => hp i (by omega)
    omega
  have HP := hidE hp
  have HS := hidE hs
  have H := hidE h
  have H2 := hidE h2
  clear hp hs h h2 bx by_
  unfold formP
  go_enter Tryz.func113, Tryz.ntmps113
  go_wp2_with fail
  go_loopw [5, 6] (fun n i wr => ∃ k : Nat, k ≤ x.length ∧ i = .int .i64 k ∧ n = .int .i64 (sumN (fun i => x.getD i 0 * y.getD i 0) k) ∧ Hid (OnlyG w.heap.size w wr)) (fun _ i _ => x.length - (intOf i).toNat)
  case atStart => exact ⟨0, Nat.zero_le _, rfl, rfl, hidE (OnlyG.refl _ _)⟩
  case round =>
    obtain ⟨k, hk, rfl, rfl, HD⟩ := hrel
    obtain ⟨wx, rfl⟩ : ∃ W : World, W = wr := ⟨wr, rfl⟩
    by_cases hlt : k < x.length
    · obtain ⟨b, off, rfl, hbl, hc⟩ := H.out.at hlt
      obtain ⟨b2, off2, rfl, hbl2, hc2⟩ := H2.out.at (show k < y.length by omega)
      rw [← getD_get x 0 hlt] at hc
      rw [← getD_get y 0 (show k < y.length by omega)] at hc2
      have c1 : wx.cell? ⟨b, off + k, none⟩ = some (.int .i64 (x.getD k 0)) := (HD.out.cell (p := ⟨b, off + k, none⟩) (Nat.ne_of_lt hbl)).trans hc
      have c2 : wx.cell? ⟨b2, off2 + k, none⟩ = some (.int .i64 (y.getD k 0)) := (HD.out.cell (p := ⟨b2, off2 + k, none⟩) (Nat.ne_of_lt hbl2)).trans hc2
      have s1 := HS.out (k + 1) hlt
      have s0 := HS.out k hk
      have p0 := HP.out k hlt
      have hse : sumN (fun i => x.getD i 0 * y.getD i 0) (k + 1) = sumN (fun i => x.getD i 0 * y.getD i 0) k + x.getD k 0 * y.getD k 0 := rfl
      rw [hse] at s1
      have HSE := hidE hse
      obtain ⟨xv, hxv⟩ : ∃ z, x.getD k 0 = z := ⟨_, rfl⟩
      obtain ⟨yv, hyv⟩ : ∃ z, y.getD k 0 = z := ⟨_, rfl⟩
      rw [hxv] at c1 s1 p0 HSE
      rw [hyv] at c2 s1 p0 HSE
      obtain ⟨sv, hsv⟩ : ∃ z, sumN (fun i => x.getD i 0 * y.getD i 0) k = z := ⟨_, rfl⟩
      rw [hsv] at s0 s1 HSE ⊢
      obtain ⟨m1, hm1⟩ : ∃ z, xv * yv = z := ⟨_, rfl⟩
      rw [hm1] at s1 p0 HSE
      have w1 : IntKind.i64.wrap m1 = m1 := IntWalk.i64_in _ (by omega)
      have w2 : IntKind.i64.wrap (sv + m1) = sv + m1 := IntWalk.i64_in _ (by omega)
      have HLT := hidE hlt
      clear hc hc2 hxv hyv hsv hse
      go_wp2_with fail
      go_upto_region 5 with fail
      go_quiet (fail)
      go_wp2_with fail
      go_roundw
      case rel => exact ⟨k + 1, HLT.out, by go_num, by rw [HSE.out], hidE (HD.out.trans (OnlyG.drewN _ _))⟩
      case measure => have := HLT.out; simp [intOf]; omega
    · obtain rfl : k = x.length := by omega
      go_wp2_with fail
      go_ret
      exact ⟨rfl, HD.out.bl⟩
set_option maxHeartbeats 1000000 in
theorem refvalued_any (w : World) (N : Int) (a : Option Addr) (cap : Nat) (y : List Int) (hN : 1 ≤ N) (hl : y.length ≤ 9223372036854775807) (h : IntsAt w a y) :
    Calls Tryz.prog 81 #[.int .i64 N, .slice a y.length cap] w fun e w' => e = .returned (.bool (valuesB N y)) ∧ Below w.heap.size w w' := by
  have HV := hidE (refvalues_any w N (.slice none 0 0) a cap y hN hl h)
  clear h
  go_enter Tryz.func81, Tryz.ntmps81
  go_wp2_with fail
  refine HV.out.mono ?_
  rintro e w1 ⟨rfl, hb1⟩
  go_wp2_with fail
  go_ret
  exact ⟨rfl, hb1⟩
/-- The reference's asked: without the question of a contradiction. -/
def asked5E (N : Int) (bs : List Bd) (x : List Int) : Int := if checkP N bs ≠ 0 then checkP N bs else if weighedB N x = false then 1 else 0
set_option maxHeartbeats 2000000 in
theorem refasked_any (w : World) (N : Int) (a : Option Addr) (cap : Nat) (bs : List Bd) (a2 : Option Addr) (cap2 : Nat) (x : List Int) (hN : i64ok N) (hl : bs.length ≤ 9223372036854775807) (hl2 : x.length ≤ 9223372036854775807) (h : BoundsAt w a bs) (h2 : IntsAt w a2 x) :
    Calls Tryz.prog 76 #[.agg #[.int .i64 N, .slice a bs.length cap], .slice a2 x.length cap2] w fun e w' => e = .returned (.int .i64 (asked5E N bs x)) ∧ Below w.heap.size w w' := by
  obtain ⟨W0, hW0⟩ : ∃ W0, W0 = w.alloc (.cells #[.int .i64 N, .slice a bs.length cap] 24) := ⟨_, rfl⟩
  have B0 := hidE (show Below w.heap.size w W0 by rw [hW0]; exact (Below.refl _ _).alloc (Nat.le_refl _) _)
  have X0 := hidE (show W0.heap[w.heap.size]? = some (.cells #[.int .i64 N, .slice a bs.length cap] 24 (0,0)) by rw [hW0]; exact heap_alloc_new _ _)
  have e0 : W0.cell? ⟨w.heap.size, 0, none⟩ = some (.int .i64 N) := by rw [cell_of_row _ _ _ _ _ _ X0.out]; rfl
  have e1 : W0.cell? ⟨w.heap.size, 1, none⟩ = some (.slice a bs.length cap) := by rw [cell_of_row _ _ _ _ _ _ X0.out]; rfl
  have HC := hidE (refcheck_any W0 N a cap bs hN hl (h.below B0.out (Nat.le_refl _)))
  have H2 := hidE (h2.below B0.out (Nat.le_refl _))
  obtain ⟨P, hP⟩ : ∃ P, asked5E N bs x = P := ⟨_, rfl⟩
  rw [hP]
  unfold asked5E at hP
  obtain ⟨E, hE⟩ : ∃ E, checkP N bs = E := ⟨_, rfl⟩
  rw [hE] at hP HC
  clear h h2 hN hE
  by_cases hz : E = 0
  · subst hz
    rw [if_neg (fun h => h rfl)] at hP
    go_enter Tryz.func76, Tryz.ntmps76
    go_upto_region 1 with fail
    rw [← hW0]
    clear hW0
    go_wp2_with fail
    refine HC.out.mono ?_
    rintro e w1 ⟨rfl, hb1⟩
    have x1 := blk_below hb1 (lt_of_block X0.out) X0.out
    have f0 : w1.cell? ⟨w.heap.size, 0, none⟩ = some (.int .i64 N) := by rw [cell_of_row _ _ _ _ _ _ x1]; rfl
    have B1 := hidE (B0.out.trans (hb1.mono B0.out.size))
    have HW := hidE (refWeighed_any w1 N a2 cap2 x hl2 (H2.out.below hb1 (Nat.le_refl _)))
    clear hb1 x1 e0 e1 HC
    go_wp2_with fail
    refine HW.out.mono ?_
    rintro e w2 ⟨rfl, rfl⟩
    cases hq : weighedB N x with
    | true =>
      rw [hq, if_neg (by simp)] at hP
      subst hP
      clear hq HW
      go_wp2_with fail
      go_ret
      exact ⟨rfl, B1.out⟩
    | false =>
      rw [hq, if_pos rfl] at hP
      subst hP
      clear hq HW
      go_wp2_with fail
      go_ret
      exact ⟨rfl, B1.out⟩
  · rw [if_pos hz] at hP
    subst hP
    have z3 : (E != 0) = true := by simpa using hz
    clear hz
    go_enter Tryz.func76, Tryz.ntmps76
    go_upto_region 1 with fail
    rw [← hW0]
    clear hW0
    go_wp2_with fail
    refine HC.out.mono ?_
    rintro e w1 ⟨rfl, hb1⟩
    have B1 := hidE (B0.out.trans (hb1.mono B0.out.size))
    clear hb1
    go_wp2_with fail
    go_ret
    exact ⟨rfl, B1.out⟩
end Go.Proofs.YthjmkmjojlfejaaGreat

namespace Go.Proofs.YthjmkmjojlfejaaGreat
theorem rep_getD (n j : Nat) : (List.replicate n (0 : Int)).getD j 0 = 0 := by
  simp only [List.getD_eq_getElem?_getD, List.getElem?_replicate]; split <;> rfl
/-- What best ends with. -/
structure BestOk (N : Nat) (bs : List Bd) (w y flow : List Int) : Prop where
  yl : y.length = N
  y0 : y.getD 0 0 = 0
  yb : ∀ v, -256000000 ≤ y.getD v 0 ∧ y.getD v 0 ≤ 256000000
  kept : ∀ b ∈ bs, getI y b.dst - getI y b.src ≤ b.most
  fl : flow.length = bs.length
  fb : ∀ j, 0 ≤ flow.getD j 0 ∧ flow.getD j 0 ≤ 256000000
  net : ∀ v : Nat, 1 ≤ v → v < N → netOf bs flow v = w.getD v 0
  cost : costOf bs flow = sumN (fun v => w.getD v 0 * y.getD v 0) N
end Go.Proofs.YthjmkmjojlfejaaGreat

namespace Go.Proofs.YthjmkmjojlfejaaGreat
theorem weighed_len {n : Nat} {w : List Int} (h : weighedB n w = true) : w.length = n := by
  unfold weighedB at h
  simp only [Bool.and_eq_true, decide_eq_true_eq] at h
  omega
theorem BestOk.keeps {N : Nat} {bs : List Bd} {w y fl : List Int} (h : BestOk N bs w y fl) : Keeps N bs y := ⟨h.yl, h.y0, fun v hv => by
  obtain ⟨j, e⟩ := mem_getD hv
  have := h.yb j
  omega, fun b hb => by have := h.kept b hb; omega⟩
end Go.Proofs.YthjmkmjojlfejaaGreat

namespace Go.Proofs.YthjmkmjojlfejaaGreat
open Go Go.RowKit Go.Shelf
/-- The sums underway, of the reference. -/
def NetR (N : Nat) (bs : List Bd) (flow : List Int) (k : Nat) (s : List Int) : Prop := s.length = N ∧ (∀ v : Nat, v < N → s.getD v 0 = netTo bs flow v k) ∧ ∀ v : Nat, -(k * 1000000000 : Int) ≤ s.getD v 0 ∧ s.getD v 0 ≤ k * 1000000000
theorem NetR.start (N : Nat) (bs : List Bd) (flow : List Int) : NetR N bs flow 0 (List.replicate N 0) := by
  have e : ∀ v : Nat, (List.replicate N (0 : Int)).getD v 0 = 0 := fun v => rep_getD N v
  exact ⟨List.length_replicate .., fun v _ => by rw [e]; rfl, fun v => by rw [e]; simp⟩
theorem NetR.step {N : Nat} {bs : List Bd} {flow : List Int} {k : Nat} {s : List Int} (h : NetR N bs flow k s) {si di : Nat} {f : Int} (hk : k < bs.length) (hs : (bs[k]).src = si) (hd : (bs[k]).dst = di) (hne : si ≠ di) (hsN : si < N) (hdN : di < N)
    (hf : flow.getD k 0 = f) (f0 : 0 ≤ f) (f1 : f ≤ 1000000000) : NetR N bs flow (k + 1) ((s.set di (s.getD di 0 + f)).set si (s.getD si 0 - f)) := by
  obtain ⟨h1, h2, h3⟩ := h
  have hg : ∀ v : Nat, ((s.set di (s.getD di 0 + f)).set si (s.getD si 0 - f)).getD v 0 = if v = si then s.getD si 0 - f else if v = di then s.getD di 0 + f else s.getD v 0 := by
    intro v
    rw [getD_set_at, getD_set_at, List.length_set]
    by_cases e1 : v = si
    · rw [if_pos e1, if_pos ⟨e1.symm, by omega⟩]
    · rw [if_neg e1, if_neg (fun h => e1 h.1.symm)]
      by_cases e2 : v = di
      · rw [if_pos e2, if_pos ⟨e2.symm, by omega⟩]
      · rw [if_neg e2, if_neg (fun h => e2 h.1.symm)]
  refine ⟨by simp [h1], fun v hv => ?_, fun v => ?_⟩
  · rw [hg]
    unfold netTo
    rw [sumN_succ]
    have e := h2 v hv
    unfold netTo at e
    rw [bnd_get hk, hs, hd, hf, ← e]
    by_cases e1 : v = si
    · subst e1
      rw [if_pos rfl, if_neg (by omega), if_pos rfl]; omega
    · rw [if_neg e1]
      by_cases e2 : v = di
      · subst e2
        rw [if_pos rfl, if_pos rfl, if_neg (by omega)]; omega
      · rw [if_neg e2, if_neg (by omega), if_neg (by omega)]; omega
  · rw [hg]
    have a1 := h3 si
    have a2 := h3 di
    have a3 := h3 v
    rw [Int.natCast_add, Int.add_mul]
    simp only [Int.natCast_one, Int.one_mul]
    split
    · omega
    · split <;> omega
end Go.Proofs.YthjmkmjojlfejaaGreat

namespace Go.Proofs.YthjmkmjojlfejaaGreat
open Go Go.RowKit Go.Shelf
/-- What stands at the head of the two functions Join: the two systems, and the result. -/
structure JSt (w W : World) (N M : Int) (a a2 : Option Addr) (cap cap2 : Nat) (bs cs : List Bd) : Prop where
  x0 : W.heap[w.heap.size]? = some (.cells #[.int .i64 N, .slice a bs.length cap] 24 (0,0))
  x1 : W.heap[w.heap.size + 1]? = some (.cells #[.int .i64 M, .slice a2 cs.length cap2] 24 (0,0))
  x2 : W.heap[w.heap.size + 1 + 1]? = some (.cells #[.int .i64 0, .slice none 0 0] 24 (0,0))
  bl : Below w.heap.size w W
theorem JSt.next {w W W' : World} {N M : Int} {a a2 : Option Addr} {cap cap2 : Nat} {bs cs : List Bd} (h : JSt w W N M a a2 cap cap2 bs cs) (hb : Below W.heap.size W W') : JSt w W' N M a a2 cap cap2 bs cs :=
  ⟨blk_below hb (lt_of_block h.x0) h.x0, blk_below hb (lt_of_block h.x1) h.x1, blk_below hb (lt_of_block h.x2) h.x2, h.bl.trans (hb.mono h.bl.size)⟩
theorem JSt.cells {w W : World} {N M : Int} {a a2 : Option Addr} {cap cap2 : Nat} {bs cs : List Bd} (h : JSt w W N M a a2 cap cap2 bs cs) :
    W.cell? ⟨w.heap.size, 0, none⟩ = some (.int .i64 N) ∧ W.cell? ⟨w.heap.size, 1, none⟩ = some (.slice a bs.length cap) ∧ W.cell? ⟨w.heap.size + 1, 0, none⟩ = some (.int .i64 M) ∧ W.cell? ⟨w.heap.size + 1, 1, none⟩ = some (.slice a2 cs.length cap2) ∧
    W.cell? ⟨w.heap.size + 1 + 1, 0, none⟩ = some (.int .i64 0) ∧ W.cell? ⟨w.heap.size + 1 + 1, 1, none⟩ = some (.slice none 0 0) ∧ (∀ i, W.frozen? ⟨w.heap.size + 1 + 1, i, none⟩ = false) ∧ w.heap.size + 1 + 1 < W.heap.size :=
  ⟨by rw [cell_of_row _ _ _ _ _ _ h.x0]; rfl, by rw [cell_of_row _ _ _ _ _ _ h.x0]; rfl, by rw [cell_of_row _ _ _ _ _ _ h.x1]; rfl, by rw [cell_of_row _ _ _ _ _ _ h.x1]; rfl, by rw [cell_of_row _ _ _ _ _ _ h.x2]; rfl, by rw [cell_of_row _ _ _ _ _ _ h.x2]; rfl, fun i => frozen_of_row _ _ _ _ _ h.x2, lt_of_block h.x2⟩
/-- The end where nothing is handed back but an error. -/
theorem JSt.zero {w W : World} {N M : Int} {a a2 : Option Addr} {cap cap2 : Nat} {bs cs : List Bd} (h : JSt w W N M a a2 cap cap2 bs cs) : Below w.heap.size w ((W.setCell ⟨w.heap.size + 1 + 1, 0, none⟩ (.int .i64 0)).setCell ⟨w.heap.size + 1 + 1, 1, none⟩ (.slice none 0 0)) :=
  (h.bl.setCell (by simp; omega) _).setCell (by simp; omega) _
/-- The end where a system is handed back. -/
theorem JSt.done {w W W2 : World} {N M : Int} {a a2 : Option Addr} {cap cap2 : Nat} {bs cs : List Bd} (h : JSt w W N M a a2 cap cap2 bs cs) {n : Nat} {l : List Bd} {u v : Value} (ho : W2.ownsRow W.heap.size 81 4 v n (flat l)) (hn : n = l.length) :
    BoundsOut l w.heap.size v ((W2.setCell ⟨w.heap.size + 1 + 1, 0, none⟩ u).setCell ⟨w.heap.size + 1 + 1, 1, none⟩ v) := by
  subst hn
  have hl := lt_of_block h.x2
  exact ownsRow_base (ownsRow_setCell_below (ownsRow_setCell_below ho hl _) hl _) h.bl.size
theorem JSt.after {w W : World} {N M : Int} {a a2 : Option Addr} {cap cap2 : Nat} {bs cs : List Bd} (h : JSt w W N M a a2 cap cap2 bs cs) (u v : Value) : Below w.heap.size w ((W.setCell ⟨w.heap.size + 1 + 1, 0, none⟩ u).setCell ⟨w.heap.size + 1 + 1, 1, none⟩ v) :=
  (h.bl.setCell (by simp; omega) _).setCell (by simp; omega) _
end Go.Proofs.YthjmkmjojlfejaaGreat

namespace Go.Proofs.YthjmkmjojlfejaaGreat
open Go Go.RowKit Go.Shelf
theorem asked5_ok {N : Int} {bs : List Bd} {x : List Int} (h : asked5E N bs x = 0) : checkP N bs = 0 ∧ weighedB N x = true ∧ ∃ R : Nat, N = R ∧ 1 ≤ R ∧ R ≤ 128 ∧ bs.length ≤ 2000 ∧ (∀ b ∈ bs, b.valid R ∧ b.src ≠ b.dst) ∧ x.length = R ∧ ∀ v ∈ x, -1000000 ≤ v ∧ v ≤ 1000000 := by
  unfold asked5E at h
  split at h
  · rename_i h1; exact absurd h h1
  · rename_i h1
    have hz := Classical.not_not.1 h1
    split at h
    · cases h
    · rename_i h2
      have hw : weighedB N x = true := by simpa using h2
      obtain ⟨R, rfl, a1, a2, a3, a4⟩ := allOk_of hz
      refine ⟨hz, hw, R, rfl, a1, a2, a3, a4, weighed_len hw, fun v hv => ?_⟩
      unfold weighedB at hw
      simp only [Bool.and_eq_true, decide_eq_true_eq] at hw
      have := List.all_eq_true.1 hw.2 v hv
      unfold inR at this
      simpa using this
theorem asked5_err {N : Int} {bs : List Bd} {x y flow : List Int} {most : Int} (h : asked5E N bs x ≠ 0) : formE N bs x y = (0, asked5E N bs x) ∧ bestE N bs x y flow = (false, asked5E N bs x) ∧ flowE N bs x flow most = (false, asked5E N bs x) := by
  unfold asked5E at h ⊢
  unfold formE bestE flowE
  by_cases hc : checkP N bs = 0
  · rw [if_neg (fun q => q hc)] at h
    have hw : weighedB N x = false := by
      cases e : weighedB N x with
      | true => rw [e, if_neg (by simp)] at h; exact absurd rfl h
      | false => rfl
    simp only [hc, hw, ne_eq, not_true_eq_false, if_false, true_or, if_true, and_self]
  · simp only [hc, ne_eq, not_false_eq_true, if_true, and_self]
set_option maxRecDepth 100000 in
set_option maxHeartbeats 4000000 in
theorem refForm_any (w : World) (N : Int) (a : Option Addr) (cap : Nat) (bs : List Bd) (a2 : Option Addr) (cap2 : Nat) (x : List Int) (a3 : Option Addr) (cap3 : Nat) (y : List Int) (hN : i64ok N) (hl : bs.length ≤ 9223372036854775807) (h : BoundsAt w a bs) (hl2 : x.length ≤ 9223372036854775807) (h2 : IntsAt w a2 x) (hl3 : y.length ≤ 9223372036854775807) (h3 : IntsAt w a3 y) :
    Calls Tryz.prog 40 #[.agg #[.int .i64 N, .slice a bs.length cap], .slice a2 x.length cap2, .slice a3 y.length cap3] w fun e w' => e = .returned (.tuple #[.int .i64 (formE N bs x y).1, .int .i64 (formE N bs x y).2]) ∧ Below w.heap.size w w' := by
  obtain ⟨W0, hW0⟩ : ∃ W0, W0 = w.alloc (.cells #[.int .i64 N, .slice a bs.length cap] 24) := ⟨_, rfl⟩
  have B0 := hidE (show Below w.heap.size w W0 by rw [hW0]; exact (Below.refl _ _).alloc (Nat.le_refl _) _)
  have X0 := hidE (show W0.heap[w.heap.size]? = some (.cells #[.int .i64 N, .slice a bs.length cap] 24 (0,0)) by rw [hW0]; exact heap_alloc_new _ _)
  have e0 : W0.cell? ⟨w.heap.size, 0, none⟩ = some (.int .i64 N) := by rw [cell_of_row _ _ _ _ _ _ X0.out]; rfl
  have e1 : W0.cell? ⟨w.heap.size, 1, none⟩ = some (.slice a bs.length cap) := by rw [cell_of_row _ _ _ _ _ _ X0.out]; rfl
  have HA := hidE (refasked_any W0 N a cap bs a2 cap2 x hN hl hl2 (h.below B0.out (Nat.le_refl _)) (h2.below B0.out (Nat.le_refl _)))
  have H2 := hidE (h2.below B0.out (Nat.le_refl _))
  have H3 := hidE (h3.below B0.out (Nat.le_refl _))
  obtain ⟨P, hP⟩ : ∃ P, formE N bs x y = P := ⟨_, rfl⟩
  rw [hP]
  obtain ⟨E, hE⟩ : ∃ E, asked5E N bs x = E := ⟨_, rfl⟩
  rw [hE] at HA
  clear h h2 h3 hN
  by_cases hz : E = 0
  · subst hz
    obtain ⟨hc, hw, R, rfl, r1, r2, r3, r4, r5, r6⟩ := asked5_ok hE
    unfold formE at hP
    rw [if_neg (fun q => q hc)] at hP
    have HP := hidE hP
    have R5 := hidE r5
    have R6 := hidE r6
    have HWW := hidE hw
    clear hE hP r5 r6 hw hc r4
    go_enter Tryz.func40, Tryz.ntmps40
    go_upto_region 1 with fail
    rw [← hW0]
    clear hW0
    go_wp2_with fail
    refine HA.out.mono ?_
    rintro e w1 ⟨rfl, hb1⟩
    have x1 := blk_below hb1 (lt_of_block X0.out) X0.out
    have f0 : w1.cell? ⟨w.heap.size, 0, none⟩ = some (.int .i64 (R : Int)) := by rw [cell_of_row _ _ _ _ _ _ x1]; rfl
    have B1 := hidE (B0.out.trans (hb1.mono B0.out.size))
    have I2 := hidE (H2.out.below hb1 (Nat.le_refl _))
    have I3 := hidE (H3.out.below hb1 (Nat.le_refl _))
    have HV := hidE (refvalued_any w1 (R : Int) a3 cap3 y (by omega) hl3 I3.out)
    clear hb1 x1 e0 e1 HA H2 H3
    go_wp2_with fail
    refine HV.out.mono ?_
    rintro e w2 ⟨rfl, hb2⟩
    have B2 := hidE (B1.out.trans (hb2.mono B1.out.size))
    have J2 := hidE (I2.out.below hb2 (Nat.le_refl _))
    have J3 := hidE (I3.out.below hb2 (Nat.le_refl _))
    clear hb2 HV
    cases hq : valuesB (R : Int) y with
    | false =>
      have hP := HP.out
      rw [if_pos (.inr hq)] at hP
      subst hP
      clear hq HP
      go_wp2_with fail
      go_ret2
      exact ⟨rfl, B2.out⟩
    | true =>
      have hP := HP.out
      rw [if_neg (by rw [HWW.out, hq]; simp)] at hP
      subst hP
      obtain ⟨v1, v2, v3⟩ := valuesB_iff.1 hq
      have HFO := hidE (refform_any w2 a2 cap2 x a3 cap3 y (by rw [R5.out]; omega) (by rw [R5.out, v1]; exact Nat.le_refl _) J2.out J3.out R6.out v3)
      clear hq v1 v2 v3 HP
      go_wp2_with fail
      refine HFO.out.mono ?_
      rintro e w3 ⟨rfl, hb3⟩
      go_wp2_with fail
      go_ret2
      exact ⟨rfl, B2.out.trans (hb3.mono B2.out.size)⟩
  · have hP2 : (0, E) = P := by
      rw [← hP, ← hE]
      exact (asked5_err (flow := []) (most := 0) (by rw [hE]; exact hz)).1.symm
    subst hP2
    have z3 : (E != 0) = true := by simpa using hz
    clear hz hE hP
    go_enter Tryz.func40, Tryz.ntmps40
    go_upto_region 1 with fail
    rw [← hW0]
    clear hW0
    go_wp2_with fail
    refine HA.out.mono ?_
    rintro e w1 ⟨rfl, hb1⟩
    have B1 := hidE (B0.out.trans (hb1.mono B0.out.size))
    clear hb1
    go_wp2_with fail
    go_ret2
    exact ⟨rfl, B1.out⟩
end Go.Proofs.YthjmkmjojlfejaaGreat

namespace Go.Proofs.YthjmkmjojlfejaaGreat
open Go Go.RowKit Go.Shelf
/-- Few variables and bounds, or far too many. -/
def fewA (N : Int) (m : Nat) : Bool := (decide ((m : Int) ≤ 70) && (decide (N ≤ 26) || decide (N > 128))) || (decide ((m : Int) > 2000) && decide ((m : Int) ≤ 2005))
set_option maxHeartbeats 4000000 in
theorem fewA_any (w : World) (N : Int) (a : Option Addr) (n cap : Nat) (hn : n ≤ 9223372036854775807) :
    Calls Tryz.prog 21 #[.agg #[.int .i64 N, .slice a n cap]] w fun e w' => e = .returned (.bool (fewA N n)) ∧ Below w.heap.size w w' := by
  have B0 := hidE (show Below w.heap.size w (w.alloc (.cells #[.int .i64 N, .slice a n cap] 24)) from (Below.refl _ _).alloc (Nat.le_refl _) _)
  obtain ⟨P, hP⟩ : ∃ P, fewA N n = P := ⟨_, rfl⟩
  rw [hP]
  unfold fewA at hP
  by_cases h1 : n ≤ 70
  · by_cases h2 : N ≤ 26
    · have f0 : decide ((n : Int) ≤ 70) = true := by simp; omega
      have f1 : decide (n ≤ 70) = true := by simp; omega
      have f2 : decide (N ≤ 26) = true := by simp; omega
      have HP := hidE (show true = P by rw [← hP]; simp [h2, show (n : Int) ≤ 70 by omega] <;> omega)
      clear hP
      go_enter Tryz.func21, Tryz.ntmps21
      go_wp2_with fail
      go_ret
      exact ⟨by rw [← HP.out]; rfl, B0.out⟩
    · by_cases h3 : 128 < N
      · have f0 : decide ((n : Int) ≤ 70) = true := by simp; omega
        have f1 : decide (n ≤ 70) = true := by simp; omega
        have f2 : decide (N ≤ 26) = false := by simp; omega
        have f3 : decide (N > 128) = true := by simp; omega
        have f4 : decide (128 < N) = true := by simp; omega
        have HP := hidE (show true = P by rw [← hP]; simp [h3, show (n : Int) ≤ 70 by omega] <;> omega)
        clear hP
        go_enter Tryz.func21, Tryz.ntmps21
        go_wp2_with fail
        go_ret
        exact ⟨by rw [← HP.out]; rfl, B0.out⟩
      · have f0 : decide ((n : Int) ≤ 70) = true := by simp; omega
        have f1 : decide (n ≤ 70) = true := by simp; omega
        have f2 : decide (N ≤ 26) = false := by simp; omega
        have f3 : decide (N > 128) = false := by simp; omega
        have f4 : decide (128 < N) = false := by simp; omega
        have f5 : decide ((n : Int) > 2000) = false := by simp; omega
        have f6 : decide (2000 < n) = false := by simp; omega
        have HP := hidE (show false = P by rw [← hP]; simp [h2, h3] <;> omega)
        clear hP
        go_enter Tryz.func21, Tryz.ntmps21
        go_wp2_with fail
        go_ret
        exact ⟨by rw [← HP.out]; rfl, B0.out⟩
  · by_cases h2 : 2000 < n
    · by_cases h3 : n ≤ 2005
      · have f0 : decide ((n : Int) ≤ 70) = false := by simp; omega
        have f1 : decide (n ≤ 70) = false := by simp; omega
        have f2 : decide ((n : Int) > 2000) = true := by simp; omega
        have f3 : decide (2000 < n) = true := by simp; omega
        have f4 : decide ((n : Int) ≤ 2005) = true := by simp; omega
        have f5 : decide (n ≤ 2005) = true := by simp; omega
        have HP := hidE (show true = P by rw [← hP]; simp [show (n : Int) ≤ 2005 by omega, show 2000 < (n : Int) by omega] <;> omega)
        clear hP
        go_enter Tryz.func21, Tryz.ntmps21
        go_wp2_with fail
        go_ret
        exact ⟨by rw [← HP.out]; rfl, B0.out⟩
      · have f0 : decide ((n : Int) ≤ 70) = false := by simp; omega
        have f1 : decide (n ≤ 70) = false := by simp; omega
        have f2 : decide ((n : Int) > 2000) = true := by simp; omega
        have f3 : decide (2000 < n) = true := by simp; omega
        have f4 : decide ((n : Int) ≤ 2005) = false := by simp; omega
        have f5 : decide (n ≤ 2005) = false := by simp; omega
        have HP := hidE (show false = P by rw [← hP]; simp [show ¬ (n : Int) ≤ 2005 by omega, show ¬ (n : Int) ≤ 70 by omega] <;> omega)
        clear hP
        go_enter Tryz.func21, Tryz.ntmps21
        go_wp2_with fail
        go_ret
        exact ⟨by rw [← HP.out]; rfl, B0.out⟩
    · have f0 : decide ((n : Int) ≤ 70) = false := by simp; omega
      have f1 : decide (n ≤ 70) = false := by simp; omega
      have f2 : decide ((n : Int) > 2000) = false := by simp; omega
      have f3 : decide (2000 < n) = false := by simp; omega
      have HP := hidE (show false = P by rw [← hP]; simp [show ¬ (n : Int) ≤ 70 by omega] <;> omega)
      clear hP
      go_enter Tryz.func21, Tryz.ntmps21
      go_wp2_with fail
      go_ret
      exact ⟨by rw [← HP.out]; rfl, B0.out⟩
end Go.Proofs.YthjmkmjojlfejaaGreat

namespace Go.Proofs.YthjmkmjojlfejaaGreat
open Go Go.RowKit Go.Shelf
set_option maxRecDepth 100000 in
set_option maxHeartbeats 16000000 in
theorem areaForms_of (hal : AliveOk) (w : World) (N : Int) (a : Option Addr) (cap : Nat) (bs : List Bd) (a2 : Option Addr) (cap2 : Nat) (wt : List Int) (a3 : Option Addr) (cap3 : Nat) (y : List Int) (hN : i64ok N) (hl : bs.length ≤ 9223372036854775807) (h : BoundsAt w a bs) (hl2 : wt.length ≤ 9223372036854775807) (h2 : IntsAt w a2 wt) (hl3 : y.length ≤ 9223372036854775807) (h3 : IntsAt w a3 y) :
    Calls Tryz.prog 7 #[.agg #[.int .i64 N, .slice a bs.length cap], .slice a2 wt.length cap2, .slice a3 y.length cap3] w fun e w' => e = .returned (.bool true) ∧ Below w.heap.size w w' := by
  have HAL := hidE hal
  obtain ⟨W0, hW0⟩ : ∃ W0, W0 = w.alloc (.cells #[.int .i64 N, .slice a bs.length cap] 24) := ⟨_, rfl⟩
  have BB0 : Hid (Below w.heap.size w W0) := hidE (by rw [hW0]; exact (Below.refl _ _).alloc (Nat.le_refl _) _)
  have SS0 : Hid (BoundsAt W0 a bs) := hidE (by rw [hW0]; exact h.alloc _)
  have XS0 : Hid (W0.heap[w.heap.size]? = some (.cells #[.int .i64 N, .slice a bs.length cap] 24 (0,0))) := hidE (by rw [hW0]; exact heap_alloc_new _ _)
  have HFW := hidE (fun W => fewA_any W N a bs.length cap hl)
  have II0 : Hid (IntsAt W0 a2 wt) := hidE (by rw [hW0]; exact h2.alloc _)
  have JJ0 : Hid (IntsAt W0 a3 y) := hidE (by rw [hW0]; exact h3.alloc _)
  have HFE := hidE (fun W (p : BoundsAt W a bs) (q : IntsAt W a2 wt) (r : IntsAt W a3 y) => formE_any W N a cap bs a2 cap2 wt a3 cap3 y hN hl p hl2 q hl3 r)
  have HF5 := hidE (fun W (p : BoundsAt W a bs) (q : IntsAt W a2 wt) (r : IntsAt W a3 y) => refForm_any W N a cap bs a2 cap2 wt a3 cap3 y hN hl p hl2 q hl3 r)
  obtain ⟨e1, he1⟩ : ∃ z, (formE N bs wt y).1 = z := ⟨_, rfl⟩
  obtain ⟨e2, he2⟩ : ∃ z, (formE N bs wt y).2 = z := ⟨_, rfl⟩
  rw [he1, he2] at HFE HF5
  clear hal h h2 h3 he1 he2
  by_cases hp : fewA N bs.length = false
  · rw [hp] at HFW
    go_enter Tryz.func7, Tryz.ntmps7
    go_upto_region 1 with fail
    rw [← hW0]
    clear hW0
    have f0 : W0.cell? ⟨w.heap.size, 0, none⟩ = some (.int .i64 N) := by rw [cell_of_row _ _ _ _ _ _ XS0.out]; rfl
    have f1 : W0.cell? ⟨w.heap.size, 1, none⟩ = some (.slice a bs.length cap) := by rw [cell_of_row _ _ _ _ _ _ XS0.out]; rfl
    have HC := hidE (HFW.out W0)
    go_wp2_with fail
    refine HC.out.mono ?_
    rintro e W1 ⟨rfl, hbx⟩
    clear HC f0 f1
    have hb : Below W0.heap.size W0 W1 := hbx
    have BB1 : Hid (Below w.heap.size w W1) := hidE (BB0.out.trans (hb.mono BB0.out.size))
    have SS1 : Hid (BoundsAt W1 a bs) := hidE (SS0.out.below hb (Nat.le_refl _))
    have XS1 : Hid (W1.heap[w.heap.size]? = some (.cells #[.int .i64 N, .slice a bs.length cap] 24 (0,0))) := hidE (blk_below hb (lt_of_block XS0.out) XS0.out)
    have II1 : Hid (IntsAt W1 a2 wt) := hidE (II0.out.below hb (Nat.le_refl _))
    have JJ1 : Hid (IntsAt W1 a3 y) := hidE (JJ0.out.below hb (Nat.le_refl _))
    clear hb BB0 SS0 XS0 II0 JJ0
    clear hbx
    go_wp2_with fail
    refine (HAL.out _).mono ?_
    rintro e w9 ⟨rfl, hb9⟩
    have B9 := hidE (BB1.out.trans (hb9.mono BB1.out.size))
    clear hb9
    go_wp2_with fail
    go_ret
    exact ⟨by simp, B9.out⟩
  have hp2 : fewA N bs.length = true := by simpa using hp
  rw [hp2] at HFW
  clear hp hp2
  by_cases hv0 : 200 < wt.length
  · have hd : decide ((wt.length : Int) > 200) = true := by simp; omega
    have hd' : decide (200 < wt.length) = true := by simp; omega
    go_enter Tryz.func7, Tryz.ntmps7
    go_upto_region 1 with fail
    rw [← hW0]
    clear hW0
    have f0 : W0.cell? ⟨w.heap.size, 0, none⟩ = some (.int .i64 N) := by rw [cell_of_row _ _ _ _ _ _ XS0.out]; rfl
    have f1 : W0.cell? ⟨w.heap.size, 1, none⟩ = some (.slice a bs.length cap) := by rw [cell_of_row _ _ _ _ _ _ XS0.out]; rfl
    have HC := hidE (HFW.out W0)
    go_wp2_with fail
    refine HC.out.mono ?_
    rintro e W1 ⟨rfl, hbx⟩
    clear HC f0 f1
    have hb : Below W0.heap.size W0 W1 := hbx
    have BB1 : Hid (Below w.heap.size w W1) := hidE (BB0.out.trans (hb.mono BB0.out.size))
    have SS1 : Hid (BoundsAt W1 a bs) := hidE (SS0.out.below hb (Nat.le_refl _))
    have XS1 : Hid (W1.heap[w.heap.size]? = some (.cells #[.int .i64 N, .slice a bs.length cap] 24 (0,0))) := hidE (blk_below hb (lt_of_block XS0.out) XS0.out)
    have II1 : Hid (IntsAt W1 a2 wt) := hidE (II0.out.below hb (Nat.le_refl _))
    have JJ1 : Hid (IntsAt W1 a3 y) := hidE (JJ0.out.below hb (Nat.le_refl _))
    clear hb BB0 SS0 XS0 II0 JJ0
    clear hbx
    go_wp2_with fail
    refine (HAL.out _).mono ?_
    rintro e w9 ⟨rfl, hb9⟩
    have B9 := hidE (BB1.out.trans (hb9.mono BB1.out.size))
    clear hb9
    go_wp2_with fail
    go_ret
    exact ⟨by simp, B9.out⟩
  have hd0 : decide ((wt.length : Int) > 200) = false := by simp; omega
  have hd0' : decide (200 < wt.length) = false := by simp; omega
  by_cases hv1 : 200 < y.length
  · have hd : decide ((y.length : Int) > 200) = true := by simp; omega
    have hd' : decide (200 < y.length) = true := by simp; omega
    go_enter Tryz.func7, Tryz.ntmps7
    go_upto_region 1 with fail
    rw [← hW0]
    clear hW0
    have f0 : W0.cell? ⟨w.heap.size, 0, none⟩ = some (.int .i64 N) := by rw [cell_of_row _ _ _ _ _ _ XS0.out]; rfl
    have f1 : W0.cell? ⟨w.heap.size, 1, none⟩ = some (.slice a bs.length cap) := by rw [cell_of_row _ _ _ _ _ _ XS0.out]; rfl
    have HC := hidE (HFW.out W0)
    go_wp2_with fail
    refine HC.out.mono ?_
    rintro e W1 ⟨rfl, hbx⟩
    clear HC f0 f1
    have hb : Below W0.heap.size W0 W1 := hbx
    have BB1 : Hid (Below w.heap.size w W1) := hidE (BB0.out.trans (hb.mono BB0.out.size))
    have SS1 : Hid (BoundsAt W1 a bs) := hidE (SS0.out.below hb (Nat.le_refl _))
    have XS1 : Hid (W1.heap[w.heap.size]? = some (.cells #[.int .i64 N, .slice a bs.length cap] 24 (0,0))) := hidE (blk_below hb (lt_of_block XS0.out) XS0.out)
    have II1 : Hid (IntsAt W1 a2 wt) := hidE (II0.out.below hb (Nat.le_refl _))
    have JJ1 : Hid (IntsAt W1 a3 y) := hidE (JJ0.out.below hb (Nat.le_refl _))
    clear hb BB0 SS0 XS0 II0 JJ0
    clear hbx
    go_wp2_with fail
    refine (HAL.out _).mono ?_
    rintro e w9 ⟨rfl, hb9⟩
    have B9 := hidE (BB1.out.trans (hb9.mono BB1.out.size))
    clear hb9
    go_wp2_with fail
    go_ret
    exact ⟨by simp, B9.out⟩
  have hd1 : decide ((y.length : Int) > 200) = false := by simp; omega
  have hd1' : decide (200 < y.length) = false := by simp; omega
  clear hv0 hv1
  go_enter Tryz.func7, Tryz.ntmps7
  go_upto_region 1 with fail
  rw [← hW0]
  clear hW0
  have f0 : W0.cell? ⟨w.heap.size, 0, none⟩ = some (.int .i64 N) := by rw [cell_of_row _ _ _ _ _ _ XS0.out]; rfl
  have f1 : W0.cell? ⟨w.heap.size, 1, none⟩ = some (.slice a bs.length cap) := by rw [cell_of_row _ _ _ _ _ _ XS0.out]; rfl
  have HC := hidE (HFW.out W0)
  go_wp2_with fail
  refine HC.out.mono ?_
  rintro e W1 ⟨rfl, hbx⟩
  clear HC f0 f1
  have hb : Below W0.heap.size W0 W1 := hbx
  have BB1 : Hid (Below w.heap.size w W1) := hidE (BB0.out.trans (hb.mono BB0.out.size))
  have SS1 : Hid (BoundsAt W1 a bs) := hidE (SS0.out.below hb (Nat.le_refl _))
  have XS1 : Hid (W1.heap[w.heap.size]? = some (.cells #[.int .i64 N, .slice a bs.length cap] 24 (0,0))) := hidE (blk_below hb (lt_of_block XS0.out) XS0.out)
  have II1 : Hid (IntsAt W1 a2 wt) := hidE (II0.out.below hb (Nat.le_refl _))
  have JJ1 : Hid (IntsAt W1 a3 y) := hidE (JJ0.out.below hb (Nat.le_refl _))
  clear hb BB0 SS0 XS0 II0 JJ0
  clear hbx
  have f0 : W1.cell? ⟨w.heap.size, 0, none⟩ = some (.int .i64 N) := by rw [cell_of_row _ _ _ _ _ _ XS1.out]; rfl
  have f1 : W1.cell? ⟨w.heap.size, 1, none⟩ = some (.slice a bs.length cap) := by rw [cell_of_row _ _ _ _ _ _ XS1.out]; rfl
  have HC := hidE (HFE.out W1 SS1.out II1.out JJ1.out)
  go_wp2_with fail
  refine HC.out.mono ?_
  rintro e W2 ⟨rfl, hbx⟩
  clear HC f0 f1
  have hb : Below W1.heap.size W1 W2 := hbx
  have BB2 : Hid (Below w.heap.size w W2) := hidE (BB1.out.trans (hb.mono BB1.out.size))
  have SS2 : Hid (BoundsAt W2 a bs) := hidE (SS1.out.below hb (Nat.le_refl _))
  have XS2 : Hid (W2.heap[w.heap.size]? = some (.cells #[.int .i64 N, .slice a bs.length cap] 24 (0,0))) := hidE (blk_below hb (lt_of_block XS1.out) XS1.out)
  have II2 : Hid (IntsAt W2 a2 wt) := hidE (II1.out.below hb (Nat.le_refl _))
  have JJ2 : Hid (IntsAt W2 a3 y) := hidE (JJ1.out.below hb (Nat.le_refl _))
  clear hb BB1 SS1 XS1 II1 JJ1
  clear hbx
  have f0 : W2.cell? ⟨w.heap.size, 0, none⟩ = some (.int .i64 N) := by rw [cell_of_row _ _ _ _ _ _ XS2.out]; rfl
  have f1 : W2.cell? ⟨w.heap.size, 1, none⟩ = some (.slice a bs.length cap) := by rw [cell_of_row _ _ _ _ _ _ XS2.out]; rfl
  have HC := hidE (HF5.out W2 SS2.out II2.out JJ2.out)
  go_wp2_with fail
  refine HC.out.mono ?_
  rintro e W3 ⟨rfl, hbx⟩
  clear HC f0 f1
  have hb : Below W2.heap.size W2 W3 := hbx
  have BB3 : Hid (Below w.heap.size w W3) := hidE (BB2.out.trans (hb.mono BB2.out.size))
  have SS3 : Hid (BoundsAt W3 a bs) := hidE (SS2.out.below hb (Nat.le_refl _))
  have XS3 : Hid (W3.heap[w.heap.size]? = some (.cells #[.int .i64 N, .slice a bs.length cap] 24 (0,0))) := hidE (blk_below hb (lt_of_block XS2.out) XS2.out)
  have II3 : Hid (IntsAt W3 a2 wt) := hidE (II2.out.below hb (Nat.le_refl _))
  have JJ3 : Hid (IntsAt W3 a3 y) := hidE (JJ2.out.below hb (Nat.le_refl _))
  clear hb BB2 SS2 XS2 II2 JJ2
  clear hbx
  go_wp2_with fail
  refine (HAL.out _).mono ?_
  rintro e w9 ⟨rfl, hb9⟩
  have B9 := hidE (BB3.out.trans (hb9.mono BB3.out.size))
  clear hb9
  go_wp2_with fail
  go_ret
  exact ⟨by simp, B9.out⟩
end Go.Proofs.YthjmkmjojlfejaaGreat
