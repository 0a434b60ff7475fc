/- What the law AreaExtents needs beyond the base: Pure, Base, Wu, Wv, Y1, PlQ, Y2, Mf4, Ad, Y3, Ae, Sd, Rf1, Ef1, Ef2, Ef3, Mf7, Du1, Rf2, Rf4, Ef4, Ef5, Ef6. No conditions beyond those stated. -/
import Derived.Test.YthjmkmjojlfejaaGreatB01
import Derived.WalkKit
import Derived.Handy
import Derived.RangeFuncRecord
import Derived.Test.YthjmkmjojlfejaaGreatB02
import Derived.Test.YthjmkmjojlfejaaGreatProg
import Derived.Shelf.Abstract
import Derived.Deep.QuietTactic
import Derived.BigQuiet
import Derived.Laws.CopyOwn
import Derived.WalkSmall
import Derived.RangeFuncNested
import Derived.RangeFuncBound
import Derived.RangeFuncCalls
import Derived.RangeFuncLeaves
import Derived.Shelf.RegionOpen
import Derived.OwnWalkIn
import Derived.TacticsInMore
import Derived.LoopNIn
import Derived.LoopIn
import Derived.Maps.AppendAt
import Derived.Deep.Onto
import Derived.OrdersHeld
import Derived.Deep.LoopGhost
import Derived.Deep.WholeRow
import Derived.Deep.OwnRows
import Derived.StillTailTactics
import Derived.Great.Walk
import Derived.Great.BuildSlice
import Derived.WalkMore
import Derived.Deep.MidRow
import Derived.Deep.RegionHeld3
import Derived.Deep.DeepCutAuto
import Derived.Shelf.Small.Bits
import Derived.Shelf.Small.Wraps
import Derived.Shelf.Strconv.Itoa0
import Derived.Shelf.Sort.Plain
import Derived.Shelf.Slices.Turned
import Derived.Ground.Names2Prog
import Derived.Shelf.Slices.CompactI
import Derived.Shelf.Slices.SearchI
import Derived.Shelf.Slices.Cells
import Derived.Shelf.Slices.In.SortNone
import Derived.Lib.OwnBridge
import Derived.Lib.SliceRun
import Derived.WalkSpells
import Derived.Deep.RegionWith
import Derived.Lib.AppendZerosOnto
import Derived.Deep.CutBlock
import Derived.Test.YthjmkmjojlfejaaGreatB03
import Derived.IntWalk
import Derived.Test.YthjmkmjojlfejaaGreatB05
import Derived.Test.YthjmkmjojlfejaaGreatB07
import Derived.Test.YthjmkmjojlfejaaGreatB06
import Derived.Test.YthjmkmjojlfejaaGreatB04
import Derived.Test.YthjmkmjojlfejaaGreatB16
import Derived.Test.YthjmkmjojlfejaaGreatB15
import Derived.Test.YthjmkmjojlfejaaGreatB12
import Derived.Test.YthjmkmjojlfejaaGreatB11
import Derived.Test.YthjmkmjojlfejaaGreatB10
import Derived.Test.YthjmkmjojlfejaaGreatB13
import Derived.Test.YthjmkmjojlfejaaGreatB09
import Derived.Test.YthjmkmjojlfejaaGreatB08
import Derived.Scope
namespace Go.Proofs.YthjmkmjojlfejaaGreat
def Bd.ok (b : Bd) : Prop := i64ok b.src ∧ i64ok b.dst ∧ i64ok b.most ∧ i64ok b.rcd
end Go.Proofs.YthjmkmjojlfejaaGreat
namespace Go.Proofs.YthjmkmjojlfejaaGreat
open Go Go.RowKit
def Bd.val (x : Bd) : Value := .agg #[.int .i64 x.src, .int .i64 x.dst, .int .i64 x.most, .int .i64 x.rcd]
end Go.Proofs.YthjmkmjojlfejaaGreat
namespace Go.Proofs.YthjmkmjojlfejaaGreat
open Go Go.RowKit Go.Shelf
def TestsBoundsK (P : Program) (f : FuncId) (caps : Array Value) (Fix : Nat → Prop) (w : World) (bs : List Bd) (p : Bd → Bool) : Prop :=
 ∀ k (_ : k < bs.length) (W : World), KeepsB Fix w W → Calls P f (#[bs[k].val] ++ caps) W fun e W' => e = .returned (.bool (p bs[k])) ∧ Below W.heap.size W W'
set_option maxHeartbeats 400000 in
theorem indexFuncBounds_any (w : World) (a : Option Addr) (cap : Nat) (bs : List Bd) (f : FuncId) (caps : Array Value) (Fix : Nat → Prop) (p : Bd → Bool) (hl : bs.length ≤ 9223372036854775807) (h : BoundsAt w a bs)
 (hF : ∀ b, Fix b → b < w.heap.size) (hf : TestsBoundsK Tryz.prog f caps Fix w bs p) (eg : Enters Tryz.prog f) :
 Calls Tryz.prog 138 #[.slice a bs.length cap, .func (.func f) #[] caps] w fun e w' => e = .returned (.int .i64 (idxOf p bs)) ∧ Below w.heap.size w w' := by
 have H := hidE h
 have HF := hidE hf
 have HFx := hidE hF
 unfold Enters at eg
 clear h hf hF
 go_enter Tryz.func138, Tryz.ntmps138
 go_wp2
 go_loopw [8] (fun i wr => ∃ k : Nat, k ≤ bs.length ∧ i = .int .i64 k ∧ Hid ((bs.take k).any p = false) ∧ Below w.heap.size w wr)
  (fun i _ => bs.length - (intOf i).toNat)
 case atStart => exact ⟨0, by omega, rfl, hidE rfl, by go_grown⟩
 case round =>
  obtain ⟨k, hk, rfl, HA, hb⟩ := hrel
  by_cases hlt : k < bs.length
  ·obtain ⟨b, off, rfl, hbl, hcs⟩ := H.out.at hlt
   obtain ⟨c0, c1, c2, c3⟩ := hcs.below hb hbl
   have hcall := HF.out k hlt wr (KeepsB.below hb HFx.out)
   unfold Bd.val at hcall
   obtain ⟨x, hx⟩ : ∃ x, bs[k] = x := ⟨_, rfl⟩
   rw [hx] at c0 c1 c2 c3 hcall
   have HX := hidE hx
   clear hx hcs
   obtain ⟨q, hq⟩ : ∃ q, p x = q := ⟨_, rfl⟩
   rw [hq] at hcall
   have HC := hidE hcall
   have HQ := hidE hq
   clear hcall hq
   cases q with
   | true =>
     go_wp2_with (go_at_fn f; refine HC.out.mono ?_; rintro e w' ⟨rfl, hb'⟩)
     go_ret
     exact ⟨by rw [idxOf_found hlt HA.out (by rw [HX.out]; exact HQ.out)]; rfl, hb.trans (hb'.mono hb.size)⟩
   | false =>
     go_wp2_with (go_at_fn f; refine HC.out.mono ?_; rintro e w' ⟨rfl, hb'⟩)
     go_roundw
     case rel => exact ⟨k + 1, by omega, by go_num, hidE (take_any_succ hlt HA.out (by rw [HX.out]; exact HQ.out)), hb.trans (hb'.mono hb.size)⟩
     case measure => simp [intOf]; omega
  ·go_wp2_with fail
   go_ret
   exact ⟨by rw [idxOf_none (any_of_take (by omega) HA.out)]; rfl, hb⟩
theorem IntsAt.kept {w0 W : World} {a : Option Addr} {l : List Int} (h : IntsAt w0 a l) (hk : ∀ b, b < w0.heap.size → W.heap[b]? = w0.heap[b]?) (hs : w0.heap.size ≤ W.heap.size) : IntsAt W a l := by
 rcases h with e | ⟨b, off, e, hb, hc⟩
 ·exact .inl e
 ·exact .inr ⟨b, off, e, Nat.lt_of_lt_of_le hb hs, fun i hi => (World.cell?_of_block (w := w0) (hk b hb)).trans (hc i hi)⟩
theorem checkP_bad {N : Int} {bs : List Bd} (h1 : ¬ 128 < N) (h2 : ¬ 2000 < bs.length) (h3 : ¬ N < 1) {k : Nat} (hk : k < bs.length) (hb : badB N bs[k] = true) : checkP N bs = 1 := by
 rw [checkP, if_neg (by omega), checkedP, if_neg h3, any_of_at hk hb]; rfl
set_option maxHeartbeats 2000000 in
theorem refcheck_any (w : World) (N : Int) (a : Option Addr) (cap : Nat) (bs : List Bd) (hN : i64ok N) (hl : bs.length ≤ 9223372036854775807) (h : BoundsAt w a bs) :
 Calls Tryz.prog 130 #[.agg #[.int .i64 N, .slice a bs.length cap]] w fun e w' => e = .returned (.int .i64 (checkP N bs)) ∧ Below w.heap.size w w' := by
 unfold i64ok at hN
 by_cases h1 : 128 < N
 ·have e : checkP N bs = 2 := by simp [checkP, h1]
  have E := hidE e
  have hd : decide (N > 128) = true := by simpa using h1
  clear e
  go_enter Tryz.func130, Tryz.ntmps130
  go_wp2
  go_ret
  exact ⟨by rw [E.out]; rfl, by go_grown⟩
 have hd1 : decide (N > 128) = false := by simpa using h1
 by_cases h2 : 2000 < bs.length
 ·have e : checkP N bs = 2 := by simp [checkP, h2]
  have E := hidE e
  have hd : decide ((bs.length : Int) > 2000) = true := by simp; omega
  clear e
  go_enter Tryz.func130, Tryz.ntmps130
  go_wp2
  go_ret
  exact ⟨by rw [E.out]; rfl, by go_grown⟩
 have hd2 : decide ((bs.length : Int) > 2000) = false := by simp; omega
 by_cases h3 : N < 1
 ·have e : checkP N bs = 1 := by rw [checkP, if_neg (by omega), checkedP, if_pos h3]
  have E := hidE e
  clear e
  go_enter Tryz.func130, Tryz.ntmps130
  go_wp2
  go_ret
  exact ⟨by rw [E.out]; rfl, by go_grown⟩
 have hw1 : IntKind.i64.wrap (N - 1) = N - 1 := IntWalk.i64_in _ (by omega)
 go_enter Tryz.func130, Tryz.ntmps130
 go_wp2
 go_loopw [3] (fun i wr => ∃ k : Nat, k ≤ bs.length ∧ i = .int .i64 k ∧ Hid ((bs.take k).any (badB N) = false) ∧ Hid (wr.heap[w.heap.size]? = some (.cells #[.int .i64 N, .slice a bs.length cap] 24 (0,0))) ∧ Below w.heap.size w wr)
  (fun i _ => bs.length - (intOf i).toNat)
 case atStart => exact ⟨0, by omega, rfl, hidE rfl, hidE (heap_alloc_new _ _), by go_grown⟩
 case round =>
  obtain ⟨k, hk, rfl, HA, HS, hb⟩ := hrel
  have hc0 : wr.cell? ⟨w.heap.size, 0, none⟩ = some (.int .i64 N) := c_e HS.out rfl
  have hc1 : wr.cell? ⟨w.heap.size, 1, none⟩ = some (.slice a bs.length cap) := c_e HS.out rfl
  have hsz : w.heap.size < wr.heap.size := lt_of_block HS.out
  by_cases hlt : k < bs.length
  ·obtain ⟨b, off, rfl, hbl, hcs⟩ := h.at hlt
   obtain ⟨c0, c1, c2, c3⟩ := hcs.below hb hbl
   obtain ⟨x, hx⟩ : ∃ x, bs[k] = x := ⟨_, rfl⟩
   rw [hx] at c0 c1 c2 c3
   have hbad : badB N bs[k] = (!inR x.src 0 (N - 1) || !inR x.dst 0 (N - 1) || x.src == x.dst || !inR x.most (-1000000) 1000000 || !inR x.rcd 0 1000000) := by rw [hx]; rfl
   obtain ⟨r1, q1⟩ : ∃ r, inR x.src 0 (N - 1) = r := ⟨_, rfl⟩
   obtain ⟨r2, q2⟩ : ∃ r, inR x.dst 0 (N - 1) = r := ⟨_, rfl⟩
   obtain ⟨r3, q3⟩ : ∃ r, inR x.most (-1000000) 1000000 = r := ⟨_, rfl⟩
   obtain ⟨r4, q4⟩ : ∃ r, inR x.rcd 0 1000000 = r := ⟨_, rfl⟩
   rw [q1, q2, q3, q4] at hbad
   have HH := hidE h
   have HB := hidE hbad
   have Q1 := hidE q1
   have Q2 := hidE q2
   have Q3 := hidE q3
   have Q4 := hidE q4
   obtain ⟨xs, xd, xm, xr⟩ := x
   simp only at c0 c1 c2 c3
   clear hcs h hx hbad q1 q2 q3 q4
   have stay : badB N bs[k] = false → ∃ k' : Nat, k' ≤ bs.length ∧ Value.int .i64 ((k : Int) + 1) = .int .i64 k' ∧ Hid ((bs.take k').any (badB N) = false) := fun hf => ⟨k + 1, by omega, by go_num, hidE (take_any_succ hlt HA.out hf)⟩
   have ST := hidE stay
   have CB := hidE (fun hf : badB N bs[k] = true => checkP_bad (by omega) (by omega) (by omega) hlt hf)
   clear stay
   cases r1 with
   | false =>
     go_wp2_with (go_at_call 180; first | ((with_reducible refine (refwithin_at Q1.out _).mono ?_); rintro e w' ⟨rfl, rfl⟩))
     go_ret
     exact ⟨by rw [CB.out (by rw [HB.out]; rfl)]; rfl, by go_grown⟩
   | true =>
     cases r2 with
     | false =>
       go_wp2_with (go_at_call 180; first | ((with_reducible refine (refwithin_at Q1.out _).mono ?_); rintro e w' ⟨rfl, rfl⟩) | ((with_reducible refine (refwithin_at Q2.out _).mono ?_); rintro e w' ⟨rfl, rfl⟩))
       go_ret
       exact ⟨by rw [CB.out (by rw [HB.out]; rfl)]; rfl, by go_grown⟩
     | true =>
       cases r3 with
       | false =>
         go_wp2_with (go_at_call 180; first | ((with_reducible refine (refwithin_at Q1.out _).mono ?_); rintro e w' ⟨rfl, rfl⟩) | ((with_reducible refine (refwithin_at Q2.out _).mono ?_); rintro e w' ⟨rfl, rfl⟩) | ((with_reducible refine (refwithin_at Q3.out _).mono ?_); rintro e w' ⟨rfl, rfl⟩))
         go_ret
         exact ⟨by rw [CB.out (by rw [HB.out]; simp)]; rfl, by go_grown⟩
       | true =>
         cases r4 with
         | false =>
           go_wp2_with (go_at_call 180; first | ((with_reducible refine (refwithin_at Q1.out _).mono ?_); rintro e w' ⟨rfl, rfl⟩) | ((with_reducible refine (refwithin_at Q2.out _).mono ?_); rintro e w' ⟨rfl, rfl⟩) | ((with_reducible refine (refwithin_at Q3.out _).mono ?_); rintro e w' ⟨rfl, rfl⟩) | ((with_reducible refine (refwithin_at Q4.out _).mono ?_); rintro e w' ⟨rfl, rfl⟩))
           go_ret
           exact ⟨by rw [CB.out (by rw [HB.out]; simp)]; rfl, by go_grown⟩
         | true =>
           by_cases he : xs = xd
           ·have hbe : (xs == xd) = true := by simpa using he
            have HBE := hidE hbe
            go_wp2_with (go_at_call 180; first | ((with_reducible refine (refwithin_at Q1.out _).mono ?_); rintro e w' ⟨rfl, rfl⟩) | ((with_reducible refine (refwithin_at Q2.out _).mono ?_); rintro e w' ⟨rfl, rfl⟩) | ((with_reducible refine (refwithin_at Q3.out _).mono ?_); rintro e w' ⟨rfl, rfl⟩) | ((with_reducible refine (refwithin_at Q4.out _).mono ?_); rintro e w' ⟨rfl, rfl⟩))
            go_ret
            exact ⟨by rw [CB.out (by rw [HB.out, HBE.out]; simp)]; rfl, by go_grown⟩
           ·have hbe : (xs == xd) = false := by simpa using he
            have HBE := hidE hbe
            go_wp2_with (go_at_call 180; first | ((with_reducible refine (refwithin_at Q1.out _).mono ?_); rintro e w' ⟨rfl, rfl⟩) | ((with_reducible refine (refwithin_at Q2.out _).mono ?_); rintro e w' ⟨rfl, rfl⟩) | ((with_reducible refine (refwithin_at Q3.out _).mono ?_); rintro e w' ⟨rfl, rfl⟩) | ((with_reducible refine (refwithin_at Q4.out _).mono ?_); rintro e w' ⟨rfl, rfl⟩))
            go_roundw
            case rel =>
             obtain ⟨k', g1, g2, g3⟩ := ST.out (by rw [HB.out, HBE.out]; rfl)
             exact ⟨k', g1, g2, g3, hidE ((Below.heap_alloc _ _ _ hsz).trans HS.out), by go_grown⟩
            case measure => simp [intOf]; omega
  ·have e : checkP N bs = 0 := by rw [checkP, if_neg (by omega), checkedP, if_neg (by omega), any_of_take (by omega) HA.out]; rfl
   have E := hidE e
   clear e
   go_wp2
   go_ret
   exact ⟨by rw [E.out]; rfl, hb⟩
end Go.Proofs.YthjmkmjojlfejaaGreat
namespace Go.Proofs.YthjmkmjojlfejaaGreat
def keptB (y : List Int) (b : Bd) : Bool := decide (b.most < getI y b.dst - getI y b.src)
def keptE (N : Int) (bs : List Bd) (y : List Int) : Int × Bool × Int :=
 if checkP N bs ≠ 0 then (0, false, checkP N bs) else if valuesB N y = false then (0, false, 1) else (max (idxOf (keptB y) bs) 0, decide (idxOf (keptB y) bs < 0), 0)
structure Keeps (N : Nat) (bs : List Bd) (y : List Int) : Prop where
 len : y.length = N
 zero : y.getD 0 0 = 0
 bd : ∀ v ∈ y, -400000000 ≤ v ∧ v ≤ 400000000
 pot : Pot y bs
theorem kept_pot {bs : List Bd} {y : List Int} : idxOf (keptB y) bs < 0 ↔ Pot y bs := by
 rw [idxOf_neg]
 unfold Pot keptB
 simp only [List.any_eq_false, decide_eq_true_eq]
 constructor
 ·intro h b hb; have := h b hb; omega
 ·intro h b hb; have := h b hb; omega
theorem keptE_iff {N : Nat} {bs : List Bd} {y : List Int} (hc : checkP N bs = 0) : (keptE N bs y).2.1 = true ↔ Keeps N bs y := by
 unfold keptE
 rw [if_neg (by simp [hc])]
 split
 ·rename_i h
  constructor
  ·intro e; simp at e
  ·intro k; rw [valuesB_iff.2 ⟨k.len, k.zero, k.bd⟩] at h; simp at h
 ·rename_i h
  have h2 := valuesB_iff.1 (by simpa using h)
  simp only [decide_eq_true_eq]
  rw [kept_pot]
  exact ⟨fun p => ⟨h2.1, h2.2.1, h2.2.2, p⟩, fun k => k.pot⟩
theorem keptE_bad {N : Int} {bs : List Bd} {y : List Int} (h : (keptE N bs y).2.1 = true) : (keptE N bs y).2.2 = 0 ∧ checkP N bs = 0 := by
 unfold keptE at h ⊢
 split at h
 ·simp at h
 ·rename_i h1
  rw [if_neg h1]
  split at h
  ·simp at h
  ·rename_i h2
   rw [if_neg h2]
   exact ⟨rfl, Classical.not_not.1 h1⟩
end Go.Proofs.YthjmkmjojlfejaaGreat
namespace Go.Proofs.YthjmkmjojlfejaaGreat
open Go Go.RowKit Go.Shelf
theorem within_at {n a b : Int} {r : Bool} (h : inR n a b = r) (w : World) : Calls Tryz.prog 185 #[.int .i64 n, .int .i64 a, .int .i64 b] w fun e w' => e = .returned (.bool r) ∧ w = w' := by
 rw [← h]; exact within_any n a b w
theorem values1_any (w : World) (v : Int) : Calls Tryz.prog 184 #[.int .i64 v] w fun e w' => e = .returned (.bool (!inR v (-400000000) 400000000)) ∧ w = w' := by
 obtain ⟨r, hr⟩ : ∃ r, inR v (-400000000) 400000000 = r := ⟨_, rfl⟩
 rw [hr]
 have HR := hidE hr
 clear hr
 go_enter Tryz.func184, Tryz.ntmps184
 go_wp2_with (go_at_call 185; refine (within_at HR.out _).mono ?_; rintro e w' ⟨rfl, rfl⟩)
 go_ret
 exact ⟨rfl, rfl⟩
set_option maxHeartbeats 400000 in
theorem values_any (w : World) (N : Int) (sv : Value) (a : Option Addr) (cap : Nat) (y : List Int) (hN0 : 1 ≤ N) (hN1 : N ≤ 128) (hl : y.length ≤ 9223372036854775807) (h : IntsAt w a y) :
 Calls Tryz.prog 137 #[.agg #[.int .i64 N, sv], .slice a y.length cap] w fun e w' => e = .returned (.bool (valuesB N y)) ∧ Below w.heap.size w w' := by
 by_cases h1 : (y.length : Int) = N
 ·have h1b : ((y.length : Int) == N) = true := by simpa using h1
  have hlt : 0 < y.length := by omega
  obtain ⟨b, off, rfl, hbl, hc⟩ := h.at hlt
  have hg : y.getD 0 0 = y[0] := getD_get y 0 hlt
  obtain ⟨v, hv⟩ : ∃ v, y[0] = v := ⟨_, rfl⟩
  rw [hv] at hc hg
  rw [Nat.add_zero] at hc
  by_cases h2 : v = 0
  ·have h2b : (v == 0) = true := by simpa using h2
   have hq := containsFuncInts_any (w.alloc (.cells #[.int .i64 N, sv] 24)) (some ⟨b, off, none⟩) cap y 184 #[] (fun v => !inR v (-400000000) 400000000) hl (h.alloc _) (fun k hk W hb => (values1_any W y[k]).mono fun _ _ ⟨he, hw⟩ => ⟨he, hw ▸ Below.refl _ _⟩) (enters_of Tryz.func184 (by kernel_rfl) rfl)
   have hval : valuesB N y = !(y.any fun v => !inR v (-400000000) 400000000) := by unfold valuesB; rw [hg, h1]; simp [h2]
   obtain ⟨r, hr⟩ : ∃ r, (y.any fun v => !inR v (-400000000) 400000000) = r := ⟨_, rfl⟩
   rw [hr] at hq hval
   have HQ := hidE hq
   have HV := hidE hval
   clear hq hval hr hg hv h1 h2 h
   go_enter Tryz.func137, Tryz.ntmps137
   go_wp2_with fail
   refine HQ.out.mono ?_
   rintro e w1 ⟨rfl, hb1⟩
   go_wp2_with fail
   go_ret
   exact ⟨by rw [HV.out]; rfl, ((Below.refl _ _).alloc (Nat.le_refl _) _).trans (hb1.mono (by simp))⟩
  ·have h2b : (v == 0) = false := by simpa using h2
   have hval : valuesB N y = false := by unfold valuesB; rw [hg]; simp [h2]
   have HV := hidE hval
   clear hval hg hv h1 h2 h
   go_enter Tryz.func137, Tryz.ntmps137
   go_wp2_with fail
   go_ret
   exact ⟨by rw [HV.out]; rfl, by go_grown⟩
 ·have h1b : ((y.length : Int) == N) = false := by simpa using h1
  have hval : valuesB N y = false := by unfold valuesB; simp [h1]
  have HV := hidE hval
  clear hval h1 h
  go_enter Tryz.func137, Tryz.ntmps137
  go_wp2_with fail
  go_ret
  exact ⟨by rw [HV.out]; rfl, by go_grown⟩
set_option maxHeartbeats 400000 in
theorem kept1_any (w : World) (b : Bd) (N bl : Nat) (a : Option Addr) (cap : Nat) (y : List Int) (hb : b.valid N) (hN : y.length = N) (_hN1 : N ≤ 128) (hv : ∀ v ∈ y, -400000000 ≤ v ∧ v ≤ 400000000) (h : IntsAt w a y) (hc : w.cell? ⟨bl, 0, none⟩ = some (.slice a y.length cap)) (hbl : bl < w.heap.size) :
 Calls Tryz.prog 139 #[b.val, .pointer (some ⟨bl, 0, none⟩)] w fun e w' => e = .returned (.bool (keptB y b)) ∧ Below w.heap.size w w' := by
 obtain ⟨v1, v2, v3, v4, v5, v6⟩ := hb
 obtain ⟨ys, yd, ym, yr⟩ := b
 simp only at v1 v2 v3 v4 v5 v6
 obtain ⟨si, rfl⟩ := Int.eq_ofNat_of_zero_le v1
 obtain ⟨di, rfl⟩ := Int.eq_ofNat_of_zero_le v3
 have hs : si < y.length := by omega
 have hd : di < y.length := by omega
 obtain ⟨b, off, rfl, hbw, hcs⟩ := h.at hs
 obtain ⟨b', off', e', _, hcd⟩ := h.at hd
 cases e'
 have q1 := hv y[si] (List.getElem_mem _)
 have q2 := hv y[di] (List.getElem_mem _)
 have hkb : keptB y ⟨si, di, ym, yr⟩ = decide (ym < y[di] - y[si]) := by
  unfold keptB getI
  rw [decide_eq_decide]
  simp only [Int.toNat_natCast]
  rw [getD_get y 0 hs, getD_get y 0 hd]
 obtain ⟨x, hx⟩ : ∃ x, y[si] = x := ⟨_, rfl⟩
 obtain ⟨z, hz⟩ : ∃ z, y[di] = z := ⟨_, rfl⟩
 rw [hx, hz] at hkb
 rw [hx] at hcs q1
 rw [hz] at hcd q2
 have s0 : (si : Int) < y.length := by omega
 have d0 : (di : Int) < y.length := by omega
 have hw1 : IntKind.i64.wrap (z - x) = z - x := IntWalk.i64_in _ (by omega)
 have HK := hidE hkb
 have hbl1 : bl < w.heap.size + 1 := by omega
 clear hkb hx hz hN h hv hbw
 unfold Bd.val
 go_enter Tryz.func139, Tryz.ntmps139
 go_wp2_with fail
 go_quiet (fail)
 go_wp2_with fail
 go_ret
 exact ⟨by rw [HK.out]; rfl, ((Below.refl _ _).alloc (Nat.le_refl _) _).trans (below_drewN' _ _)⟩
set_option maxHeartbeats 1000000 in
theorem kept_any (w : World) (N : Int) (a : Option Addr) (cap : Nat) (bs : List Bd) (a2 : Option Addr) (cap2 : Nat) (y : List Int) (hN : i64ok N) (hl : bs.length ≤ 9223372036854775807) (hl2 : y.length ≤ 9223372036854775807) (h : BoundsAt w a bs) (h2 : IntsAt w a2 y) :
 Calls Tryz.prog 67 #[.agg #[.int .i64 N, .slice a bs.length cap], .slice a2 y.length cap2] w fun e w' => e = .returned (.tuple #[.int .i64 (keptE N bs y).1, .bool (keptE N bs y).2.1, .int .i64 (keptE N bs y).2.2]) ∧ Below w.heap.size w w' := by
 obtain ⟨W0, hW0⟩ : ∃ W0, W0 = (w.alloc (.cells #[.int .i64 N, .slice a bs.length cap] 24)).alloc (.cells #[.slice a2 y.length cap2] 25) := ⟨_, rfl⟩
 have b0 : Below w.heap.size w W0 := by rw [hW0]; exact ((Below.refl _ _).alloc (Nat.le_refl _) _).alloc (by simp) _
 have x0 : W0.heap[w.heap.size]? = some (.cells #[.int .i64 N, .slice a bs.length cap] 24 (0,0)) := by rw [hW0, Below.heap_alloc _ _ _ (by simp), heap_alloc_new]
 have x1 : W0.heap[w.heap.size + 1]? = some (.cells #[.slice a2 y.length cap2] 25 (0,0)) := by rw [hW0, heap_alloc_at _ _ _ (by simp)]
 have hck := check_any W0 N a cap bs hN hl (h.below b0 (Nat.le_refl _))
 by_cases hc : checkP N bs = 0
 ·obtain ⟨n0, n1, n2, nv⟩ := checkP_zero hc
  rw [hc] at hck
  have HCK := hidE hck
  have H := hidE h
  have H2 := hidE h2
  have X0 := hidE x0
  have X1 := hidE x1
  have B0 := hidE b0
  have HW := hidE hW0
  have HC := hidE hc
  have NV := hidE nv
  clear hck h h2 x0 x1 b0 hW0 hc nv hN
  go_enter Tryz.func67, Tryz.ntmps67
  go_upto_region 1 with fail
  rw [← HW.out]
  have e0 : W0.cell? ⟨w.heap.size, 0, none⟩ = some (.int .i64 N) := c_e X0.out rfl
  have e1 : W0.cell? ⟨w.heap.size, 1, none⟩ = some (.slice a bs.length cap) := c_e X0.out rfl
  go_wp2_with fail
  refine HCK.out.mono ?_
  rintro e w1 ⟨rfl, hb1⟩
  have y0 := blk_below hb1 (lt_of_block X0.out) X0.out
  have y1 := blk_below hb1 (lt_of_block X1.out) X1.out
  have B1 := B0.out.trans (hb1.mono B0.out.size)
  have hva := values_any w1 N (.slice a bs.length cap) a2 cap2 y n0 n1 hl2 (H2.out.below B1 (Nat.le_refl _))
  have Y0 := hidE y0
  have Y1 := hidE y1
  have HB1 := hidE B1
  have HVA := hidE hva
  have f0 : w1.cell? ⟨w.heap.size, 0, none⟩ = some (.int .i64 N) := c_e Y0.out rfl
  have f1 : w1.cell? ⟨w.heap.size, 1, none⟩ = some (.slice a bs.length cap) := c_e Y0.out rfl
  have f2 : w1.cell? ⟨w.heap.size + 1, 0, none⟩ = some (.slice a2 y.length cap2) := cell_of_one Y1.out
  clear y0 y1 B1 hb1 hva e0 e1
  go_wp2_with fail
  refine HVA.out.mono ?_
  rintro e w2 ⟨rfl, hb2⟩
  have z0 := blk_below hb2 (lt_of_block Y0.out) Y0.out
  have z1 := blk_below hb2 (lt_of_block Y1.out) Y1.out
  have B2 := HB1.out.trans (hb2.mono HB1.out.size)
  have Z0 := hidE z0
  have Z1 := hidE z1
  have HB2 := hidE B2
  clear z0 z1 B2 hb2 f0 f1 f2
  cases hvb : valuesB N y with
  | false =>
    have hk : keptE N bs y = (0, false, 1) := by unfold keptE; rw [if_neg (by simp [HC.out]), if_pos hvb]
    have HK := hidE hk
    clear hvb hk
    go_wp2_with fail
    go_ret3
    exact ⟨by rw [HK.out]; rfl, HB2.out⟩
  | true =>
    have hk : keptE N bs y = (max (idxOf (keptB y) bs) 0, decide (idxOf (keptB y) bs < 0), 0) := by unfold keptE; rw [if_neg (by simp [HC.out]), if_neg (by rw [hvb]; simp)]
    obtain ⟨R, rfl⟩ := Int.eq_ofNat_of_zero_le (show 0 ≤ N by omega)
    obtain ⟨q1, q2, q3⟩ := valuesB_iff.1 hvb
    have e0 : w2.cell? ⟨w.heap.size, 0, none⟩ = some (.int .i64 (R : Int)) := c_e Z0.out rfl
    have e1 : w2.cell? ⟨w.heap.size, 1, none⟩ = some (.slice a bs.length cap) := c_e Z0.out rfl
    have l1 := lt_of_block Z1.out
    have hidx := indexFuncBounds_any w2 a cap bs 139 #[.pointer (some ⟨w.heap.size + 1, 0, none⟩)] (· < w2.heap.size) (keptB y) hl (H.out.below HB2.out (Nat.le_refl _)) (fun b hb => hb)
     (fun k hk W hkp => kept1_any W bs[k] R (w.heap.size + 1) a2 cap2 y (NV.out _ (List.getElem_mem _)).1 q1 (by omega) q3 ((H2.out.below HB2.out (Nat.le_refl _)).kept (fun b hb => hkp.same b hb) hkp.size) ((hkp.cell (by show w.heap.size + 1 < _; exact l1)).trans (cell_of_one Z1.out)) (Nat.lt_of_lt_of_le l1 hkp.size))
     (enters_of Tryz.func139 (by kernel_rfl) rfl)
    obtain ⟨ix, hix⟩ : ∃ x, idxOf (keptB y) bs = x := ⟨_, rfl⟩
    rw [hix] at hidx hk
    have HI := hidE hidx
    have HK := hidE hk
    clear hvb hk hidx hix q1 q2 q3
    go_wp2_with fail
    refine HI.out.mono ?_
    rintro e w3 ⟨rfl, hb3⟩
    have HB3 := hidE (HB2.out.trans (hb3.mono HB2.out.size))
    clear hb3 e0 e1
    go_wp2_with fail
    go_ret3
    exact ⟨by rw [HK.out]; rfl, HB3.out⟩
 ·have hk : keptE N bs y = (0, false, checkP N bs) := by unfold keptE; rw [if_pos hc]
  obtain ⟨c, hcc⟩ : ∃ c, checkP N bs = c := ⟨_, rfl⟩
  rw [hcc] at hk hc hck
  have hc2 : (c != 0) = true := by simpa using hc
  have HCK := hidE hck
  have HK := hidE hk
  have X0 := hidE x0
  have B0 := hidE b0
  have HW := hidE hW0
  clear hck hk hc hcc h h2 hN x0 x1 b0 hW0
  go_enter Tryz.func67, Tryz.ntmps67
  go_upto_region 1 with fail
  rw [← HW.out]
  have e0 : W0.cell? ⟨w.heap.size, 0, none⟩ = some (.int .i64 N) := c_e X0.out rfl
  have e1 : W0.cell? ⟨w.heap.size, 1, none⟩ = some (.slice a bs.length cap) := c_e X0.out rfl
  go_wp2_with fail
  refine HCK.out.mono ?_
  rintro e w1 ⟨rfl, hb1⟩
  clear e0 e1
  go_wp2_with fail
  go_ret3
  exact ⟨by rw [HK.out]; rfl, B0.out.trans (hb1.mono B0.out.size)⟩
end Go.Proofs.YthjmkmjojlfejaaGreat
namespace Go.Proofs.YthjmkmjojlfejaaGreat
def netFrom (flow : List Int) (v : Int) : Nat → List Bd → Int
 | _, [] => 0
 | i, b :: bs => ((if b.dst = v then flow.getD i 0 else 0) - (if b.src = v then flow.getD i 0 else 0)) + netFrom flow v (i + 1) bs
def netOf (bs : List Bd) (flow : List Int) (v : Int) : Int := netFrom flow v 0 bs
def costFrom (flow : List Int) : Nat → List Bd → Int
 | _, [] => 0
 | i, b :: bs => flow.getD i 0 * b.most + costFrom flow (i + 1) bs
def costOf (bs : List Bd) (flow : List Int) : Int := costFrom flow 0 bs
end Go.Proofs.YthjmkmjojlfejaaGreat
namespace Go.Proofs.YthjmkmjojlfejaaGreat
open Go Go.RowKit Go.Shelf
def netTo (bs : List Bd) (flow : List Int) (v : Int) (k : Nat) : Int := sumN (fun i => (if (bnd bs i).dst = v then flow.getD i 0 else 0) - (if (bnd bs i).src = v then flow.getD i 0 else 0)) k
def costTo (bs : List Bd) (flow : List Int) (k : Nat) : Int := sumN (fun i => flow.getD i 0 * (bnd bs i).most) k
theorem sumN_shift (f : Nat → Int) : ∀ n, sumN f (n + 1) = f 0 + sumN (fun i => f (i + 1)) n
 | 0 => by simp [sumN]
 | n + 1 => by rw [sumN_succ, sumN_shift f n, sumN_succ]; omega
theorem netFrom_eq (flow : List Int) (v : Int) : ∀ (bs : List Bd) (i : Nat), netFrom flow v i bs = sumN (fun j => (if (bnd bs j).dst = v then flow.getD (i + j) 0 else 0) - (if (bnd bs j).src = v then flow.getD (i + j) 0 else 0)) bs.length
 | [], _ => rfl
 | b :: bs, i => by
   rw [List.length_cons, sumN_shift]
   simp only [netFrom]
   rw [netFrom_eq flow v bs (i + 1)]
   simp only [bnd, List.getD_cons_zero, List.getD_cons_succ, Nat.add_zero]
   congr 1
   refine sumN_congr fun j _ => ?_
   rw [show i + 1 + j = i + (j + 1) from by omega]
   rfl
theorem netOf_eq (bs : List Bd) (flow : List Int) (v : Int) : netOf bs flow v = netTo bs flow v bs.length := by
 unfold netOf netTo
 rw [netFrom_eq]
 simp only [Nat.zero_add]
theorem costFrom_eq (flow : List Int) : ∀ (bs : List Bd) (i : Nat), costFrom flow i bs = sumN (fun j => flow.getD (i + j) 0 * (bnd bs j).most) bs.length
 | [], _ => rfl
 | b :: bs, i => by
   rw [List.length_cons, sumN_shift]
   simp only [costFrom]
   rw [costFrom_eq flow bs (i + 1)]
   simp only [bnd, List.getD_cons_zero, List.getD_cons_succ, Nat.add_zero]
   congr 1
   refine sumN_congr fun j _ => ?_
   rw [show i + 1 + j = i + (j + 1) from by omega]
theorem costOf_eq (bs : List Bd) (flow : List Int) : costOf bs flow = costTo bs flow bs.length := by
 unfold costOf costTo
 rw [costFrom_eq]
 simp only [Nat.zero_add]
def carriedTo (bs : List Bd) (flow w : List Int) (k : Nat) : Bool := (List.range k).all fun p => p == 0 || netOf bs flow p == w.getD p 0
def carriesP (N : Nat) (bs : List Bd) (w flow : List Int) : Int × Bool := if carriedTo bs flow w N then (costOf bs flow, true) else (0, false)
theorem carriedTo_succ (bs : List Bd) (flow w : List Int) (k : Nat) : carriedTo bs flow w (k + 1) = (carriedTo bs flow w k && (k == 0 || netOf bs flow k == w.getD k 0)) := by
 unfold carriedTo
 rw [List.range_succ, List.all_append]
 simp
theorem carriedTo_mono {bs : List Bd} {flow w : List Int} {k n : Nat} (h : k ≤ n) (hn : carriedTo bs flow w n = true) : carriedTo bs flow w k = true := by
 unfold carriedTo at *
 rw [List.all_eq_true] at *
 intro x hx
 exact hn x (List.mem_range.2 (by have := List.mem_range.1 hx; omega))
def NetRow (N : Nat) (bs : List Bd) (flow : List Int) (k : Nat) (s : List Int) : Prop := s.length = 128 ∧ (∀ v : Nat, v < N → s.getD v 0 = netTo bs flow v k) ∧ ∀ v : Nat, -(k * 1000000000 : Int) ≤ s.getD v 0 ∧ s.getD v 0 ≤ k * 1000000000
theorem NetRow.start (N : Nat) (bs : List Bd) (flow : List Int) : NetRow N bs flow 0 (rep128 0) := by
 have e : ∀ v : Nat, (rep128 0).getD v 0 = 0 := fun v => getI_rep0 (v : Int)
 exact ⟨rep128_length _, fun v _ => by rw [e]; rfl, fun v => by rw [e]; simp⟩
theorem NetRow.step {N : Nat} {bs : List Bd} {flow : List Int} {k : Nat} {s : List Int} (h : NetRow N bs flow k s) (hN : N ≤ 128) {si di : Nat} {f : Int} (hk : k < bs.length) (hs : (bs[k]).src = si) (hd : (bs[k]).dst = di) (hne : si ≠ di) (hsN : si < N) (hdN : di < N)
 (hf : flow.getD k 0 = f) (f0 : 0 ≤ f) (f1 : f ≤ 1000000000) : NetRow N bs flow (k + 1) ((s.set di (s.getD di 0 + f)).set si (s.getD si 0 - f)) := by
 obtain ⟨h1, h2, h3⟩ := h
 have hg : ∀ v : Nat, ((s.set di (s.getD di 0 + f)).set si (s.getD si 0 - f)).getD v 0 = if v = si then s.getD si 0 - f else if v = di then s.getD di 0 + f else s.getD v 0 := by
  intro v
  rw [getD_set_at, getD_set_at, List.length_set]
  by_cases e1 : v = si
  ·rw [if_pos e1, if_pos ⟨e1.symm, by omega⟩]
  ·rw [if_neg e1, if_neg (fun h => e1 h.1.symm)]
   by_cases e2 : v = di
   ·rw [if_pos e2, if_pos ⟨e2.symm, by omega⟩]
   ·rw [if_neg e2, if_neg (fun h => e2 h.1.symm)]
 refine ⟨by simp [h1], fun v hv => ?_, fun v => ?_⟩
 ·rw [hg]
  unfold netTo
  rw [sumN_succ]
  have e := h2 v hv
  unfold netTo at e
  rw [bnd_get hk, hs, hd, hf, ← e]
  by_cases e1 : v = si
  ·subst e1
   rw [if_pos rfl, if_neg (by omega), if_pos rfl]; omega
  ·rw [if_neg e1]
   by_cases e2 : v = di
   ·subst e2
    rw [if_pos rfl, if_pos rfl, if_neg (by omega)]; omega
   ·rw [if_neg e2, if_neg (by omega), if_neg (by omega)]; omega
 ·rw [hg]
  have a1 := h3 si
  have a2 := h3 di
  have a3 := h3 v
  rw [Int.natCast_add, Int.add_mul]
  simp only [Int.natCast_one, Int.one_mul]
  split
  ·omega
  ·split <;> omega
theorem costTo_bd {bs : List Bd} {flow : List Int} (hf : ∀ i, 0 ≤ flow.getD i 0 ∧ flow.getD i 0 ≤ 1000000000) (hm : ∀ b ∈ bs, -1000000 ≤ b.most ∧ b.most ≤ 1000000) {k : Nat} (hk : k ≤ bs.length) (hl : bs.length ≤ 4000) :
 -4000000000000000000 ≤ costTo bs flow k ∧ costTo bs flow k ≤ 4000000000000000000 := by
 have := sumN_bd (f := fun i => flow.getD i 0 * (bnd bs i).most) (c := 1000000000000000) (n := k) fun i hi => by
  have h1 := hf i
  have h2 := hm (bnd bs i) (by rw [bnd_get (by omega)]; exact List.getElem_mem _)
  have := mul_bd (A := 1000000000) (B := 1000000) (a := flow.getD i 0) (b := (bnd bs i).most) (by omega) h1.2 h2.1 h2.2
  show -1000000000000000 ≤ flow.getD i 0 * (bnd bs i).most ∧ flow.getD i 0 * (bnd bs i).most ≤ 1000000000000000
  omega
 unfold costTo
 omega
set_option maxRecDepth 100000 in
set_option maxHeartbeats 2000000 in
theorem carries_any (w : World) (N : Nat) (a : Option Addr) (cap : Nat) (bs : List Bd) (a2 : Option Addr) (cap2 : Nat) (x : List Int) (a3 : Option Addr) (cap3 : Nat) (flow : List Int) (hN1 : N ≤ 128) (hl : bs.length ≤ 4000) (hx : x.length = N) (hf : flow.length = bs.length)
 (h : BoundsAt w a bs) (h2 : IntsAt w a2 x) (h3 : IntsAt w a3 flow) (hv : ∀ b ∈ bs, b.valid N ∧ b.src ≠ b.dst) (hfl : ∀ i, 0 ≤ flow.getD i 0 ∧ flow.getD i 0 ≤ 1000000000) :
 Calls Tryz.prog 125 #[.agg #[.int .i64 (N : Int), .slice a bs.length cap], .slice a2 x.length cap2, .slice a3 flow.length cap3] w fun e w' => e = .returned (.tuple #[.int .i64 (carriesP N bs x flow).1, .bool (carriesP N bs x flow).2]) ∧ Below w.heap.size w w' := by
 have HCB := hidE (fun (k : Nat) (hk : k ≤ bs.length) => costTo_bd hfl (fun b hb => ⟨(hv b hb).1.2.2.2.2.1, (hv b hb).1.2.2.2.2.2⟩) hk hl)
 have H := hidE h
 have H2 := hidE h2
 have H3 := hidE h3
 have HV := hidE hv
 have HFL := hidE hfl
 have HX := hidE hx
 have HFE := hidE hf
 obtain ⟨P1, hP1⟩ : ∃ z, (carriesP N bs x flow).1 = z := ⟨_, rfl⟩
 obtain ⟨P2, hP2⟩ : ∃ z, (carriesP N bs x flow).2 = z := ⟨_, rfl⟩
 rw [hP1, hP2]
 have HP1 := hidE hP1
 have HP2 := hidE hP2
 have hl128 : w.heap.size + 1 < w.heap.size + 1 + 1 := by omega
 clear h h2 h3 hv hfl hx hf hP1 hP2
 go_enter Tryz.func125, Tryz.ntmps125
 go_wp2_with fail
 go_loopw [9, 16] (fun c i wr => ∃ (k : Nat) (s : List Int), k ≤ bs.length ∧ i = .int .i64 k ∧ c = .int .i64 (costTo bs flow k) ∧ Hid (NetRow N bs flow k s) ∧
  Hid (wr.heap[w.heap.size]? = some (.cells #[.int .i64 (N : Int), .slice a bs.length cap] 24 (0,0))) ∧ Hid (wr.heap[w.heap.size + 1]? = some (.cells (rowA s) 153 (0,0))) ∧ Below w.heap.size w wr)
  (fun _ i _ => bs.length - (intOf i).toNat)
 case atStart => exact ⟨0, rep128 0, Nat.zero_le _, rfl, rfl, hidE (NetRow.start N bs flow), hidE (heap_alloc2_old _ _ _), hidE (by rw [heap_alloc2_new, zc153]), by go_grown⟩
 case round =>
  obtain ⟨k, s, hk, rfl, rfl, HN, H1, HA, hb⟩ := hrel
  have hcb := HCB.out k hk
  by_cases hlt : k < bs.length
  ·have hcb1 := HCB.out (k + 1) hlt
   have HCS := hidE (sumN_succ (fun i => flow.getD i 0 * (bnd bs i).most) k)
   obtain ⟨b, off, rfl, hbl, hcs⟩ := H.out.at hlt
   obtain ⟨d0, d1, d2, d3⟩ := hcs.below hb hbl
   have hval := HV.out bs[k] (List.getElem_mem hlt)
   have hfk : k < flow.length := by rw [HFE.out]; exact hlt
   obtain ⟨bf, off3, rfl, hbf, hfc⟩ := H3.out.at hfk
   rw [← hb.cell hbf, ← getD_get flow 0 hfk] at hfc
   have hflk := HFL.out k
   have HBN := hidE (bnd_get hlt)
   obtain ⟨f, hfe⟩ : ∃ f, flow.getD k 0 = f := ⟨_, rfl⟩
   obtain ⟨y, hy⟩ : ∃ y, bs[k] = y := ⟨_, rfl⟩
   rw [hy] at d0 d1 d2 d3 hval HBN
   rw [hfe] at hfc hflk
   have HFE2 := hidE hfe
   have HY := hidE hy
   obtain ⟨xs, xd, xm, xr⟩ := y
   obtain ⟨⟨v1, v2, v3, v4, v5, v6⟩, vne⟩ := hval
   simp only at d0 d1 d2 d3 v1 v2 v3 v4 v5 v6 vne
   obtain ⟨si, rfl⟩ := Int.eq_ofNat_of_zero_le v1
   obtain ⟨di, rfl⟩ := Int.eq_ofNat_of_zero_le v3
   have hne : si ≠ di := by omega
   have HSTEP := hidE (HN.out.step hN1 hlt (by rw [hy]) (by rw [hy]) hne (by omega) (by omega) hfe hflk.1 hflk.2)
   have HNE := hidE hne
   have hsl := HN.out.1
   have hsz : w.heap.size + 1 < wr.heap.size := lt_of_block HA.out
   have b3s := HN.out.2.2 si
   have b3d := HN.out.2.2 di
   have HSL := hidE hsl
   have s1 : (si : Int) < 128 := by omega
   have s2 : (di : Int) < 128 := by omega
   have hpm := mul_bd (A := 1000000000) (B := 1000000) (a := f) (b := xm) (by omega) hflk.2 v5 v6
   have hct : Hid (costTo bs flow (k + 1) = costTo bs flow k + f * xm) := hidE (by rw [costTo, HCS.out, ← costTo, HBN.out, HFE2.out])
   rw [hct.out] at hcb1
   have p0 : -1000000000000000 ≤ f * xm := by omega
   have p1 : f * xm ≤ 1000000000000000 := by omega
   obtain ⟨vs, hvs⟩ : ∃ v, s.getD si 0 = v := ⟨_, rfl⟩
   obtain ⟨vd, hvd⟩ : ∃ v, s.getD di 0 = v := ⟨_, rfl⟩
   rw [hvs] at b3s HSTEP
   rw [hvd] at b3d HSTEP
   have HVS := hidE hvs
   have HVD := hidE hvd
   have B := hidE hb
   have hwa : IntKind.i64.wrap (vd + f) = vd + f := IntWalk.i64_in _ (by omega)
   have hwb : IntKind.i64.wrap (vs - f) = vs - f := IntWalk.i64_in _ (by omega)
   have hwc : IntKind.i64.wrap (f * xm) = f * xm := IntWalk.i64_in _ (by omega)
   have HWD := hidE hwa
   have HWS := hidE hwb
   have HWM := hidE hwc
   clear hwa hwb hwc
   clear hfe hy hcs hsl hvs hvd hb vne hpm hne
   obtain ⟨ct, hctt⟩ : ∃ c, costTo bs flow k = c := ⟨_, rfl⟩
   rw [hctt] at hct hcb hcb1 ⊢
   clear hctt
   go_upto_region 6 with fail
   obtain ⟨X, hX⟩ : ∃ X, X = wr.alloc (.cells #[.int .i64 (si : Int), .int .i64 (di : Int), .int .i64 xm, .int .i64 xr] 81) := ⟨_, rfl⟩
   rw [← hX]
   have xa : X.heap[w.heap.size + 1]? = some (.cells (rowA s) 153 (0,0)) := by rw [hX]; exact (Below.heap_alloc _ _ _ hsz).trans HA.out
   have x1 : X.heap[w.heap.size]? = some (.cells #[.int .i64 (N : Int), .slice (some ⟨b, off, none⟩) bs.length cap] 24 (0,0)) := by rw [hX]; exact (Below.heap_alloc _ _ _ (by omega)).trans H1.out
   have xb : X.heap[wr.heap.size]? = some (.cells #[.int .i64 (si : Int), .int .i64 (di : Int), .int .i64 xm, .int .i64 xr] 81 (0,0)) := by rw [hX]; exact heap_alloc_new _ _
   have xB : Below w.heap.size w X := by rw [hX]; exact B.out.alloc B.out.size _
   have xf : X.cell? ⟨bf, off3 + k, none⟩ = some (.int .i64 f) := by rw [hX]; exact (Below.cell ((Below.refl wr.heap.size wr).alloc (Nat.le_refl _) _) (p := ⟨bf, off3 + k, none⟩) (Nat.lt_of_lt_of_le hbf B.out.size)).trans hfc
   have z0 : X.cell? ⟨wr.heap.size, 0, none⟩ = some (.int .i64 (si : Int)) := c_e xb rfl
   have z1 : X.cell? ⟨wr.heap.size, 1, none⟩ = some (.int .i64 (di : Int)) := c_e xb rfl
   have zd : X.cell? ⟨w.heap.size + 1, di, none⟩ = some (.int .i64 vd) := by rw [cell_of_row _ _ _ _ _ _ xa, rowA_get (by rw [HSL.out]; omega), HVD.out]
   have zf : X.frozen? ⟨w.heap.size + 1, di, none⟩ = false := frozen_of_row _ _ _ _ _ xa
   have XA := hidE xa
   have X1 := hidE x1
   have XB := hidE xb
   have XBB := hidE xB
   have XF := hidE xf
   have hww := HWD.out
   clear hX xa x1 xb xB d0 d1 d2 d3 hfc
   go_still_tail 10, (by kernel_rfl)
   go_upto_region 7 with fail
   clear hww
   obtain ⟨Y, hY⟩ : ∃ Y, Y = (X.setCell ⟨w.heap.size + 1, di, none⟩ (.int .i64 (vd + f))).drew := ⟨_, rfl⟩
   rw [← hY]
   have ya : Y.heap[w.heap.size + 1]? = some (.cells (rowA (s.set di (vd + f))) 153 (0,0)) := by rw [hY]; exact (heap_setCell_same _ _ _ _ _ _ XA.out).trans (by rw [rowA_set])
   have y1 : Y.heap[w.heap.size]? = some (.cells #[.int .i64 (N : Int), .slice (some ⟨b, off, none⟩) bs.length cap] 24 (0,0)) := by rw [hY]; exact (heap_setCell_other _ _ _ _ (by simp)).trans X1.out
   have yb : Y.heap[wr.heap.size]? = some (.cells #[.int .i64 (si : Int), .int .i64 (di : Int), .int .i64 xm, .int .i64 xr] 81 (0,0)) := by rw [hY]; exact (heap_setCell_other _ _ _ _ (by simp; omega)).trans XB.out
   have yB : Below w.heap.size w Y := by rw [hY]; exact (XBB.out.setCell (by simp) _).drew
   have yf : Y.cell? ⟨bf, off3 + k, none⟩ = some (.int .i64 f) := by rw [hY]; exact (World.cell?_setCell_other _ _ _ _ (by intro e; have := congrArg Addr.block e; simp at this; omega)).trans XF.out
   have z0' : Y.cell? ⟨wr.heap.size, 0, none⟩ = some (.int .i64 (si : Int)) := c_e yb rfl
   have zs : Y.cell? ⟨w.heap.size + 1, si, none⟩ = some (.int .i64 vs) := by rw [cell_of_row _ _ _ _ _ _ ya, rowA_get (by rw [List.length_set, HSL.out]; omega), getD_set_at, if_neg (fun h => HNE.out h.1.symm), HVS.out]
   have zf' : Y.frozen? ⟨w.heap.size + 1, si, none⟩ = false := frozen_of_row _ _ _ _ _ ya
   have YA := hidE ya
   have Y1 := hidE y1
   have YB := hidE yb
   have YBB := hidE yB
   have YF := hidE yf
   have hww := HWS.out
   clear hY ya y1 yb yB z0 z1 zd zf xf
   go_still_tail 10, (by kernel_rfl)
   go_upto_region 8 with fail
   clear hww
   obtain ⟨Z, hZ⟩ : ∃ Z, Z = (Y.setCell ⟨w.heap.size + 1, si, none⟩ (.int .i64 (vs - f))).drew := ⟨_, rfl⟩
   rw [← hZ]
   have za : Z.heap[w.heap.size + 1]? = some (.cells (rowA ((s.set di (vd + f)).set si (vs - f))) 153 (0,0)) := by rw [hZ]; exact (heap_setCell_same _ _ _ _ _ _ YA.out).trans (by rw [rowA_set])
   have z1 : Z.heap[w.heap.size]? = some (.cells #[.int .i64 (N : Int), .slice (some ⟨b, off, none⟩) bs.length cap] 24 (0,0)) := by rw [hZ]; exact (heap_setCell_other _ _ _ _ (by simp)).trans Y1.out
   have zb : Z.heap[wr.heap.size]? = some (.cells #[.int .i64 (si : Int), .int .i64 (di : Int), .int .i64 xm, .int .i64 xr] 81 (0,0)) := by rw [hZ]; exact (heap_setCell_other _ _ _ _ (by simp; omega)).trans YB.out
   have zB : Below w.heap.size w Z := by rw [hZ]; exact (YBB.out.setCell (by simp) _).drew
   have zff : Z.cell? ⟨bf, off3 + k, none⟩ = some (.int .i64 f) := by rw [hZ]; exact (World.cell?_setCell_other _ _ _ _ (by intro e; have := congrArg Addr.block e; simp at this; omega)).trans YF.out
   have z2 : Z.cell? ⟨wr.heap.size, 2, none⟩ = some (.int .i64 xm) := c_e zb rfl
   have ZA := hidE za
   have Z1 := hidE z1
   have ZBB := hidE zB
   have hww := HWM.out
   clear hZ za z1 zb zB z0' zs zf' yf
   go_quiet (fail)
   clear hww
   go_wp2_with fail
   go_roundw
   case rel => exact ⟨k + 1, _, by omega, by go_num, by rw [hct.out], HSTEP, hidE Z1.out, hidE ZA.out, ZBB.out.trans (below_drewN' _ _)⟩
   case measure => simp [intOf]; omega
  ·obtain rfl : k = bs.length := by omega
   have HNN := hidE (fun v (hv : v < N) => (HN.out.2.1 v hv).trans (netOf_eq bs flow v).symm)
   have HSL := hidE HN.out.1
   have b3s := hidE HN.out.2.2
   have B := hidE hb
   obtain ⟨A, rfl⟩ : ∃ A : World, A = wr := ⟨wr, rfl⟩
   obtain ⟨ct, hctt⟩ : ∃ c, costTo bs flow bs.length = c := ⟨_, rfl⟩
   have HCT := hidE ((costOf_eq bs flow).trans hctt)
   rw [hctt] at hcb ⊢
   clear hctt hb HCB HN
   go_wp2_with fail
   go_loopw [12] (fun i wr => ∃ (v nd : Nat), 1 ≤ v ∧ (v ≤ N ∨ v = 1) ∧ i = .int .i64 v ∧ Hid (carriedTo bs flow x v = true) ∧ wr = A.drewN nd) (fun i _ => N - (intOf i).toNat)
   case atStart => exact ⟨1, 0, Nat.le_refl _, .inr rfl, rfl, hidE (by simp [carriedTo, List.range_succ]), rfl⟩
   case round =>
    obtain ⟨v, nd, hv1, hv2, rfl, HCA, rfl⟩ := hrel
    have c1 : A.cell? ⟨w.heap.size, 0, none⟩ = some (.int .i64 (N : Int)) := c_e H1.out rfl
    by_cases hvl : v < N
    ·have hvx : v < x.length := by rw [HX.out]; exact hvl
     obtain ⟨bw, offw, rfl, hbw, hwc⟩ := H2.out.at hvx
     rw [← B.out.cell hbw, ← getD_get x 0 hvx] at hwc
     have cv : A.cell? ⟨w.heap.size + 1, v, none⟩ = some (.int .i64 (netOf bs flow v)) := by rw [cell_of_row _ _ _ _ _ _ HA.out, rowA_get (by rw [HSL.out]; omega), HNN.out v hvl]
     have HSUC := hidE (carriedTo_succ bs flow x v)
     have hvdec : decide ((v : Int) < (N : Int)) = true := by simp; omega
     obtain ⟨p, hp⟩ : ∃ p, netOf bs flow v = p := ⟨_, rfl⟩
     obtain ⟨q, hq⟩ : ∃ q, x.getD v 0 = q := ⟨_, rfl⟩
     rw [hp] at cv HSUC
     rw [hq] at hwc HSUC
     have HP := hidE hp
     have HQ := hidE hq
     clear hp hq
     by_cases hpq : p = q
     ·have hpqb : (p != q) = false := by simpa using hpq
      have HN1 : Hid (carriedTo bs flow x (v + 1) = true) := hidE (by rw [HSUC.out, HCA.out]; simp [hpq])
      clear hpq
      go_wp2_with fail
      go_quiet (fail)
      go_wp2_with fail
      go_roundw
      case rel => exact ⟨v + 1, _, by omega, .inl (by omega), by go_num, HN1, rfl⟩
      case measure => simp [intOf]; omega
     ·have hpqb : (p != q) = true := by simpa using hpq
      have HF : Hid (carriedTo bs flow x N = false) := hidE (by
       cases hc : carriedTo bs flow x N with
       | false => rfl
       | true =>
         have := carriedTo_mono (show v + 1 ≤ N by omega) hc
         rw [HSUC.out] at this
         simp [hpq] at this
         omega)
      have hP1 := HP1.out
      have hP2 := HP2.out
      unfold carriesP at hP1 hP2
      rw [HF.out] at hP1 hP2
      obtain rfl : (0 : Int) = P1 := by simpa using hP1
      obtain rfl : false = P2 := by simpa using hP2
      clear hpq hP1 hP2
      go_wp2_with fail
      go_quiet (fail)
      go_wp2_with fail
      go_ret2
      exact ⟨rfl, (B.out.trans (below_drewN' _ _)).trans (below_drewN' _ _)⟩
    ·have hvdec : decide ((v : Int) < (N : Int)) = false := by simp; omega
     have HT : Hid (carriedTo bs flow x N = true) := hidE (carriedTo_mono (by omega) HCA.out)
     have hP1 := HP1.out
     have hP2 := HP2.out
     unfold carriesP at hP1 hP2
     rw [HT.out] at hP1 hP2
     simp only [if_true] at hP1 hP2
     obtain rfl : ct = P1 := by rw [← hP1, HCT.out]
     obtain rfl : true = P2 := hP2
     clear hP1
     go_wp2_with fail
     go_ret2
     exact ⟨rfl, B.out.trans (below_drewN' _ _)⟩
set_option maxHeartbeats 1000000 in
theorem broken_any (w : World) (N : Nat) (a : Option Addr) (cap : Nat) (bs : List Bd) (a2 : Option Addr) (cap2 : Nat) (y : List Int) (hl : bs.length ≤ 4000) (h : BoundsAt w a bs) (h2 : IntsAt w a2 y) (hv : AllValid N bs) (hN : y.length = N) (_hN1 : N ≤ 128) (hy : ∀ v ∈ y, -400000000 ≤ v ∧ v ≤ 400000000) :
 Calls Tryz.prog 195 #[.agg #[.int .i64 N, .slice a bs.length cap], .slice a2 y.length cap2] w fun e w' => e = .returned (.int .i64 (idxOf (keptB y) bs)) ∧ Below w.heap.size w w' := by
 have H := hidE h
 have H2 := hidE h2
 have HV := hidE hv
 have HY := hidE hy
 have HN := hidE hN
 clear h h2 hv hy hN
 go_enter Tryz.func195, Tryz.ntmps195
 go_wp2_with fail
 go_loopw [5] (fun i wr => ∃ k : Nat, k ≤ bs.length ∧ i = .int .i64 k ∧ Hid ((bs.take k).any (keptB y) = false) ∧ Hid (wr.heap[w.heap.size]? = some (.cells #[.int .i64 N, .slice a bs.length cap] 24 (0,0))) ∧ Below w.heap.size w wr) (fun i _ => bs.length - (intOf i).toNat)
 case atStart => exact ⟨0, by omega, rfl, hidE rfl, hidE (heap_alloc_new _ _), by go_grown⟩
 case round =>
  obtain ⟨k, hk, rfl, HA, HS, hb⟩ := hrel
  have hc1 : wr.cell? ⟨w.heap.size, 1, none⟩ = some (.slice a bs.length cap) := c_e HS.out rfl
  have hsz : w.heap.size < wr.heap.size := lt_of_block HS.out
  by_cases hlt : k < bs.length
  ·obtain ⟨b, off, rfl, hbl, hcs⟩ := H.out.at hlt
   obtain ⟨c0, c1, c2, c3⟩ := hcs.below hb hbl
   have hval := HV.out bs[k] (List.getElem_mem _)
   obtain ⟨x, hx⟩ : ∃ x, bs[k] = x := ⟨_, rfl⟩
   rw [hx] at c0 c1 c2 c3 hval
   obtain ⟨ys, yd, ym, yr⟩ := x
   obtain ⟨v1, v2, v3, v4, v5, v6⟩ := hval
   simp only at c0 c1 c2 c3 v1 v2 v3 v4 v5 v6
   obtain ⟨si, rfl⟩ := Int.eq_ofNat_of_zero_le v1
   obtain ⟨di, rfl⟩ := Int.eq_ofNat_of_zero_le v3
   have hs : si < y.length := by have := HN.out; omega
   have hd : di < y.length := by have := HN.out; omega
   have H2w := H2.out.below hb (Nat.le_refl _)
   obtain ⟨b2, off2, rfl, hbw, hcs2⟩ := H2w.at hs
   obtain ⟨b', off', e', _, hcd2⟩ := H2w.at hd
   cases e'
   have q1 := HY.out y[si] (List.getElem_mem _)
   have q2 := HY.out y[di] (List.getElem_mem _)
   have hkb : keptB y ⟨si, di, ym, yr⟩ = decide (ym < y[di] - y[si]) := by
    unfold keptB getI
    rw [decide_eq_decide]
    simp only [Int.toNat_natCast]
    rw [getD_get y 0 hs, getD_get y 0 hd]
   obtain ⟨x, hx1⟩ : ∃ x, y[si] = x := ⟨_, rfl⟩
   obtain ⟨z, hz⟩ : ∃ z, y[di] = z := ⟨_, rfl⟩
   rw [hx1, hz] at hkb
   rw [hx1] at hcs2 q1
   rw [hz] at hcd2 q2
   rw [← hx] at hkb
   have s0 : (si : Int) < y.length := by omega
   have d0 : (di : Int) < y.length := by omega
   have hw1 : IntKind.i64.wrap (z - x) = z - x := IntWalk.i64_in _ (by omega)
   have l1 : b2 < wr.heap.size := hbw
   have HKB := hidE hkb
   clear hcs hx hx1 hz hkb H2w
   by_cases hgt : ym < z - x
   ·have hq : keptB y bs[k] = true := by rw [HKB.out]; simpa using hgt
    have hix := idxOf_found hlt HA.out hq
    have HIX := hidE hix
    have hdd : decide (z - x > ym) = true := by simpa using hgt
    clear hq hix
    go_wp2_with fail
    go_quiet (fail)
    go_wp2_with fail
    go_ret
    exact ⟨by rw [HIX.out]; rfl, (hb.alloc hb.size _).trans (below_drewN' _ _)⟩
   ·have hq : keptB y bs[k] = false := by rw [HKB.out]; simpa using hgt
    have HQ := hidE hq
    have hdd : decide (z - x > ym) = false := by simpa using hgt
    clear hq
    go_wp2_with fail
    go_quiet (fail)
    go_wp2_with fail
    go_roundw
    case rel => exact ⟨k + 1, by omega, by go_num, hidE (take_any_succ hlt HA.out HQ.out), hidE ((Below.heap_alloc _ _ _ hsz).trans HS.out), (hb.alloc hb.size _).trans (below_drewN' _ _)⟩
    case measure => simp [intOf]; omega
  ·have hix := idxOf_none (any_of_take (by omega) HA.out)
   have HIX := hidE hix
   clear hix
   go_wp2_with fail
   go_ret
   exact ⟨by rw [HIX.out]; rfl, hb⟩
set_option maxHeartbeats 1000000 in
theorem refkept_any (w : World) (N : Int) (a : Option Addr) (cap : Nat) (bs : List Bd) (a2 : Option Addr) (cap2 : Nat) (y : List Int) (hN : i64ok N) (hl : bs.length ≤ 9223372036854775807) (hl2 : y.length ≤ 9223372036854775807) (h : BoundsAt w a bs) (h2 : IntsAt w a2 y) :
 Calls Tryz.prog 149 #[.agg #[.int .i64 N, .slice a bs.length cap], .slice a2 y.length cap2] w fun e w' => e = .returned (.tuple #[.int .i64 (keptE N bs y).1, .bool (keptE N bs y).2.1, .int .i64 (keptE N bs y).2.2]) ∧ Below w.heap.size w w' := by
 have b0 : Below w.heap.size w (w.alloc (.cells #[.int .i64 N, .slice a bs.length cap] 24)) := (Below.refl _ _).alloc (Nat.le_refl _) _
 have hck := refcheck_any (w.alloc (.cells #[.int .i64 N, .slice a bs.length cap] 24)) N a cap bs hN hl (h.below b0 (Nat.le_refl _))
 have B0 := hidE b0
 by_cases hc : checkP N bs = 0
 ·obtain ⟨n0, n1, n2, nv⟩ := checkP_zero hc
  rw [hc] at hck
  have HCK := hidE hck
  have H := hidE h
  have H2 := hidE h2
  have HC := hidE hc
  have NV := hidE nv
  clear hck h h2 hc nv hN b0
  go_enter Tryz.func149, Tryz.ntmps149
  go_wp2_with fail
  refine HCK.out.mono ?_
  rintro e w1 ⟨rfl, hb1⟩
  have y0 := blk_below hb1 (by simp) (heap_alloc_new w (.cells #[.int .i64 N, .slice a bs.length cap] 24))
  have B1 := B0.out.trans (hb1.mono B0.out.size)
  have hva := refvalues_any w1 N (.slice a bs.length cap) a2 cap2 y n0 hl2 (H2.out.below B1 (Nat.le_refl _))
  have Y0 := hidE y0
  have HB1 := hidE B1
  have HVA := hidE hva
  have f0 : w1.cell? ⟨w.heap.size, 0, none⟩ = some (.int .i64 N) := c_e Y0.out rfl
  have f1 : w1.cell? ⟨w.heap.size, 1, none⟩ = some (.slice a bs.length cap) := c_e Y0.out rfl
  clear y0 B1 hb1 hva
  go_wp2_with fail
  refine HVA.out.mono ?_
  rintro e w2 ⟨rfl, hb2⟩
  have z0 := blk_below hb2 (lt_of_block Y0.out) Y0.out
  have B2 := HB1.out.trans (hb2.mono HB1.out.size)
  have Z0 := hidE z0
  have HB2 := hidE B2
  clear z0 B2 hb2 f0 f1
  cases hvb : valuesB N y with
  | false =>
    have hk : keptE N bs y = (0, false, 1) := by unfold keptE; rw [if_neg (by simp [HC.out]), if_pos hvb]
    have HK := hidE hk
    clear hvb hk
    go_wp2_with fail
    go_ret3
    exact ⟨by rw [HK.out]; rfl, HB2.out⟩
  | true =>
    have hk : keptE N bs y = (max (idxOf (keptB y) bs) 0, decide (idxOf (keptB y) bs < 0), 0) := by unfold keptE; rw [if_neg (by simp [HC.out]), if_neg (by rw [hvb]; simp)]
    obtain ⟨R, rfl⟩ := Int.eq_ofNat_of_zero_le (show 0 ≤ N by omega)
    obtain ⟨q1, q2, q3⟩ := valuesB_iff.1 hvb
    have e0 : w2.cell? ⟨w.heap.size, 0, none⟩ = some (.int .i64 (R : Int)) := c_e Z0.out rfl
    have e1 : w2.cell? ⟨w.heap.size, 1, none⟩ = some (.slice a bs.length cap) := c_e Z0.out rfl
    have hidx := broken_any w2 R a cap bs a2 cap2 y (by omega) (H.out.below HB2.out (Nat.le_refl _)) (H2.out.below HB2.out (Nat.le_refl _)) (fun b hb => (NV.out b hb).1) q1 (by omega) q3
    obtain ⟨ix, hix⟩ : ∃ x, idxOf (keptB y) bs = x := ⟨_, rfl⟩
    rw [hix] at hidx hk
    have HI := hidE hidx
    have HK := hidE hk
    clear hvb hk hidx hix q1 q2 q3
    by_cases hneg : ix < 0
    ·have hdd : decide (ix ≥ 0) = false := by simp; omega
     have hmx : max ix 0 = 0 := by omega
     have HMX := hidE hmx
     clear hmx
     go_wp2_with fail
     refine HI.out.mono ?_
     rintro e w3 ⟨rfl, hb3⟩
     have HB3 := hidE (HB2.out.trans (hb3.mono HB2.out.size))
     clear hb3 e0 e1
     go_wp2_with fail
     go_ret3
     exact ⟨by rw [HK.out]; simp only; rw [HMX.out, decide_eq_true hneg]; rfl, HB3.out⟩
    ·have hdd : decide (ix ≥ 0) = true := by simp; omega
     have hmx : max ix 0 = ix := by omega
     have HMX := hidE hmx
     clear hmx
     go_wp2_with fail
     refine HI.out.mono ?_
     rintro e w3 ⟨rfl, hb3⟩
     have HB3 := hidE (HB2.out.trans (hb3.mono HB2.out.size))
     clear hb3 e0 e1
     go_wp2_with fail
     go_ret3
     exact ⟨by rw [HK.out]; simp only; rw [HMX.out, decide_eq_false (by omega)]; rfl, HB3.out⟩
 ·have hk : keptE N bs y = (0, false, checkP N bs) := by unfold keptE; rw [if_pos hc]
  obtain ⟨c, hcc⟩ : ∃ c, checkP N bs = c := ⟨_, rfl⟩
  rw [hcc] at hk hc hck
  have hc2 : (c != 0) = true := by simpa using hc
  have HCK := hidE hck
  have HK := hidE hk
  clear hck hk hc hcc h h2 hN b0
  go_enter Tryz.func149, Tryz.ntmps149
  go_wp2_with fail
  refine HCK.out.mono ?_
  rintro e w1 ⟨rfl, hb1⟩
  go_wp2_with fail
  go_ret3
  exact ⟨by rw [HK.out]; rfl, B0.out.trans (hb1.mono B0.out.size)⟩
def bestE (N : Int) (bs : List Bd) (x y flow : List Int) : Bool × Int :=
 if checkP N bs ≠ 0 then (false, checkP N bs) else if weighedB N x = false ∨ valuesB N y = false then (false, 1) else if (keptE N bs y).2.1 = false ∨ flowingB bs.length flow = false then (false, 0)
 else ((carriesP N.toNat bs x flow).2 && ((carriesP N.toNat bs x flow).1 == formP x y), 0)
theorem keptE_err0 {N : Int} {bs : List Bd} {y : List Int} (h : checkP N bs = 0) (hv : valuesB N y = true) : (keptE N bs y).2.2 = 0 := by
 unfold keptE
 rw [if_neg (by omega), if_neg (by simp [hv])]
set_option maxHeartbeats 2000000 in
theorem checkBest_any (w : World) (N : Int) (a : Option Addr) (cap : Nat) (bs : List Bd) (a2 : Option Addr) (cap2 : Nat) (x : List Int) (a3 : Option Addr) (cap3 : Nat) (y : List Int) (a4 : Option Addr) (cap4 : Nat) (flow : List Int) (hN : i64ok N) (hl : bs.length ≤ 9223372036854775807) (h : BoundsAt w a bs) (hl2 : x.length ≤ 9223372036854775807) (h2 : IntsAt w a2 x) (hl3 : y.length ≤ 9223372036854775807) (h3 : IntsAt w a3 y) (hl4 : flow.length ≤ 9223372036854775807) (h4 : IntsAt w a4 flow) :
 Calls Tryz.prog 60 #[.agg #[.int .i64 N, .slice a bs.length cap], .slice a2 x.length cap2, .slice a3 y.length cap3, .slice a4 flow.length cap4] w fun e w' => e = .returned (.tuple #[.bool (bestE N bs x y flow).1, .int .i64 (bestE N bs x y flow).2]) ∧ Below w.heap.size w w' := by
 have B0 := hidE (show Below w.heap.size w (w.alloc (.cells #[.int .i64 N, .slice a bs.length cap] 24)) from (Below.refl _ _).alloc (Nat.le_refl _) _)
 have hch := check_any (w.alloc (.cells #[.int .i64 N, .slice a bs.length cap] 24)) N a cap bs hN hl (h.alloc _)
 obtain ⟨P1, hP1⟩ : ∃ z, (bestE N bs x y flow).1 = z := ⟨_, rfl⟩
 obtain ⟨P2, hP2⟩ : ∃ z, (bestE N bs x y flow).2 = z := ⟨_, rfl⟩
 rw [hP1, hP2]
 have H := hidE h
 have HN := hidE hN
 have H2 := hidE h2
 have H3 := hidE h3
 have H4 := hidE h4
 clear h h2 h3 h4 hN
 by_cases z : checkP N bs = 0
 ·rw [z] at hch
  obtain ⟨R, rfl, hR1, hR2, hbl, hv⟩ := allOk_of z
  have HZ := hidE z
  have HCH := hidE hch
  have HV := hidE hv
  clear z hch hv
  have HWE := hidE (fun W hy => weighed_any W (R : Int) a2 cap2 x hl2 hy)
  have HVA := hidE (fun W hy => valued_any W (R : Int) a3 cap3 y (by omega) hl3 hy)
  have HFL := hidE (fun W hy => flowing_any W (R : Int) a bs.length cap a4 cap4 flow hl4 hy)
  have HKE := hidE (fun W hb hy => kept_any W (R : Int) a cap bs a3 cap3 y HN.out hl hl3 hb hy)
  cases hq : weighedB (R : Int) x with
  | false =>
    unfold bestE at hP1 hP2
    rw [if_neg (by have := HZ.out; omega), if_pos (.inl hq)] at hP1 hP2
    obtain rfl : false = P1 := hP1
    obtain rfl : (1 : Int) = P2 := hP2
    rw [hq] at HWE
    clear hq
    go_enter Tryz.func60, Tryz.ntmps60
    go_wp2_with fail
    refine (HCH.out).mono ?_
    rintro e w1 ⟨rfl, hb1⟩
    have x1 := blk_below hb1 (by simp) (heap_alloc_new w (.cells #[.int .i64 (R : Int), .slice a bs.length cap] 24))
    have c0_1 : w1.cell? ⟨w.heap.size, 0, none⟩ = some (.int .i64 (R : Int)) := c_e x1 rfl
    have c1_1 : w1.cell? ⟨w.heap.size, 1, none⟩ = some (.slice a bs.length cap) := c_e x1 rfl
    have l1 := lt_of_block x1
    have B1 := hidE (B0.out.trans (hb1.mono B0.out.size))
    have X1 := hidE x1
    clear hb1 x1
    go_wp2_with fail
    refine (HWE.out _ ((H2).out.below B1.out (Nat.le_refl _))).mono ?_
    rintro e w2 ⟨rfl, hb2⟩
    have x2 := blk_below hb2 l1 X1.out
    have c0_2 : w2.cell? ⟨w.heap.size, 0, none⟩ = some (.int .i64 (R : Int)) := c_e x2 rfl
    have c1_2 : w2.cell? ⟨w.heap.size, 1, none⟩ = some (.slice a bs.length cap) := c_e x2 rfl
    have l2 := lt_of_block x2
    have B2 := hidE (B1.out.trans (hb2.mono B1.out.size))
    have X2 := hidE x2
    clear hb2 x2 c0_1 c1_1
    go_wp2_with fail
    go_ret2
    exact ⟨rfl, B2.out⟩
  | true =>
    have HB := hidE (weighed_bd hq)
    rw [hq] at HWE
    cases hu : valuesB (R : Int) y with
    | false =>
      unfold bestE at hP1 hP2
      rw [if_neg (by have := HZ.out; omega), if_pos (.inr hu)] at hP1 hP2
      obtain rfl : false = P1 := hP1
      obtain rfl : (1 : Int) = P2 := hP2
      rw [hu] at HVA
      clear hq hu
      go_enter Tryz.func60, Tryz.ntmps60
      go_wp2_with fail
      refine (HCH.out).mono ?_
      rintro e w1 ⟨rfl, hb1⟩
      have x1 := blk_below hb1 (by simp) (heap_alloc_new w (.cells #[.int .i64 (R : Int), .slice a bs.length cap] 24))
      have c0_1 : w1.cell? ⟨w.heap.size, 0, none⟩ = some (.int .i64 (R : Int)) := c_e x1 rfl
      have c1_1 : w1.cell? ⟨w.heap.size, 1, none⟩ = some (.slice a bs.length cap) := c_e x1 rfl
      have l1 := lt_of_block x1
      have B1 := hidE (B0.out.trans (hb1.mono B0.out.size))
      have X1 := hidE x1
      clear hb1 x1
      go_wp2_with fail
      refine (HWE.out _ ((H2).out.below B1.out (Nat.le_refl _))).mono ?_
      rintro e w2 ⟨rfl, hb2⟩
      have x2 := blk_below hb2 l1 X1.out
      have c0_2 : w2.cell? ⟨w.heap.size, 0, none⟩ = some (.int .i64 (R : Int)) := c_e x2 rfl
      have c1_2 : w2.cell? ⟨w.heap.size, 1, none⟩ = some (.slice a bs.length cap) := c_e x2 rfl
      have l2 := lt_of_block x2
      have B2 := hidE (B1.out.trans (hb2.mono B1.out.size))
      have X2 := hidE x2
      clear hb2 x2 c0_1 c1_1
      go_wp2_with fail
      refine (HVA.out _ ((H3).out.below B2.out (Nat.le_refl _))).mono ?_
      rintro e w3 ⟨rfl, hb3⟩
      have x3 := blk_below hb3 l2 X2.out
      have c0_3 : w3.cell? ⟨w.heap.size, 0, none⟩ = some (.int .i64 (R : Int)) := c_e x3 rfl
      have c1_3 : w3.cell? ⟨w.heap.size, 1, none⟩ = some (.slice a bs.length cap) := c_e x3 rfl
      have l3 := lt_of_block x3
      have B3 := hidE (B2.out.trans (hb3.mono B2.out.size))
      have X3 := hidE x3
      clear hb3 x3 c0_2 c1_2
      go_wp2_with fail
      go_ret2
      exact ⟨rfl, B3.out⟩
    | true =>
      have HVB := hidE (valuesB_iff.1 hu)
      have hk0 := keptE_err0 HZ.out hu
      rw [hk0] at HKE
      rw [hu] at HVA
      unfold bestE at hP1 hP2
      rw [if_neg (by have := HZ.out; omega), if_neg (by simp [hq, hu])] at hP1 hP2
      obtain ⟨ix, hix⟩ : ∃ i, (keptE (R : Int) bs y).1 = i := ⟨_, rfl⟩
      obtain ⟨kp, hkp⟩ : ∃ i, (keptE (R : Int) bs y).2.1 = i := ⟨_, rfl⟩
      rw [hix, hkp] at HKE
      rw [hkp] at hP1 hP2
      clear hq hu hk0 hix hkp
      cases kp with
      | false =>
        rw [if_pos (.inl rfl)] at hP1 hP2
        obtain rfl : false = P1 := hP1
        obtain rfl : (0 : Int) = P2 := hP2
        go_enter Tryz.func60, Tryz.ntmps60
        go_wp2_with fail
        refine (HCH.out).mono ?_
        rintro e w1 ⟨rfl, hb1⟩
        have x1 := blk_below hb1 (by simp) (heap_alloc_new w (.cells #[.int .i64 (R : Int), .slice a bs.length cap] 24))
        have c0_1 : w1.cell? ⟨w.heap.size, 0, none⟩ = some (.int .i64 (R : Int)) := c_e x1 rfl
        have c1_1 : w1.cell? ⟨w.heap.size, 1, none⟩ = some (.slice a bs.length cap) := c_e x1 rfl
        have l1 := lt_of_block x1
        have B1 := hidE (B0.out.trans (hb1.mono B0.out.size))
        have X1 := hidE x1
        clear hb1 x1
        go_wp2_with fail
        refine (HWE.out _ ((H2).out.below B1.out (Nat.le_refl _))).mono ?_
        rintro e w2 ⟨rfl, hb2⟩
        have x2 := blk_below hb2 l1 X1.out
        have c0_2 : w2.cell? ⟨w.heap.size, 0, none⟩ = some (.int .i64 (R : Int)) := c_e x2 rfl
        have c1_2 : w2.cell? ⟨w.heap.size, 1, none⟩ = some (.slice a bs.length cap) := c_e x2 rfl
        have l2 := lt_of_block x2
        have B2 := hidE (B1.out.trans (hb2.mono B1.out.size))
        have X2 := hidE x2
        clear hb2 x2 c0_1 c1_1
        go_wp2_with fail
        refine (HVA.out _ ((H3).out.below B2.out (Nat.le_refl _))).mono ?_
        rintro e w3 ⟨rfl, hb3⟩
        have x3 := blk_below hb3 l2 X2.out
        have c0_3 : w3.cell? ⟨w.heap.size, 0, none⟩ = some (.int .i64 (R : Int)) := c_e x3 rfl
        have c1_3 : w3.cell? ⟨w.heap.size, 1, none⟩ = some (.slice a bs.length cap) := c_e x3 rfl
        have l3 := lt_of_block x3
        have B3 := hidE (B2.out.trans (hb3.mono B2.out.size))
        have X3 := hidE x3
        clear hb3 x3 c0_2 c1_2
        go_wp2_with fail
        refine (HKE.out _ ((H).out.below B3.out (Nat.le_refl _)) ((H3).out.below B3.out (Nat.le_refl _))).mono ?_
        rintro e w4 ⟨rfl, hb4⟩
        have x4 := blk_below hb4 l3 X3.out
        have c0_4 : w4.cell? ⟨w.heap.size, 0, none⟩ = some (.int .i64 (R : Int)) := c_e x4 rfl
        have c1_4 : w4.cell? ⟨w.heap.size, 1, none⟩ = some (.slice a bs.length cap) := c_e x4 rfl
        have l4 := lt_of_block x4
        have B4 := hidE (B3.out.trans (hb4.mono B3.out.size))
        have X4 := hidE x4
        clear hb4 x4 c0_3 c1_3
        go_wp2_with fail
        go_ret2
        exact ⟨rfl, B4.out⟩
      | true =>
        cases hf : flowingB bs.length flow with
        | false =>
          rw [if_pos (.inr hf)] at hP1 hP2
          obtain rfl : false = P1 := hP1
          obtain rfl : (0 : Int) = P2 := hP2
          rw [hf] at HFL
          clear hf
          go_enter Tryz.func60, Tryz.ntmps60
          go_wp2_with fail
          refine (HCH.out).mono ?_
          rintro e w1 ⟨rfl, hb1⟩
          have x1 := blk_below hb1 (by simp) (heap_alloc_new w (.cells #[.int .i64 (R : Int), .slice a bs.length cap] 24))
          have c0_1 : w1.cell? ⟨w.heap.size, 0, none⟩ = some (.int .i64 (R : Int)) := c_e x1 rfl
          have c1_1 : w1.cell? ⟨w.heap.size, 1, none⟩ = some (.slice a bs.length cap) := c_e x1 rfl
          have l1 := lt_of_block x1
          have B1 := hidE (B0.out.trans (hb1.mono B0.out.size))
          have X1 := hidE x1
          clear hb1 x1
          go_wp2_with fail
          refine (HWE.out _ ((H2).out.below B1.out (Nat.le_refl _))).mono ?_
          rintro e w2 ⟨rfl, hb2⟩
          have x2 := blk_below hb2 l1 X1.out
          have c0_2 : w2.cell? ⟨w.heap.size, 0, none⟩ = some (.int .i64 (R : Int)) := c_e x2 rfl
          have c1_2 : w2.cell? ⟨w.heap.size, 1, none⟩ = some (.slice a bs.length cap) := c_e x2 rfl
          have l2 := lt_of_block x2
          have B2 := hidE (B1.out.trans (hb2.mono B1.out.size))
          have X2 := hidE x2
          clear hb2 x2 c0_1 c1_1
          go_wp2_with fail
          refine (HVA.out _ ((H3).out.below B2.out (Nat.le_refl _))).mono ?_
          rintro e w3 ⟨rfl, hb3⟩
          have x3 := blk_below hb3 l2 X2.out
          have c0_3 : w3.cell? ⟨w.heap.size, 0, none⟩ = some (.int .i64 (R : Int)) := c_e x3 rfl
          have c1_3 : w3.cell? ⟨w.heap.size, 1, none⟩ = some (.slice a bs.length cap) := c_e x3 rfl
          have l3 := lt_of_block x3
          have B3 := hidE (B2.out.trans (hb3.mono B2.out.size))
          have X3 := hidE x3
          clear hb3 x3 c0_2 c1_2
          go_wp2_with fail
          refine (HKE.out _ ((H).out.below B3.out (Nat.le_refl _)) ((H3).out.below B3.out (Nat.le_refl _))).mono ?_
          rintro e w4 ⟨rfl, hb4⟩
          have x4 := blk_below hb4 l3 X3.out
          have c0_4 : w4.cell? ⟨w.heap.size, 0, none⟩ = some (.int .i64 (R : Int)) := c_e x4 rfl
          have c1_4 : w4.cell? ⟨w.heap.size, 1, none⟩ = some (.slice a bs.length cap) := c_e x4 rfl
          have l4 := lt_of_block x4
          have B4 := hidE (B3.out.trans (hb4.mono B3.out.size))
          have X4 := hidE x4
          clear hb4 x4 c0_3 c1_3
          go_wp2_with fail
          refine (HFL.out _ ((H4).out.below B4.out (Nat.le_refl _))).mono ?_
          rintro e w5 ⟨rfl, hb5⟩
          have x5 := blk_below hb5 l4 X4.out
          have c0_5 : w5.cell? ⟨w.heap.size, 0, none⟩ = some (.int .i64 (R : Int)) := c_e x5 rfl
          have c1_5 : w5.cell? ⟨w.heap.size, 1, none⟩ = some (.slice a bs.length cap) := c_e x5 rfl
          have l5 := lt_of_block x5
          have B5 := hidE (B4.out.trans (hb5.mono B4.out.size))
          have X5 := hidE x5
          clear hb5 x5 c0_4 c1_4
          go_wp2_with fail
          go_ret2
          exact ⟨rfl, B5.out⟩
        | true =>
          rw [if_neg (by simp [hf])] at hP1 hP2
          obtain rfl : (0 : Int) = P2 := hP2
          rw [hf] at HFL
          have HFB := hidE (flowing_bd hf)
          have HFO := hidE (fun W hx hy => form_any W a2 cap2 x a3 cap3 y (by have := HB.out.1; omega) (by have := HB.out.1; have := HVB.out.1; omega) hx hy HB.out.2 HVB.out.2.2)
          have HCR := hidE (fun W hb hx hf => carries_any W R a cap bs a2 cap2 x a4 cap4 flow hR2 (by omega) (by have := HB.out.1; omega) HFB.out.1 hb hx hf HV.out HFB.out.2)
          rw [Int.toNat_natCast] at hP1
          obtain ⟨c, hc⟩ : ∃ c, (carriesP R bs x flow).1 = c := ⟨_, rfl⟩
          obtain ⟨k, hk⟩ : ∃ k, (carriesP R bs x flow).2 = k := ⟨_, rfl⟩
          obtain ⟨fo, hfo⟩ : ∃ k, formP x y = k := ⟨_, rfl⟩
          rw [hc, hk] at HCR
          rw [hfo] at HFO
          simp only [hc, hk, hfo] at hP1
          have HP := hidE hP1
          clear hf hc hk hfo hP1
          go_enter Tryz.func60, Tryz.ntmps60
          go_wp2_with fail
          refine (HCH.out).mono ?_
          rintro e w1 ⟨rfl, hb1⟩
          have x1 := blk_below hb1 (by simp) (heap_alloc_new w (.cells #[.int .i64 (R : Int), .slice a bs.length cap] 24))
          have c0_1 : w1.cell? ⟨w.heap.size, 0, none⟩ = some (.int .i64 (R : Int)) := c_e x1 rfl
          have c1_1 : w1.cell? ⟨w.heap.size, 1, none⟩ = some (.slice a bs.length cap) := c_e x1 rfl
          have l1 := lt_of_block x1
          have B1 := hidE (B0.out.trans (hb1.mono B0.out.size))
          have X1 := hidE x1
          clear hb1 x1
          go_wp2_with fail
          refine (HWE.out _ ((H2).out.below B1.out (Nat.le_refl _))).mono ?_
          rintro e w2 ⟨rfl, hb2⟩
          have x2 := blk_below hb2 l1 X1.out
          have c0_2 : w2.cell? ⟨w.heap.size, 0, none⟩ = some (.int .i64 (R : Int)) := c_e x2 rfl
          have c1_2 : w2.cell? ⟨w.heap.size, 1, none⟩ = some (.slice a bs.length cap) := c_e x2 rfl
          have l2 := lt_of_block x2
          have B2 := hidE (B1.out.trans (hb2.mono B1.out.size))
          have X2 := hidE x2
          clear hb2 x2 c0_1 c1_1
          go_wp2_with fail
          refine (HVA.out _ ((H3).out.below B2.out (Nat.le_refl _))).mono ?_
          rintro e w3 ⟨rfl, hb3⟩
          have x3 := blk_below hb3 l2 X2.out
          have c0_3 : w3.cell? ⟨w.heap.size, 0, none⟩ = some (.int .i64 (R : Int)) := c_e x3 rfl
          have c1_3 : w3.cell? ⟨w.heap.size, 1, none⟩ = some (.slice a bs.length cap) := c_e x3 rfl
          have l3 := lt_of_block x3
          have B3 := hidE (B2.out.trans (hb3.mono B2.out.size))
          have X3 := hidE x3
          clear hb3 x3 c0_2 c1_2
          go_wp2_with fail
          refine (HKE.out _ ((H).out.below B3.out (Nat.le_refl _)) ((H3).out.below B3.out (Nat.le_refl _))).mono ?_
          rintro e w4 ⟨rfl, hb4⟩
          have x4 := blk_below hb4 l3 X3.out
          have c0_4 : w4.cell? ⟨w.heap.size, 0, none⟩ = some (.int .i64 (R : Int)) := c_e x4 rfl
          have c1_4 : w4.cell? ⟨w.heap.size, 1, none⟩ = some (.slice a bs.length cap) := c_e x4 rfl
          have l4 := lt_of_block x4
          have B4 := hidE (B3.out.trans (hb4.mono B3.out.size))
          have X4 := hidE x4
          clear hb4 x4 c0_3 c1_3
          go_wp2_with fail
          refine (HFL.out _ ((H4).out.below B4.out (Nat.le_refl _))).mono ?_
          rintro e w5 ⟨rfl, hb5⟩
          have x5 := blk_below hb5 l4 X4.out
          have c0_5 : w5.cell? ⟨w.heap.size, 0, none⟩ = some (.int .i64 (R : Int)) := c_e x5 rfl
          have c1_5 : w5.cell? ⟨w.heap.size, 1, none⟩ = some (.slice a bs.length cap) := c_e x5 rfl
          have l5 := lt_of_block x5
          have B5 := hidE (B4.out.trans (hb5.mono B4.out.size))
          have X5 := hidE x5
          clear hb5 x5 c0_4 c1_4
          go_wp2_with fail
          refine (HCR.out _ ((H).out.below B5.out (Nat.le_refl _)) ((H2).out.below B5.out (Nat.le_refl _)) ((H4).out.below B5.out (Nat.le_refl _))).mono ?_
          rintro e w6 ⟨rfl, hb6⟩
          have x6 := blk_below hb6 l5 X5.out
          have c0_6 : w6.cell? ⟨w.heap.size, 0, none⟩ = some (.int .i64 (R : Int)) := c_e x6 rfl
          have c1_6 : w6.cell? ⟨w.heap.size, 1, none⟩ = some (.slice a bs.length cap) := c_e x6 rfl
          have l6 := lt_of_block x6
          have B6 := hidE (B5.out.trans (hb6.mono B5.out.size))
          have X6 := hidE x6
          clear hb6 x6 c0_5 c1_5
          cases k with
          | false =>
            obtain rfl : false = P1 := by have := HP.out; simpa using this
            go_wp2_with fail
            go_ret2
            exact ⟨rfl, B6.out⟩
          | true =>
            by_cases hm : c = fo
            ·have hmd : (c == fo) = true := by simpa using hm
             obtain rfl : true = P1 := by have := HP.out; simpa [hm] using this
             clear hm
             go_wp2_with fail
             refine (HFO.out _ ((H2).out.below B6.out (Nat.le_refl _)) ((H3).out.below B6.out (Nat.le_refl _))).mono ?_
             rintro e w7 ⟨rfl, rfl⟩
             go_wp2_with fail
             go_ret2
             exact ⟨rfl, B6.out⟩
            ·have hmd : (c == fo) = false := by simpa using hm
             obtain rfl : false = P1 := by have := HP.out; rw [hmd] at this; exact this
             clear hm
             go_wp2_with fail
             refine (HFO.out _ ((H2).out.below B6.out (Nat.le_refl _)) ((H3).out.below B6.out (Nat.le_refl _))).mono ?_
             rintro e w7 ⟨rfl, rfl⟩
             go_wp2_with fail
             go_ret2
             exact ⟨rfl, B6.out⟩
 ·have zb : (checkP N bs != 0) = true := by simpa using z
  unfold bestE at hP1 hP2
  rw [if_pos z] at hP1 hP2
  obtain rfl : false = P1 := hP1
  obtain rfl : checkP N bs = P2 := hP2
  have HCH := hidE hch
  obtain ⟨c, hc⟩ : ∃ c, checkP N bs = c := ⟨_, rfl⟩
  rw [hc] at zb HCH ⊢
  clear hch hc z
  go_enter Tryz.func60, Tryz.ntmps60
  go_wp2_with fail
  refine (HCH.out).mono ?_
  rintro e w1 ⟨rfl, hb1⟩
  have x1 := blk_below hb1 (by simp) (heap_alloc_new w (.cells #[.int .i64 N, .slice a bs.length cap] 24))
  have c0_1 : w1.cell? ⟨w.heap.size, 0, none⟩ = some (.int .i64 N) := c_e x1 rfl
  have c1_1 : w1.cell? ⟨w.heap.size, 1, none⟩ = some (.slice a bs.length cap) := c_e x1 rfl
  have l1 := lt_of_block x1
  have B1 := hidE (B0.out.trans (hb1.mono B0.out.size))
  have X1 := hidE x1
  clear hb1 x1
  go_wp2_with fail
  go_ret2
  exact ⟨rfl, B1.out⟩
theorem within5_any (n a b : Int) (w : World) : Calls Tryz.prog 94 #[.int .i64 n, .int .i64 a, .int .i64 b] w fun e w' => e = .returned (.bool (inR n a b)) ∧ w = w' := by
 unfold inR
 go_enter Tryz.func94, Tryz.ntmps94
 go_wp2
 all_goals go_ret
 all_goals refine ⟨?_, rfl⟩
 all_goals simp [*]
 all_goals omega
theorem all_take_succ {p : Int → Bool} {y : List Int} {k : Nat} (hk : k < y.length) : (y.take (k + 1)).all p = ((y.take k).all p && p y[k]) := by
 rw [List.take_succ_eq_append_getElem hk, List.all_append]; simp
theorem all_false {p : Int → Bool} {y : List Int} {k : Nat} (hk : k < y.length) (h : p y[k] = false) : y.all p = false := by
 rw [List.all_eq_false]
 exact ⟨_, List.getElem_mem hk, by simp [h]⟩
theorem first_any (w : World) (a : Option Addr) (cap : Nat) (x : List Int) (hl : x.length ≤ 4000) (h : IntsAt w a x) :
 Calls Tryz.prog 132 #[.slice a x.length cap] w fun e w' => e = .returned (.int .i64 (orP x)) ∧ w = w' := by
 have HO := hidE (or_any w a cap x hl h)
 clear h
 go_enter Tryz.func132, Tryz.ntmps132
 go_wp2_with fail
 refine HO.out.mono ?_
 rintro e w1 ⟨rfl, rfl⟩
 go_wp2_with fail
 go_ret
 exact ⟨rfl, rfl⟩
def fitE (F : Fld) (N : Int) (bs : List Bd) (ps : List Int) : Int := if F.check ≠ 0 then F.check else if checkP N bs ≠ 0 then checkP N bs else if N = F.points then fieldedE F ps else 1
theorem two_ints (W : World) (a b : Int) (t : TypeId) : IntsAt (W.alloc (.cells #[.int .i64 a, .int .i64 b] t)) (some ⟨W.heap.size, 0, none⟩) [a, b] := .inr ⟨W.heap.size, 0, rfl, by simp, fun j hj => by
 have hj2 : j = 0 ∨ j = 1 := by simp at hj; omega
 rcases hj2 with rfl | rfl <;> rw [cell_of_row _ _ _ _ _ _ (heap_alloc_new W _)] <;> rfl⟩
set_option maxRecDepth 100000 in
set_option maxHeartbeats 4000000 in
theorem fitting_any (w : World) (x : FV) (F : Fld) (N : Int) (a : Option Addr) (cap : Nat) (bs : List Bd) (a2 : Option Addr) (cap2 : Nat) (ps : List Int) (hF : FldAt w x F) (hN : i64ok N) (hl : bs.length ≤ 9223372036854775807) (h : BoundsAt w a bs) (hps : ps.length ≤ 4000) (h2 : IntsAt w a2 ps) :
 Calls Tryz.prog 122 #[x.val F, .agg #[.int .i64 N, .slice a bs.length cap], .slice a2 ps.length cap2] w fun e w' => e = .returned (.int .i64 (fitE F N bs ps)) ∧ Below w.heap.size w w' := by
 obtain ⟨W0, hW0⟩ : ∃ W0, W0 = (w.alloc (.cells (x.arr F) 46)).alloc (.cells #[.int .i64 N, .slice a bs.length cap] 24) := ⟨_, rfl⟩
 have B0 := hidE (show Below w.heap.size w W0 by rw [hW0]; exact ((Below.refl _ _).alloc (Nat.le_refl _) _).alloc (by simp) _)
 have X0 := hidE (show W0.heap[w.heap.size]? = some (.cells (x.arr F) 46 (0,0)) by rw [hW0]; exact heap_alloc2_old _ _ _)
 have S0 := hidE (show W0.heap[w.heap.size + 1]? = some (.cells #[.int .i64 N, .slice a bs.length cap] 24 (0,0)) by rw [hW0, heap_alloc2_new])
 have l0 : w.heap.size < W0.heap.size := lt_of_block X0.out
 have m0 : w.heap.size + 1 < W0.heap.size := lt_of_block S0.out
 have HCF := hidE (fun (W : World) (hb : Below w.heap.size w W) => checkField_any W x F (hF.below hb))
 have HCK := hidE (fun (W : World) (hb : Below w.heap.size w W) => check_any W N a cap bs hN hl (h.below hb (Nat.le_refl _)))
 have HPT := hidE (fun (W : World) (hb : Below w.heap.size w W) => pointsE_any W x F (hF.below hb))
 have HFI := hidE (fun (W : World) (hb : Below w.heap.size w W) => fielded_any W x F a2 cap2 ps hps (hF.below hb) (h2.below hb (Nat.le_refl _)))
 have hpe : F.check = 0 → pointsE F = F.points := fun e => by unfold pointsE; rw [if_neg (by omega)]
 obtain ⟨Q, hQ⟩ : ∃ Q, fitE F N bs ps = Q := ⟨_, rfl⟩
 rw [hQ]
 unfold fitE at hQ
 obtain ⟨c, hc⟩ : ∃ c, F.check = c := ⟨_, rfl⟩
 obtain ⟨c2, hc2⟩ : ∃ c, checkP N bs = c := ⟨_, rfl⟩
 obtain ⟨c3, hc3⟩ : ∃ c, fieldedE F ps = c := ⟨_, rfl⟩
 obtain ⟨P, hP⟩ : ∃ P, pointsE F = P := ⟨_, rfl⟩
 rw [hc] at HCF
 rw [hc2] at HCK
 rw [hc3] at HFI
 rw [hP] at HPT
 rw [hc, hc2, hc3] at hQ
 rw [hc, hP] at hpe
 have HPE := hidE hpe
 clear hc hc2 hc3 hP hpe hF h h2
 by_cases hz : c ≠ 0
 ·obtain rfl : c = Q := by rw [if_pos hz] at hQ; exact hQ
  have hzb : (c != 0) = true := by simpa using hz
  clear hz hQ
  unfold FV.val FV.arr at *
  go_enter Tryz.func122, Tryz.ntmps122
  go_upto_region 1 with fail
  rw [← hW0]
  have f0 : W0.cell? ⟨w.heap.size, 0, none⟩ = some (.slice x.aS F.sts.length x.cS) := c_e X0.out rfl
  have f1 : W0.cell? ⟨w.heap.size, 1, none⟩ = some (.slice x.aL F.lms.length x.cL) := c_e X0.out rfl
  have f2 : W0.cell? ⟨w.heap.size, 2, none⟩ = some (.slice x.aP F.prs.length x.cP) := c_e X0.out rfl
  have f3 : W0.cell? ⟨w.heap.size, 3, none⟩ = some (.slice x.aV F.vrs.length x.cV) := c_e X0.out rfl
  clear hW0
  go_wp2_with fail
  refine (HCF.out _ B0.out).mono ?_
  rintro e w1 ⟨rfl, hb1⟩
  have B1 := hidE (B0.out.trans (hb1.mono B0.out.size))
  clear hb1
  go_wp2_with fail
  go_ret
  exact ⟨rfl, B1.out⟩
 obtain rfl : c = 0 := Classical.not_not.1 hz
 rw [if_neg hz] at hQ
 have HPE2 := hidE (HPE.out rfl)
 clear hz HPE
 by_cases hz2 : c2 ≠ 0
 ·obtain rfl : c2 = Q := by rw [if_pos hz2] at hQ; exact hQ
  have hzb : (c2 != 0) = true := by simpa using hz2
  clear hz2 hQ
  unfold FV.val FV.arr at *
  go_enter Tryz.func122, Tryz.ntmps122
  go_upto_region 1 with fail
  rw [← hW0]
  have f0 : W0.cell? ⟨w.heap.size, 0, none⟩ = some (.slice x.aS F.sts.length x.cS) := c_e X0.out rfl
  have f1 : W0.cell? ⟨w.heap.size, 1, none⟩ = some (.slice x.aL F.lms.length x.cL) := c_e X0.out rfl
  have f2 : W0.cell? ⟨w.heap.size, 2, none⟩ = some (.slice x.aP F.prs.length x.cP) := c_e X0.out rfl
  have f3 : W0.cell? ⟨w.heap.size, 3, none⟩ = some (.slice x.aV F.vrs.length x.cV) := c_e X0.out rfl
  clear hW0
  go_wp2_with fail
  refine (HCF.out _ B0.out).mono ?_
  rintro e w1 ⟨rfl, hb1⟩
  have B1 := hidE (B0.out.trans (hb1.mono B0.out.size))
  have S1 := hidE (blk_below hb1 m0 S0.out)
  have g0 : w1.cell? ⟨w.heap.size + 1, 0, none⟩ = some (.int .i64 N) := c_e S1.out rfl
  have g1 : w1.cell? ⟨w.heap.size + 1, 1, none⟩ = some (.slice a bs.length cap) := c_e S1.out rfl
  clear hb1 f0 f1 f2 f3
  go_wp2_with fail
  refine (HCK.out _ B1.out).mono ?_
  rintro e w2 ⟨rfl, hb2⟩
  have B2 := hidE (B1.out.trans (hb2.mono B1.out.size))
  clear hb2
  go_wp2_with fail
  go_ret
  exact ⟨rfl, B2.out⟩
 obtain rfl : c2 = 0 := Classical.not_not.1 hz2
 rw [if_neg hz2] at hQ
 clear hz2
 obtain ⟨r1, hr1⟩ : ∃ r : Int, (if (N == P) then (0 : Int) else 1) = r := ⟨_, rfl⟩
 have HQ : Hid (orP [r1, c3] = Q) := hidE (by
  rw [← hQ, ← hr1, HPE2.out]
  by_cases e : N = F.points
  ·rw [if_pos e]; simp only [orP, e, beq_self_eq_true, if_true]; split <;> simp_all
  ·rw [if_neg e]; simp [orP, e])
 have HRT := hidE (fun W => right_any (N == P) W)
 rw [hr1] at HRT
 clear hQ hr1
 unfold FV.val FV.arr at *
 go_enter Tryz.func122, Tryz.ntmps122
 go_upto_region 1 with fail
 rw [← hW0]
 have f0 : W0.cell? ⟨w.heap.size, 0, none⟩ = some (.slice x.aS F.sts.length x.cS) := c_e X0.out rfl
 have f1 : W0.cell? ⟨w.heap.size, 1, none⟩ = some (.slice x.aL F.lms.length x.cL) := c_e X0.out rfl
 have f2 : W0.cell? ⟨w.heap.size, 2, none⟩ = some (.slice x.aP F.prs.length x.cP) := c_e X0.out rfl
 have f3 : W0.cell? ⟨w.heap.size, 3, none⟩ = some (.slice x.aV F.vrs.length x.cV) := c_e X0.out rfl
 clear hW0
 go_wp2_with fail
 refine (HCF.out _ B0.out).mono ?_
 rintro e w1 ⟨rfl, hb1⟩
 have B1 := hidE (B0.out.trans (hb1.mono B0.out.size))
 have S1 := hidE (blk_below hb1 m0 S0.out)
 have X1 := hidE (blk_below hb1 l0 X0.out)
 have l1 := lt_of_block X1.out
 have m1 := lt_of_block S1.out
 have g0 : w1.cell? ⟨w.heap.size + 1, 0, none⟩ = some (.int .i64 N) := c_e S1.out rfl
 have g1 : w1.cell? ⟨w.heap.size + 1, 1, none⟩ = some (.slice a bs.length cap) := c_e S1.out rfl
 clear hb1 f0 f1 f2 f3
 go_wp2_with fail
 refine (HCK.out _ B1.out).mono ?_
 rintro e w2 ⟨rfl, hb2⟩
 have B2 := hidE (B1.out.trans (hb2.mono B1.out.size))
 have S2 := hidE (blk_below hb2 m1 S1.out)
 have X2 := hidE (blk_below hb2 l1 X1.out)
 clear hb2 g0 g1 l1 m1
 go_upto_region 7 with fail
 have l2 := lt_of_block X2.out
 have hS0 : w2.drew.heap[w.heap.size]? = some (.cells #[.slice x.aS F.sts.length x.cS, .slice x.aL F.lms.length x.cL, .slice x.aP F.prs.length x.cP, .slice x.aV F.vrs.length x.cV] 46 (0,0)) ∧ w2.drew.heap[w.heap.size + 1]? = some (.cells #[.int .i64 N, .slice a bs.length cap] 24 (0,0)) := ⟨X2.out, S2.out⟩
 refine wp_region_F (S := fun V => V.heap[w.heap.size]? = some (.cells #[.slice x.aS F.sts.length x.cS, .slice x.aL F.lms.length x.cL, .slice x.aP F.prs.length x.cP, .slice x.aV F.vrs.length x.cV] 46 (0,0)) ∧ V.heap[w.heap.size + 1]? = some (.cells #[.int .i64 N, .slice a bs.length cap] 24 (0,0))) (last := 11) (by kernel_rfl) ?_
 refine wpAnyF_take (i := 0) (v := .pointer (some ⟨w.heap.size + 1, 0, none⟩)) (by kernel_rfl) (by decide) rfl (by kernel_rfl) (by kernel_rfl) (by kernel_rfl) (fun _ _ _ h => h) (.inl ⟨rfl, fun V hV => ?_⟩) hS0 ?_
 ·simp [go_sem, execOp]
 try simp only [Act.put, List.setIfInBounds_toArray]
 refine wpAnyF_take (i := 1) (v := .int .i64 N) (by kernel_rfl) (by decide) rfl (by kernel_rfl) (by kernel_rfl) (by kernel_rfl) (fun _ _ _ h => h) (.inl ⟨rfl, fun V hV => ?_⟩) hS0 ?_
 ·have z0 : V.cell? ⟨w.heap.size + 1, 0, none⟩ = some (.int .i64 N) := c_e hV.2 rfl
  simp [go_sem, execOp, z0]
 try simp only [Act.put]
 refine wpAnyF_take (i := 2) (v := .agg #[.slice x.aS F.sts.length x.cS, .slice x.aL F.lms.length x.cL, .slice x.aP F.prs.length x.cP, .slice x.aV F.vrs.length x.cV]) (by kernel_rfl) (by decide) rfl (by kernel_rfl) (by kernel_rfl) (by kernel_rfl) (fun _ _ _ h => h) (.inl ⟨rfl, fun V hV => ?_⟩) hS0 ?_
 ·have z0 : V.cell? ⟨w.heap.size, 0, none⟩ = some (.slice x.aS F.sts.length x.cS) := c_e hV.1 rfl
  have z1 : V.cell? ⟨w.heap.size, 1, none⟩ = some (.slice x.aL F.lms.length x.cL) := c_e hV.1 rfl
  have z2 : V.cell? ⟨w.heap.size, 2, none⟩ = some (.slice x.aP F.prs.length x.cP) := c_e hV.1 rfl
  have z3 : V.cell? ⟨w.heap.size, 3, none⟩ = some (.slice x.aV F.vrs.length x.cV) := c_e hV.1 rfl
  simp [go_sem, execOp, z0, z1, z2, z3]
 try simp only [Act.put]
 refine wpAnyF_take (i := 6) (v := .agg #[.slice x.aS F.sts.length x.cS, .slice x.aL F.lms.length x.cL, .slice x.aP F.prs.length x.cP, .slice x.aV F.vrs.length x.cV]) (by kernel_rfl) (by decide) rfl (by kernel_rfl) (by kernel_rfl) (by kernel_rfl) (fun _ _ _ h => h) (.inl ⟨rfl, fun V hV => ?_⟩) hS0 ?_
 ·have z0 : V.cell? ⟨w.heap.size, 0, none⟩ = some (.slice x.aS F.sts.length x.cS) := c_e hV.1 rfl
  have z1 : V.cell? ⟨w.heap.size, 1, none⟩ = some (.slice x.aL F.lms.length x.cL) := c_e hV.1 rfl
  have z2 : V.cell? ⟨w.heap.size, 2, none⟩ = some (.slice x.aP F.prs.length x.cP) := c_e hV.1 rfl
  have z3 : V.cell? ⟨w.heap.size, 3, none⟩ = some (.slice x.aV F.vrs.length x.cV) := c_e hV.1 rfl
  simp [go_sem, execOp, z0, z1, z2, z3]
 try simp only [Act.put]
 refine wpAnyF_take (i := 7) (v := .slice a2 ps.length cap2) (by kernel_rfl) (by decide) rfl (by kernel_rfl) (by kernel_rfl) (by kernel_rfl) (fun _ _ _ h => h) (.inl ⟨rfl, fun V hV => ?_⟩) hS0 ?_
 ·simp [go_sem, execOp]
 try simp only [Act.put]
 refine wpAnyF_step 3 rfl (by kernel_rfl) (fun K hK => ?_)
 go_simp
 go_at_call 106
 refine (HPT.out _ B2.out.drew).mono ?_
 rintro e w3 ⟨rfl, hb3⟩
 have B3 := hidE (B2.out.drew.trans (hb3.mono B2.out.drew.size))
 have X3 := hidE (blk_below hb3 (by simpa using l2) X2.out)
 have S3 := hidE (blk_below hb3 (by simpa using lt_of_block S2.out) S2.out)
 clear hb3
 go_wp2_with fail
 refine hK.out _ _ (.inr ⟨X3.out, S3.out⟩) ?_
 clear hK K
 try simp only [Act.put, s_a, s_b, s_c]
 refine wpAnyF_step 4 rfl (by kernel_rfl) (fun K hK => ?_)
 go_simp
 refine hK.out _ _ (.inr ⟨X3.out, S3.out⟩) ?_
 clear hK K
 try simp only [Act.put, s_a, s_b, s_c]
 refine wpAnyF_step 5 rfl (by kernel_rfl) (fun K hK => ?_)
 go_simp
 go_at_call 161
 refine (HRT.out _).mono ?_
 rintro e w4 ⟨rfl, rfl⟩
 go_wp2_with fail
 refine hK.out _ _ (.inr ⟨X3.out, S3.out⟩) ?_
 clear hK K
 try simp only [Act.put, s_a, s_b, s_c]
 refine wpAnyF_step 8 rfl (by kernel_rfl) (fun K hK => ?_)
 go_simp
 go_at_call 104
 refine (HFI.out _ B3.out).mono ?_
 rintro e w5 ⟨rfl, hb5⟩
 have B5 := hidE (B3.out.trans (hb5.mono B3.out.size))
 have X5 := hidE (blk_below hb5 (lt_of_block X3.out) X3.out)
 have S5 := hidE (blk_below hb5 (lt_of_block S3.out) S3.out)
 clear hb5
 go_wp2_with fail
 refine hK.out _ _ (.inr ⟨X5.out, S5.out⟩) ?_
 clear hK K
 try simp only [Act.put, s_a, s_b, s_c]
 refine wpAnyF_step 9 rfl (by kernel_rfl) (fun K hK => ?_)
 go_simp
 have hfs := first_any (w5.alloc (.cells #[.int .i64 r1, .int .i64 c3] 28)) (some ⟨w5.heap.size, 0, none⟩) 2 [r1, c3] (by simp) (two_ints w5 r1 c3 28)
 rw [HQ.out] at hfs
 have HFS := hidE hfs
 have B6 := hidE (B5.out.alloc B5.out.size (.cells #[.int .i64 r1, .int .i64 c3] 28))
 have X6 := hidE ((Below.heap_alloc w5 (.cells #[.int .i64 r1, .int .i64 c3] 28) _ (lt_of_block X5.out)).trans X5.out)
 have S6 := hidE ((Below.heap_alloc w5 (.cells #[.int .i64 r1, .int .i64 c3] 28) _ (lt_of_block S5.out)).trans S5.out)
 clear hfs
 refine hK.out _ _ (.inr ⟨X6.out, S6.out⟩) ?_
 clear hK K
 try simp only [Act.put, s_a, s_b, s_c]
 refine wpAnyF_step 10 rfl (by kernel_rfl) (fun K hK => ?_)
 go_simp
 go_at_call 132
 refine HFS.out.mono ?_
 rintro e w7 ⟨rfl, rfl⟩
 go_wp2_with fail
 refine hK.out _ _ (.inr ⟨X6.out, S6.out⟩) ?_
 clear hK K
 try simp only [Act.put, s_a, s_b, s_c]
 refine wpAnyF_step 11 rfl (by kernel_rfl) (fun K hK => ?_)
 go_simp
 refine hK.out _ _ (.inl rfl) ?_
 clear hK K
 refine wpAnyF_done (by kernel_rfl) ?_ _
 go_wp2_with fail
 go_ret
 exact ⟨rfl, B6.out⟩
set_option maxRecDepth 100000 in
set_option maxHeartbeats 4000000 in
theorem fitted_any (w : World) (x : FV) (F : Fld) (N : Int) (a : Option Addr) (cap : Nat) (bs : List Bd) (a2 : Option Addr) (cap2 : Nat) (ps : List Int) (hF : FldAt w x F) (hN : i64ok N) (hl : bs.length ≤ 9223372036854775807) (h : BoundsAt w a bs) (hps : ps.length ≤ 4000) (h2 : IntsAt w a2 ps) :
 Calls Tryz.prog 136 #[x.val F, .agg #[.int .i64 N, .slice a bs.length cap], .slice a2 ps.length cap2] w fun e w' => e = .returned (.int .i64 (fitE F N bs ps)) ∧ Below w.heap.size w w' := by
 obtain ⟨W0, hW0⟩ : ∃ W0, W0 = (w.alloc (.cells (x.arr F) 46)).alloc (.cells #[.int .i64 N, .slice a bs.length cap] 24) := ⟨_, rfl⟩
 have B0 := hidE (show Below w.heap.size w W0 by rw [hW0]; exact ((Below.refl _ _).alloc (Nat.le_refl _) _).alloc (by simp) _)
 have X0 := hidE (show W0.heap[w.heap.size]? = some (.cells (x.arr F) 46 (0,0)) by rw [hW0]; exact heap_alloc2_old _ _ _)
 have S0 := hidE (show W0.heap[w.heap.size + 1]? = some (.cells #[.int .i64 N, .slice a bs.length cap] 24 (0,0)) by rw [hW0, heap_alloc2_new])
 have l0 : w.heap.size < W0.heap.size := lt_of_block X0.out
 have m0 : w.heap.size + 1 < W0.heap.size := lt_of_block S0.out
 have HCF := hidE (fun (W : World) (hb : Below w.heap.size w W) => refCheckField_any W x F (hF.below hb))
 have HCK := hidE (fun (W : World) (hb : Below w.heap.size w W) => refcheck_any W N a cap bs hN hl (h.below hb (Nat.le_refl _)))
 have HPT := hidE (fun (W : World) (g1 : F.lms.length ≤ 1000) (g2 : F.sts.length ≤ 1000) => rpoints_any W x F g1 g2)
 have HLEN := hidE (fun (e : F.check = 0) => check0_len e)
 have HFD := hidE (fun (e : F.check = 0) => show fieldedE F ps = if ps.all (fun p => inR p 0 ((F.prs.length : Int) - 1)) then 0 else 1 by unfold fieldedE; rw [if_neg (by omega)])
 have HI := hidE h2
 obtain ⟨Q, hQ⟩ : ∃ Q, fitE F N bs ps = Q := ⟨_, rfl⟩
 rw [hQ]
 unfold fitE at hQ
 obtain ⟨c, hc⟩ : ∃ c, F.check = c := ⟨_, rfl⟩
 obtain ⟨c2, hc2⟩ : ∃ c, checkP N bs = c := ⟨_, rfl⟩
 obtain ⟨c3, hc3⟩ : ∃ c, fieldedE F ps = c := ⟨_, rfl⟩
 obtain ⟨P, hP⟩ : ∃ P, F.points = P := ⟨_, rfl⟩
 rw [hc] at HCF
 rw [hc2] at HCK
 rw [hc3] at HFD
 rw [hP] at HPT
 rw [hc, hc2, hc3, hP] at hQ
 rw [hc] at HLEN HFD
 clear hc hc2 hc3 hP hF h h2
 by_cases hz : c ≠ 0
 ·obtain rfl : c = Q := by rw [if_pos hz] at hQ; exact hQ
  have hzb : (c != 0) = true := by simpa using hz
  clear hz hQ
  unfold FV.val FV.arr at *
  go_enter Tryz.func136, Tryz.ntmps136
  go_upto_region 1 with fail
  rw [← hW0]
  have f0 : W0.cell? ⟨w.heap.size, 0, none⟩ = some (.slice x.aS F.sts.length x.cS) := c_e X0.out rfl
  have f1 : W0.cell? ⟨w.heap.size, 1, none⟩ = some (.slice x.aL F.lms.length x.cL) := c_e X0.out rfl
  have f2 : W0.cell? ⟨w.heap.size, 2, none⟩ = some (.slice x.aP F.prs.length x.cP) := c_e X0.out rfl
  have f3 : W0.cell? ⟨w.heap.size, 3, none⟩ = some (.slice x.aV F.vrs.length x.cV) := c_e X0.out rfl
  clear hW0
  go_wp2_with fail
  refine (HCF.out _ B0.out).mono ?_
  rintro e w1 ⟨rfl, hb1⟩
  have B1 := hidE (B0.out.trans (hb1.mono B0.out.size))
  clear hb1
  go_wp2_with fail
  go_ret
  exact ⟨rfl, B1.out⟩
 obtain rfl : c = 0 := Classical.not_not.1 hz
 rw [if_neg hz] at hQ
 obtain ⟨⟨_, ls⟩, ⟨_, ll⟩, lp⟩ := HLEN.out rfl
 have HF2 := hidE (HFD.out rfl)
 clear hz HLEN HFD
 by_cases hz2 : c2 ≠ 0
 ·obtain rfl : c2 = Q := by rw [if_pos hz2] at hQ; exact hQ
  have hzb : (c2 != 0) = true := by simpa using hz2
  clear hz2 hQ
  unfold FV.val FV.arr at *
  go_enter Tryz.func136, Tryz.ntmps136
  go_upto_region 1 with fail
  rw [← hW0]
  have f0 : W0.cell? ⟨w.heap.size, 0, none⟩ = some (.slice x.aS F.sts.length x.cS) := c_e X0.out rfl
  have f1 : W0.cell? ⟨w.heap.size, 1, none⟩ = some (.slice x.aL F.lms.length x.cL) := c_e X0.out rfl
  have f2 : W0.cell? ⟨w.heap.size, 2, none⟩ = some (.slice x.aP F.prs.length x.cP) := c_e X0.out rfl
  have f3 : W0.cell? ⟨w.heap.size, 3, none⟩ = some (.slice x.aV F.vrs.length x.cV) := c_e X0.out rfl
  clear hW0
  go_wp2_with fail
  refine (HCF.out _ B0.out).mono ?_
  rintro e w1 ⟨rfl, hb1⟩
  have B1 := hidE (B0.out.trans (hb1.mono B0.out.size))
  have S1 := hidE (blk_below hb1 m0 S0.out)
  have g0 : w1.cell? ⟨w.heap.size + 1, 0, none⟩ = some (.int .i64 N) := c_e S1.out rfl
  have g1 : w1.cell? ⟨w.heap.size + 1, 1, none⟩ = some (.slice a bs.length cap) := c_e S1.out rfl
  clear hb1 f0 f1 f2 f3
  go_wp2_with fail
  refine (HCK.out _ B1.out).mono ?_
  rintro e w2 ⟨rfl, hb2⟩
  have B2 := hidE (B1.out.trans (hb2.mono B1.out.size))
  clear hb2
  go_wp2_with fail
  go_ret
  exact ⟨rfl, B2.out⟩
 obtain rfl : c2 = 0 := Classical.not_not.1 hz2
 rw [if_neg hz2] at hQ
 clear hz2
 have HQ := hidE hQ
 clear hQ
 unfold FV.val FV.arr at *
 go_enter Tryz.func136, Tryz.ntmps136
 go_upto_region 1 with fail
 rw [← hW0]
 have f0 : W0.cell? ⟨w.heap.size, 0, none⟩ = some (.slice x.aS F.sts.length x.cS) := c_e X0.out rfl
 have f1 : W0.cell? ⟨w.heap.size, 1, none⟩ = some (.slice x.aL F.lms.length x.cL) := c_e X0.out rfl
 have f2 : W0.cell? ⟨w.heap.size, 2, none⟩ = some (.slice x.aP F.prs.length x.cP) := c_e X0.out rfl
 have f3 : W0.cell? ⟨w.heap.size, 3, none⟩ = some (.slice x.aV F.vrs.length x.cV) := c_e X0.out rfl
 clear hW0
 go_wp2_with fail
 refine (HCF.out _ B0.out).mono ?_
 rintro e w1 ⟨rfl, hb1⟩
 have B1 := hidE (B0.out.trans (hb1.mono B0.out.size))
 have S1 := hidE (blk_below hb1 m0 S0.out)
 have X1 := hidE (blk_below hb1 l0 X0.out)
 have l1 := lt_of_block X1.out
 have m1 := lt_of_block S1.out
 have g0 : w1.cell? ⟨w.heap.size + 1, 0, none⟩ = some (.int .i64 N) := c_e S1.out rfl
 have g1 : w1.cell? ⟨w.heap.size + 1, 1, none⟩ = some (.slice a bs.length cap) := c_e S1.out rfl
 clear hb1 f0 f1 f2 f3
 go_wp2_with fail
 refine (HCK.out _ B1.out).mono ?_
 rintro e w2 ⟨rfl, hb2⟩
 have B2 := hidE (B1.out.trans (hb2.mono B1.out.size))
 have S2 := hidE (blk_below hb2 m1 S1.out)
 have X2 := hidE (blk_below hb2 l1 X1.out)
 clear hb2 g0 g1 l1 m1
 go_upto_region 7 with fail
 have l2 := lt_of_block X2.out
 have hS0 : w2.drew.heap[w.heap.size]? = some (.cells #[.slice x.aS F.sts.length x.cS, .slice x.aL F.lms.length x.cL, .slice x.aP F.prs.length x.cP, .slice x.aV F.vrs.length x.cV] 46 (0,0)) ∧ w2.drew.heap[w.heap.size + 1]? = some (.cells #[.int .i64 N, .slice a bs.length cap] 24 (0,0)) := ⟨X2.out, S2.out⟩
 have HP := hidE (fun W => HPT.out W (by omega) (by omega))
 clear HPT
 refine wp_region_F (S := fun V => V.heap[w.heap.size]? = some (.cells #[.slice x.aS F.sts.length x.cS, .slice x.aL F.lms.length x.cL, .slice x.aP F.prs.length x.cP, .slice x.aV F.vrs.length x.cV] 46 (0,0)) ∧ V.heap[w.heap.size + 1]? = some (.cells #[.int .i64 N, .slice a bs.length cap] 24 (0,0))) (last := 100) (by kernel_rfl) ?_
 refine t_n 0 19 (.pointer (some ⟨w.heap.size + 1, 0, none⟩)) rfl (by kernel_rfl) rfl (fun _ _ _ h => h) (fun V hV => ?_) hS0 ?_
 ·simp [go_sem, execOp]
 try simp only [s_a, s_b, s_c]
 refine t_n 1 20 (.int .i64 N) rfl (by kernel_rfl) rfl (fun _ _ _ h => h) (fun V hV => ?_) hS0 ?_
 ·have z0 : V.cell? ⟨w.heap.size + 1, 0, none⟩ = some (.int .i64 N) := c_e hV.2 rfl
  simp [go_sem, execOp, z0]
 try simp only [s_a, s_b, s_c]
 refine t_n 2 21 (.agg #[.slice x.aS F.sts.length x.cS, .slice x.aL F.lms.length x.cL, .slice x.aP F.prs.length x.cP, .slice x.aV F.vrs.length x.cV]) rfl (by kernel_rfl) rfl (fun _ _ _ h => h) (fun V hV => ?_) hS0 ?_
 ·have z0 : V.cell? ⟨w.heap.size, 0, none⟩ = some (.slice x.aS F.sts.length x.cS) := c_e hV.1 rfl
  have z1 : V.cell? ⟨w.heap.size, 1, none⟩ = some (.slice x.aL F.lms.length x.cL) := c_e hV.1 rfl
  have z2 : V.cell? ⟨w.heap.size, 2, none⟩ = some (.slice x.aP F.prs.length x.cP) := c_e hV.1 rfl
  have z3 : V.cell? ⟨w.heap.size, 3, none⟩ = some (.slice x.aV F.vrs.length x.cV) := c_e hV.1 rfl
  simp [go_sem, execOp, z0, z1, z2, z3]
 try simp only [s_a, s_b, s_c]
 refine wpAnyF_step 3 rfl (by kernel_rfl) (fun K hK => ?_)
 go_simp
 go_at_call 120
 refine (HP.out _).mono ?_
 rintro e w3 ⟨rfl, hb3⟩
 have B3 := hidE (B2.out.drew.trans (hb3.mono B2.out.drew.size))
 have X3 := hidE (blk_below hb3 (by simpa using l2) X2.out)
 have S3 := hidE (blk_below hb3 (by simpa using lt_of_block S2.out) S2.out)
 clear hb3
 go_wp2_with fail
 refine hK.out _ _ (.inr ⟨X3.out, S3.out⟩) ?_
 clear hK K
 try simp only [Act.put, s_a, s_b, s_c]
 refine wpAnyF_step 4 rfl (by kernel_rfl) (fun K hK => ?_)
 go_simp
 refine hK.out _ _ (.inr ⟨X3.out, S3.out⟩) ?_
 clear hK K
 refine wpAnyF_done (by kernel_rfl) ?_ _
 by_cases hnp : N = P
 ·have hb : (N != P) = false := by simpa using hnp
  rw [if_pos hnp] at HQ
  rw [HF2.out] at HQ
  clear hnp HF2 hS0 l2
  try simp only [Act.put, s_a, s_b, s_c]
  go_wp2_with fail
  go_loopw [8] (fun i wr => ∃ k : Nat, k ≤ ps.length ∧ i = .int .i64 k ∧ Hid ((ps.take k).all (fun p => inR p 0 ((F.prs.length : Int) - 1)) = true) ∧ Hid (Below w3.heap.size w3 wr)) (fun i _ => ps.length - (intOf i).toNat)
  case atStart => exact ⟨0, Nat.zero_le _, rfl, hidE rfl, hidE (Below.refl _ _)⟩
  case round =>
   obtain ⟨k, hk, rfl, HA, HB⟩ := hrel
   obtain ⟨w4, rfl⟩ : ∃ W : World, W = wr := ⟨wr, rfl⟩
   have B4 := hidE (B3.out.trans (HB.out.mono B3.out.size))
   have X4 := hidE (blk_below HB.out (lt_of_block X3.out) X3.out)
   have q2 : w4.cell? ⟨w.heap.size, 2, none⟩ = some (.slice x.aP F.prs.length x.cP) := c_e X4.out rfl
   by_cases hlt : k < ps.length
   ·obtain ⟨b, off, rfl, hbl, hcc⟩ := (HI.out.below B4.out (Nat.le_refl _)).at hlt
    have hsu := all_take_succ (p := fun p => inR p 0 ((F.prs.length : Int) - 1)) hlt
    have hfa := fun h => all_false (p := fun p => inR p 0 ((F.prs.length : Int) - 1)) hlt h
    obtain ⟨v, hv⟩ : ∃ v, ps[k] = v := ⟨_, rfl⟩
    rw [hv] at hcc hsu hfa
    have HFA := hidE hfa
    have HSU := hidE hsu
    have HLT := hidE hlt
    clear hv hsu hfa
    by_cases c1 : v < 0
    ·have d1 : decide (v < 0) = true := by simpa using c1
     obtain rfl : (1 : Int) = Q := by rw [← HQ.out, HFA.out (by unfold inR; simp; omega)]; rfl
     clear c1
     go_wp2_with fail
     go_quiet (fail)
     go_wp2_with fail
     go_ret
     exact ⟨rfl, B4.out.trans (below_drewN' _ _)⟩
    have d1 : decide (v < 0) = false := by simpa using c1
    by_cases c2 : v ≥ (F.prs.length : Int)
    ·have d2 : decide (v ≥ (F.prs.length : Int)) = true := by simpa using c2
     have d2' : decide ((F.prs.length : Int) ≤ v) = true := by simpa using c2
     obtain rfl : (1 : Int) = Q := by rw [← HQ.out, HFA.out (by unfold inR; simp; omega)]; rfl
     clear c1 c2
     go_wp2_with fail
     go_quiet (fail)
     go_wp2_with fail
     go_ret
     exact ⟨rfl, B4.out.trans (below_drewN' _ _)⟩
    have d2 : decide (v ≥ (F.prs.length : Int)) = false := by simpa using c2
    have d2' : decide ((F.prs.length : Int) ≤ v) = false := by simpa using c2
    have HA2 : Hid ((ps.take (k + 1)).all (fun p => inR p 0 ((F.prs.length : Int) - 1)) = true) := hidE (by rw [HSU.out, HA.out]; unfold inR; simp; omega)
    clear c1 c2
    go_wp2_with fail
    go_quiet (fail)
    go_wp2_with fail
    go_roundw
    case rel => exact ⟨k + 1, HLT.out, by go_num, HA2, hidE (HB.out.trans (below_drewN' _ _))⟩
    case measure => have := HLT.out; simp [intOf]; omega
   ·obtain rfl : k = ps.length := by omega
    obtain rfl : (0 : Int) = Q := by have h3 := HA.out; rw [List.take_length] at h3; rw [← HQ.out, h3]; rfl
    go_wp2_with fail
    go_ret
    exact ⟨rfl, B4.out⟩
 ·have hb : (N != P) = true := by simpa using hnp
  rw [if_neg hnp] at HQ
  obtain rfl : (1 : Int) = Q := HQ.out
  clear hnp
  try simp only [Act.put, s_a, s_b, s_c]
  go_wp2_with fail
  go_ret
  exact ⟨rfl, B3.out⟩
set_option maxRecDepth 100000 in
set_option maxHeartbeats 2000000 in
theorem ropposite_any (w : World) (a : Option Addr) (cap : Nat) (x : List Int) (hl : x.length ≤ 4000) (h : IntsAt w a x) (bx : ∀ v ∈ x, -1000000 ≤ v ∧ v ≤ 1000000) :
 Calls Tryz.prog 80 #[.slice a x.length cap] w fun e w' => ∃ v, e = .returned v ∧ w'.ownsRow w.heap.size 3 1 v x.length (intsV (x.map (-·))) ∧ Below w.heap.size w w' := by
 have H := hidE h
 have HB := hidE bx
 clear h bx
 go_enter Tryz.func80, Tryz.ntmps80
 go_wp2_with fail
 go_loopw [3, 4] (fun v i wr => ∃ k : Nat, k ≤ x.length ∧ i = .int .i64 k ∧ Hid (wr.ownsRow w.heap.size 3 1 v ((x.take k).map (-·)).length (intsV ((x.take k).map (-·)))) ∧ Hid (Below w.heap.size w wr))
  (fun _ i _ => x.length - (intOf i).toNat)
 case atStart => exact ⟨0, Nat.zero_le _, rfl, hidE (World.ownsRow_nil _ _ _ _), hidE (Below.refl _ _)⟩
 case round =>
  obtain ⟨k, hk, rfl, HO, HBB⟩ := hrel
  obtain ⟨wx, rfl⟩ : ∃ W : World, W = wr := ⟨wr, rfl⟩
  by_cases hlt : k < x.length
  ·obtain ⟨b, off, rfl, hbl, hc⟩ := H.out.at hlt
   rw [← HBB.out.cell hbl] at hc
   have hv := HB.out _ (List.getElem_mem hlt)
   have hst : (x.take (k + 1)).map (-·) = (x.take k).map (-·) ++ [-x[k]] := by rw [List.take_succ_eq_append_getElem hlt, List.map_append]; rfl
   obtain ⟨q, hq⟩ : ∃ q, x[k] = q := ⟨_, rfl⟩
   rw [hq] at hc hv hst
   obtain ⟨v5, wa, hrun1, own5, hb1, _⟩ := append_int HO.out (-q) (by simp; omega) HBB.out.size
   rw [← hst] at own5
   have HRUN := hidE hrun1
   have HOW := hidE own5
   have HBL := hidE (HBB.out.trans hb1)
   have HLT := hidE hlt
   have hw : IntKind.i64.wrap (-q) = -q := IntWalk.i64_in _ (by omega)
   clear hq hst hrun1 own5 hb1
   go_wp2_with (at_builtin; refine wpList_op_append rfl (s := .tmp 11) (x := .tmp 17) (t := 25) rfl rfl rfl HRUN.out ?_)
   go_roundw
   case rel => exact ⟨k + 1, HLT.out, by go_num, HOW, HBL⟩
   case measure => have := HLT.out; simp [intOf]; omega
  ·obtain rfl : k = x.length := by omega
   have ho := HO.out
   rw [List.take_length, List.length_map] at ho
   have HO2 := hidE ho
   clear ho HO
   go_wp2_with fail
   go_ret
   exact ⟨_, rfl, HO2.out, HBB.out⟩
end Go.Proofs.YthjmkmjojlfejaaGreat
namespace Go.Proofs.YthjmkmjojlfejaaGreat
theorem rep_getD (n j : Nat) : (List.replicate n (0 : Int)).getD j 0 = 0 := by
 simp only [List.getD_eq_getElem?_getD, List.getElem?_replicate]; split <;> rfl
theorem flowing_pos {m : Nat} {fl : List Int} (h : flowingB m fl = true) : fl.length = m ∧ ∀ j : Nat, 0 ≤ fl.getD j 0 ∧ fl.getD j 0 ≤ 1000000000 := by
 unfold flowingB at h
 simp only [Bool.and_eq_true, decide_eq_true_eq, List.all_eq_true] at h
 refine ⟨h.1, fun j => ?_⟩
 by_cases hj : j < fl.length
 ·have := h.2 _ (List.getElem_mem hj)
  rw [List.getD_eq_getElem?_getD, List.getElem?_eq_getElem hj]
  unfold inR at this
  simpa using this
 ·rw [List.getD_eq_getElem?_getD, List.getElem?_eq_none (by omega)]; simp
theorem carries_cost {n : Nat} {bs : List Bd} {w fl : List Int} (h : (carriesP n bs w fl).2 = true) : (carriesP n bs w fl).1 = costOf bs fl := by
 unfold carriesP at h ⊢
 split
 ·rfl
 ·rename_i e; rw [if_neg e] at h; cases h
end Go.Proofs.YthjmkmjojlfejaaGreat
namespace Go.Proofs.YthjmkmjojlfejaaGreat
open Go Go.RowKit Go.Shelf
set_option maxHeartbeats 2000000 in
theorem refIsFlow_any (w : World) (N : Int) (a : Option Addr) (len cap : Nat) (a2 : Option Addr) (cap2 : Nat) (y : List Int) (hl : y.length ≤ 9223372036854775807) (h : IntsAt w a2 y) :
 Calls Tryz.prog 126 #[.agg #[.int .i64 N, .slice a len cap], .slice a2 y.length cap2] w fun e w' => e = .returned (.bool (flowingB len y)) ∧ Below w.heap.size w w' := by
 obtain ⟨W0, hW0⟩ : ∃ W0, W0 = w.alloc (.cells #[.int .i64 N, .slice a len cap] 24) := ⟨_, rfl⟩
 have B0 := hidE (show Below w.heap.size w W0 by rw [hW0]; exact (Below.refl _ _).alloc (Nat.le_refl _) _)
 have X0 := hidE (show W0.heap[w.heap.size]? = some (.cells #[.int .i64 N, .slice a len cap] 24 (0,0)) by rw [hW0]; exact heap_alloc_new _ _)
 have e1 : W0.cell? ⟨w.heap.size, 1, none⟩ = some (.slice a len cap) := c_e X0.out rfl
 have H := hidE (h.below B0.out (Nat.le_refl _))
 have HW : Hid (flowingB len y = (decide (y.length = len) && y.all fun v => inR v 0 1000000000)) := hidE rfl
 clear h
 by_cases h1 : y.length = len
 rotate_left
 ·have h1b : ((y.length : Int) != (len : Int)) = true := by simp; omega
  have HV : Hid (flowingB len y = false) := hidE (by rw [HW.out]; simp [h1])
  clear h1 HW
  go_enter Tryz.func126, Tryz.ntmps126
  go_upto_region 1 with fail
  rw [← hW0]
  clear hW0
  go_wp2_with fail
  go_ret
  exact ⟨by rw [HV.out]; rfl, B0.out⟩
 have h1b : ((y.length : Int) != (len : Int)) = false := by simp; omega
 have HV : Hid (flowingB len y = y.all fun v => inR v 0 1000000000) := hidE (by rw [HW.out]; simp [h1])
 clear h1 HW
 go_enter Tryz.func126, Tryz.ntmps126
 go_upto_region 1 with fail
 rw [← hW0]
 clear hW0
 go_wp2_with fail
 go_loopw [5] (fun i wr => ∃ k : Nat, k ≤ y.length ∧ i = .int .i64 k ∧ Hid (((y.take k).all fun v => inR v 0 1000000000) = true) ∧ wr = W0) (fun i _ => y.length - (intOf i).toNat)
 case atStart => exact ⟨0, Nat.zero_le _, rfl, hidE rfl, rfl⟩
 case round =>
  obtain ⟨k, hk, rfl, HA, rfl⟩ := hrel
  obtain ⟨W0, rfl⟩ : ∃ x : World, x = wr := ⟨wr, rfl⟩
  by_cases hlt : k < y.length
  ·obtain ⟨b, off, rfl, hbl, hc⟩ := H.out.at hlt
   have HT := hidE (all_take_succ (p := fun v => inR v 0 1000000000) hlt)
   have HU := hidE (all_false (p := fun v => inR v 0 1000000000) hlt)
   obtain ⟨v, hv⟩ : ∃ v, y[k] = v := ⟨_, rfl⟩
   rw [hv] at hc HT HU
   have HLT := hidE hlt
   clear hv
   go_wp2_with fail
   refine (within5_any v 0 1000000000 _).mono ?_
   rintro e w5 ⟨rfl, hw5⟩
   rw [← hw5]
   clear hw5
   cases hr : inR v 0 1000000000 with
   | false =>
     have HF : Hid (flowingB len y = false) := hidE (by rw [HV.out, HU.out hr])
     clear hr
     go_wp2_with fail
     go_ret
     exact ⟨by rw [HF.out]; rfl, B0.out⟩
   | true =>
     have HA2 : Hid (((y.take (k + 1)).all fun v => inR v 0 1000000000) = true) := hidE (by rw [HT.out, HA.out, hr]; rfl)
     clear hr
     go_wp2_with fail
     go_roundw
     case rel => exact ⟨k + 1, HLT.out, by go_num, HA2, trivial⟩
     case measure => have := HLT.out; simp [intOf]; omega
  ·obtain rfl : k = y.length := by omega
   rw [List.take_length] at HA
   have HF : Hid (flowingB len y = true) := hidE (by rw [HV.out]; exact HA.out)
   go_wp2_with fail
   go_ret
   exact ⟨by rw [HF.out]; rfl, B0.out⟩
set_option maxHeartbeats 4000000 in
theorem refcost_any (w : World) (N : Int) (a : Option Addr) (cap : Nat) (bs : List Bd) (a2 : Option Addr) (cap2 : Nat) (flow : List Int) (hl : bs.length ≤ 4000) (hf : flow.length = bs.length) (h : BoundsAt w a bs) (h2 : IntsAt w a2 flow)
 (hm : ∀ b ∈ bs, -1000000 ≤ b.most ∧ b.most ≤ 1000000) (hfl : ∀ i, 0 ≤ flow.getD i 0 ∧ flow.getD i 0 ≤ 1000000000) :
 Calls Tryz.prog 128 #[.agg #[.int .i64 N, .slice a bs.length cap], .slice a2 flow.length cap2] w fun e w' => e = .returned (.int .i64 (costOf bs flow)) ∧ Below w.heap.size w w' := by
 have HCB0 := hidE (fun (k : Nat) (hk : k ≤ bs.length) => costTo_bd hfl hm hk hl)
 obtain ⟨n, hn⟩ : ∃ n, bs.length = n := ⟨_, rfl⟩
 rw [hn] at hl HCB0
 rw [hf, hn]
 obtain ⟨W0, hW0⟩ : ∃ W0, W0 = w.alloc (.cells #[.int .i64 N, .slice a n cap] 24) := ⟨_, rfl⟩
 have B0 := hidE (show Below w.heap.size w W0 by rw [hW0]; exact (Below.refl _ _).alloc (Nat.le_refl _) _)
 have X0 := hidE (show W0.heap[w.heap.size]? = some (.cells #[.int .i64 N, .slice a n cap] 24 (0,0)) by rw [hW0]; exact heap_alloc_new _ _)
 have HCB := HCB0
 have H := hidE (h.below B0.out (Nat.le_refl _))
 have H2 := hidE (h2.below B0.out (Nat.le_refl _))
 have HM := hidE hm
 have HFL := hidE hfl
 have HN := hidE hn
 have HF := hidE (hf.trans hn)
 rw [costOf_eq]
 clear h h2 hm hfl hf hn
 go_enter Tryz.func128, Tryz.ntmps128
 go_upto_region 1 with fail
 rw [← hW0]
 clear hW0
 go_wp2_with fail
 go_loopw [5, 6] (fun c i wr => ∃ k : Nat, k ≤ n ∧ i = .int .i64 k ∧ c = .int .i64 (costTo bs flow k) ∧ Hid (OnlyG W0.heap.size W0 wr)) (fun _ i _ => n - (intOf i).toNat)
 case atStart => exact ⟨0, Nat.zero_le _, rfl, rfl, hidE (OnlyG.refl _ _)⟩
 case round =>
  obtain ⟨k, hk, rfl, rfl, HD⟩ := hrel
  obtain ⟨wx, rfl⟩ : ∃ W : World, W = wr := ⟨wr, rfl⟩
  by_cases hlt : k < n
  ·have hkb : k < bs.length := by rw [HN.out]; exact hlt
   have hkf : k < flow.length := by rw [HF.out]; exact hlt
   obtain ⟨b, off, rfl, hbl, hcs⟩ := H.out.at hkb
   obtain ⟨b2, off2, rfl, hbl2, hc2⟩ := H2.out.at hkf
   obtain ⟨d0, d1, d2, d3⟩ := hcs
   rw [← getD_get flow 0 hkf] at hc2
   have xl := lt_of_block X0.out
   have e1 : wx.cell? ⟨w.heap.size, 1, none⟩ = some (.slice (some ⟨b, off, none⟩) n cap) := (HD.out.cell (p := ⟨w.heap.size, 1, none⟩) (Nat.ne_of_lt xl)).trans (by rw [cell_of_row _ _ _ _ _ _ X0.out]; rfl)
   have c1 : wx.cell? ⟨b, off + k * 4 + 2, none⟩ = some (.int .i64 bs[k].most) := (HD.out.cell (p := ⟨b, off + k * 4 + 2, none⟩) (Nat.ne_of_lt hbl)).trans d2
   have c2 : wx.cell? ⟨b2, off2 + k, none⟩ = some (.int .i64 (flow.getD k 0)) := (HD.out.cell (p := ⟨b2, off2 + k, none⟩) (Nat.ne_of_lt hbl2)).trans hc2
   have s0 := HCB.out k hk
   have s1 := HCB.out (k + 1) hlt
   have hse : costTo bs flow (k + 1) = costTo bs flow k + flow.getD k 0 * (bnd bs k).most := rfl
   rw [bnd_get hkb] at hse
   have p1 := HM.out _ (List.getElem_mem hkb)
   have p2 := HFL.out k
   rw [hse] at s1
   have HSE := hidE hse
   obtain ⟨fv, hfv⟩ : ∃ z, flow.getD k 0 = z := ⟨_, rfl⟩
   obtain ⟨mv, hmv⟩ : ∃ z, bs[k].most = z := ⟨_, rfl⟩
   obtain ⟨sv, hsv⟩ : ∃ z, costTo bs flow k = z := ⟨_, rfl⟩
   rw [hfv] at c2 s1 p2 HSE
   rw [hmv] at c1 s1 p1 HSE
   rw [hsv] at s0 s1 HSE ⊢
   have pm := mul_bd (A := 1000000000) (B := 1000000) (a := fv) (b := mv) (by omega) p2.2 p1.1 p1.2
   obtain ⟨m1, hm1⟩ : ∃ z, fv * mv = z := ⟨_, rfl⟩
   rw [hm1] at s1 pm HSE
   have w1 : IntKind.i64.wrap m1 = m1 := IntWalk.i64_in _ (by omega)
   have w2 : IntKind.i64.wrap (sv + m1) = sv + m1 := IntWalk.i64_in _ (by omega)
   have HLT := hidE hlt
   clear d0 d1 d2 d3 hc2 hfv hmv hsv hse xl pm
   go_wp2_with fail
   go_upto_region 5 with fail
   go_quiet (fail)
   go_wp2_with fail
   go_roundw
   case rel => exact ⟨k + 1, HLT.out, by go_num, by rw [HSE.out], hidE (HD.out.trans (OnlyG.drewN _ _))⟩
   case measure => have := HLT.out; simp [intOf]; omega
  ·obtain rfl : k = n := by omega
   go_wp2_with fail
   go_ret
   exact ⟨by first | (rw [HN.out]; done) | (rw [HN.out]; rfl), B0.out.trans (HD.out.bl.mono B0.out.size)⟩
def NetR (N : Nat) (bs : List Bd) (flow : List Int) (k : Nat) (s : List Int) : Prop := s.length = N ∧ (∀ v : Nat, v < N → s.getD v 0 = netTo bs flow v k) ∧ ∀ v : Nat, -(k * 1000000000 : Int) ≤ s.getD v 0 ∧ s.getD v 0 ≤ k * 1000000000
theorem NetR.start (N : Nat) (bs : List Bd) (flow : List Int) : NetR N bs flow 0 (List.replicate N 0) := by
 have e : ∀ v : Nat, (List.replicate N (0 : Int)).getD v 0 = 0 := fun v => rep_getD N v
 exact ⟨List.length_replicate .., fun v _ => by rw [e]; rfl, fun v => by rw [e]; simp⟩
theorem NetR.step {N : Nat} {bs : List Bd} {flow : List Int} {k : Nat} {s : List Int} (h : NetR N bs flow k s) {si di : Nat} {f : Int} (hk : k < bs.length) (hs : (bs[k]).src = si) (hd : (bs[k]).dst = di) (hne : si ≠ di) (hsN : si < N) (hdN : di < N)
 (hf : flow.getD k 0 = f) (f0 : 0 ≤ f) (f1 : f ≤ 1000000000) : NetR N bs flow (k + 1) ((s.set di (s.getD di 0 + f)).set si (s.getD si 0 - f)) := by
 obtain ⟨h1, h2, h3⟩ := h
 have hg : ∀ v : Nat, ((s.set di (s.getD di 0 + f)).set si (s.getD si 0 - f)).getD v 0 = if v = si then s.getD si 0 - f else if v = di then s.getD di 0 + f else s.getD v 0 := by
  intro v
  rw [getD_set_at, getD_set_at, List.length_set]
  by_cases e1 : v = si
  ·rw [if_pos e1, if_pos ⟨e1.symm, by omega⟩]
  ·rw [if_neg e1, if_neg (fun h => e1 h.1.symm)]
   by_cases e2 : v = di
   ·rw [if_pos e2, if_pos ⟨e2.symm, by omega⟩]
   ·rw [if_neg e2, if_neg (fun h => e2 h.1.symm)]
 refine ⟨by simp [h1], fun v hv => ?_, fun v => ?_⟩
 ·rw [hg]
  unfold netTo
  rw [sumN_succ]
  have e := h2 v hv
  unfold netTo at e
  rw [bnd_get hk, hs, hd, hf, ← e]
  by_cases e1 : v = si
  ·subst e1
   rw [if_pos rfl, if_neg (by omega), if_pos rfl]; omega
  ·rw [if_neg e1]
   by_cases e2 : v = di
   ·subst e2
    rw [if_pos rfl, if_pos rfl, if_neg (by omega)]; omega
   ·rw [if_neg e2, if_neg (by omega), if_neg (by omega)]; omega
 ·rw [hg]
  have a1 := h3 si
  have a2 := h3 di
  have a3 := h3 v
  rw [Int.natCast_add, Int.add_mul]
  simp only [Int.natCast_one, Int.one_mul]
  split
  ·omega
  ·split <;> omega
set_option maxRecDepth 100000 in
set_option maxHeartbeats 4000000 in
theorem refcarries_any (w : World) (N : Nat) (a : Option Addr) (cap : Nat) (bs : List Bd) (a2 : Option Addr) (cap2 : Nat) (x : List Int) (a3 : Option Addr) (cap3 : Nat) (flow : List Int) (hN1 : N ≤ 128) (hl : bs.length ≤ 4000) (hx : x.length = N) (hf : flow.length = bs.length)
 (h : BoundsAt w a bs) (h2 : IntsAt w a2 x) (h3 : IntsAt w a3 flow) (hv : ∀ b ∈ bs, b.valid N ∧ b.src ≠ b.dst) (hfl : ∀ i, 0 ≤ flow.getD i 0 ∧ flow.getD i 0 ≤ 1000000000) :
 Calls Tryz.prog 127 #[.agg #[.int .i64 (N : Int), .slice a bs.length cap], .slice a2 x.length cap2, .slice a3 flow.length cap3] w fun e w' => e = .returned (.bool (carriesP N bs x flow).2) ∧ Below w.heap.size w w' := by
 have HP2 : Hid ((carriesP N bs x flow).2 = carriedTo bs flow x N) := hidE (by unfold carriesP; cases carriedTo bs flow x N <;> rfl)
 have H := hidE h
 have H2 := hidE h2
 have H3 := hidE h3
 have HV := hidE hv
 have HFL := hidE hfl
 have HX := hidE hx
 obtain ⟨n, hn⟩ : ∃ n, bs.length = n := ⟨_, rfl⟩
 have HN0 := hidE hn
 have HFE := hidE (hf.trans hn)
 rw [hn] at hl
 rw [hf, hn, hx]
 obtain ⟨W0, hW0⟩ : ∃ W0, W0 = w.alloc (.cells #[.int .i64 (N : Int), .slice a n cap] 24) := ⟨_, rfl⟩
 obtain ⟨W1, hW1⟩ : ∃ W1, W1 = W0.alloc (.cells (madeCells #[.int .i64 0] N) 3) := ⟨_, rfl⟩
 have h0s : W0.heap.size = w.heap.size + 1 := by rw [hW0]; simp
 have X0 := hidE (show W0.heap[w.heap.size]? = some (.cells #[.int .i64 (N : Int), .slice a n cap] 24 (0,0)) by rw [hW0]; exact heap_alloc_new _ _)
 have e0 : W0.cell? ⟨w.heap.size, 0, none⟩ = some (.int .i64 (N : Int)) := c_e X0.out rfl
 have B1 := hidE (show Below w.heap.size w W1 by rw [hW1, hW0]; exact ((Below.refl _ _).alloc (Nat.le_refl _) _).alloc (by simp) _)
 have X1 := hidE (show W1.heap[w.heap.size]? = some (.cells #[.int .i64 (N : Int), .slice a n cap] 24 (0,0)) by rw [hW1]; exact (heap_alloc_old _ _ (by rw [h0s]; omega)).trans X0.out)
 have R1 := hidE (show W1.heap[w.heap.size + 1]? = some (.cells (rowA (List.replicate N 0)) 3 (0,0)) by rw [hW1, ← h0s, heap_alloc_new, madeInts])
 have hmk3 := fun W => run_make_row' (P := Tryz.prog) 25 3 (.int .i64 0) 8 Tryz.underlying25 Tryz.info3' rfl .i64 .i64 N (by omega) (by omega) W
 have H0S := hidE h0s
 clear h h2 h3 hv hfl hx hf hn h0s
 go_enter Tryz.func127, Tryz.ntmps127
 go_upto_region 1 with fail
 rw [← hW0]
 clear hW0
 go_upto_region 2 with fail
 rw [← hW1, H0S.out]
 clear hW1 hmk3 e0
 go_wp2_with fail
 go_loopw [8] (fun i wr => ∃ (k : Nat) (s : List Int), k ≤ n ∧ i = .int .i64 k ∧ Hid (NetR N bs flow k s) ∧
  Hid (wr.heap[w.heap.size]? = some (.cells #[.int .i64 (N : Int), .slice a n cap] 24 (0,0))) ∧ Hid (wr.heap[w.heap.size + 1]? = some (.cells (rowA s) 3 (0,0))) ∧ Hid (Below w.heap.size w wr))
  (fun i _ => n - (intOf i).toNat)
 case atStart => exact ⟨0, List.replicate N 0, Nat.zero_le _, rfl, hidE (NetR.start N bs flow), X1, R1, B1⟩
 case round =>
  obtain ⟨k, s, hk, rfl, HN, H1, HA, HB⟩ := hrel
  obtain ⟨wx, rfl⟩ : ∃ W : World, W = wr := ⟨wr, rfl⟩
  by_cases hlt : k < n
  ·have hkb : k < bs.length := by rw [HN0.out]; exact hlt
   have hkf : k < flow.length := by rw [HFE.out]; exact hlt
   obtain ⟨b, off, rfl, hbl, hcs⟩ := H.out.at hkb
   obtain ⟨d0, d1, d2, d3⟩ := hcs.below HB.out hbl
   have hval := HV.out bs[k] (List.getElem_mem hkb)
   obtain ⟨bf, off3, rfl, hbf, hfc⟩ := H3.out.at hkf
   rw [← HB.out.cell hbf, ← getD_get flow 0 hkf] at hfc
   have hflk := HFL.out k
   obtain ⟨f, hfe⟩ : ∃ f, flow.getD k 0 = f := ⟨_, rfl⟩
   obtain ⟨y, hy⟩ : ∃ y, bs[k] = y := ⟨_, rfl⟩
   rw [hy] at d0 d1 d2 d3 hval
   rw [hfe] at hfc hflk
   obtain ⟨xs, xd, xm, xr⟩ := y
   obtain ⟨⟨v1, v2, v3, v4, v5, v6⟩, vne⟩ := hval
   simp only at d0 d1 d2 d3 v1 v2 v3 v4 v5 v6 vne
   obtain ⟨si, rfl⟩ := Int.eq_ofNat_of_zero_le v1
   obtain ⟨di, rfl⟩ := Int.eq_ofNat_of_zero_le v3
   have hne : si ≠ di := by omega
   have HSTEP := hidE (HN.out.step hkb (by rw [hy]) (by rw [hy]) hne (by omega) (by omega) hfe hflk.1 hflk.2)
   have HNE := hidE hne
   have HSL := hidE HN.out.1
   have hsz : w.heap.size + 1 < wx.heap.size := lt_of_block HA.out
   have b3s := HN.out.2.2 si
   have b3d := HN.out.2.2 di
   have s1 : (si : Int) < (N : Int) := by omega
   have s2 : (di : Int) < (N : Int) := by omega
   obtain ⟨vs, hvs⟩ : ∃ v, s.getD si 0 = v := ⟨_, rfl⟩
   obtain ⟨vd, hvd⟩ : ∃ v, s.getD di 0 = v := ⟨_, rfl⟩
   rw [hvs] at b3s HSTEP
   rw [hvd] at b3d HSTEP
   have HVS := hidE hvs
   have HVD := hidE hvd
   have HWD := hidE (show IntKind.i64.wrap (vd + f) = vd + f from IntWalk.i64_in _ (by omega))
   have HWS := hidE (show IntKind.i64.wrap (vs - f) = vs - f from IntWalk.i64_in _ (by omega))
   have HLT := hidE hlt
   have lbb : b < wx.heap.size := Nat.lt_of_lt_of_le hbl HB.out.size
   have lbf : bf < wx.heap.size := Nat.lt_of_lt_of_le hbf HB.out.size
   have e1 : wx.cell? ⟨w.heap.size, 1, none⟩ = some (.slice (some ⟨b, off, none⟩) n cap) := c_e H1.out rfl
   have zd : wx.cell? ⟨w.heap.size + 1, di, none⟩ = some (.int .i64 vd) := by rw [cell_of_row _ _ _ _ _ _ HA.out, rowA_get (by rw [HSL.out]; omega), HVD.out]
   have zf : wx.frozen? ⟨w.heap.size + 1, di, none⟩ = false := frozen_of_row _ _ _ _ _ HA.out
   have hww := HWD.out
   clear hfe hy hcs hvs hvd vne hne d2 d3
   have D0 := hidE d0
   go_wp2_with fail
   go_upto_region 5 with fail
   go_still_tail 21, (by kernel_rfl)
   go_upto_region 6 with fail
   clear hww
   obtain ⟨Y, hY⟩ : ∃ Y, Y = (wx.setCell ⟨w.heap.size + 1, di, none⟩ (.int .i64 (vd + f))).drew := ⟨_, rfl⟩
   rw [← hY]
   have ya : Y.heap[w.heap.size + 1]? = some (.cells (rowA (s.set di (vd + f))) 3 (0,0)) := by rw [hY]; exact (heap_setCell_same _ _ _ _ _ _ HA.out).trans (by rw [rowA_set])
   have y1 : Y.heap[w.heap.size]? = some (.cells #[.int .i64 (N : Int), .slice (some ⟨b, off, none⟩) n cap] 24 (0,0)) := by rw [hY]; exact (heap_setCell_other _ _ _ _ (by simp)).trans H1.out
   have yB : Below w.heap.size w Y := by rw [hY]; exact (HB.out.setCell (by simp) _).drew
   have yf : Y.cell? ⟨bf, off3 + k, none⟩ = some (.int .i64 f) := by rw [hY]; exact (World.cell?_setCell_other _ _ _ _ (by intro e; have := congrArg Addr.block e; simp at this; omega)).trans hfc
   have y0 : Y.cell? ⟨b, off + k * 4, none⟩ = some (.int .i64 (si : Int)) := by rw [hY]; exact (World.cell?_setCell_other _ _ _ _ (by intro e; have := congrArg Addr.block e; simp at this; omega)).trans D0.out
   have e2 : Y.cell? ⟨w.heap.size, 1, none⟩ = some (.slice (some ⟨b, off, none⟩) n cap) := c_e y1 rfl
   have zs : Y.cell? ⟨w.heap.size + 1, si, none⟩ = some (.int .i64 vs) := by rw [cell_of_row _ _ _ _ _ _ ya, rowA_get (by rw [List.length_set, HSL.out]; omega), getD_set_at, if_neg (fun h => HNE.out h.1.symm), HVS.out]
   have zf' : Y.frozen? ⟨w.heap.size + 1, si, none⟩ = false := frozen_of_row _ _ _ _ _ ya
   have YA := hidE ya
   have Y1 := hidE y1
   have YB := hidE yB
   have hww := HWS.out
   clear hY ya y1 yB d0 d1 zd zf e1 hfc D0
   go_still_tail 21, (by kernel_rfl)
   go_upto_region 4 with fail
   clear hww
   obtain ⟨Z, hZ⟩ : ∃ Z, Z = (Y.setCell ⟨w.heap.size + 1, si, none⟩ (.int .i64 (vs - f))).drew := ⟨_, rfl⟩
   rw [← hZ]
   have ZA := hidE (show Z.heap[w.heap.size + 1]? = some (.cells (rowA ((s.set di (vd + f)).set si (vs - f))) 3 (0,0)) by rw [hZ]; exact (heap_setCell_same _ _ _ _ _ _ YA.out).trans (by rw [rowA_set]))
   have Z1 := hidE (show Z.heap[w.heap.size]? = some (.cells #[.int .i64 (N : Int), .slice (some ⟨b, off, none⟩) n cap] 24 (0,0)) by rw [hZ]; exact (heap_setCell_other _ _ _ _ (by simp)).trans Y1.out)
   have ZB := hidE (show Below w.heap.size w Z by rw [hZ]; exact (YB.out.setCell (by simp) _).drew)
   clear hZ yf y0 e2 zs zf'
   go_wp2_with fail
   go_roundw
   case rel => exact ⟨k + 1, _, HLT.out, by go_num, HSTEP, Z1, ZA, ZB⟩
   case measure => have := HLT.out; simp [intOf]; omega
  ·obtain rfl : k = n := by omega
   have HNN := hidE (fun (v : Nat) (hv : v < N) => show s.getD v 0 = netOf bs flow v from by rw [HN.out.2.1 v hv, netOf_eq, HN0.out])
   have HSL := hidE HN.out.1
   go_wp2_with fail
   go_loopw [9] (fun i wr => ∃ (v : Nat), 1 ≤ v ∧ (v ≤ N ∨ v = 1) ∧ i = .int .i64 v ∧ Hid (carriedTo bs flow x v = true) ∧ Hid (OnlyG wx.heap.size wx wr)) (fun i _ => N - (intOf i).toNat)
   case atStart => exact ⟨1, Nat.le_refl _, .inr rfl, rfl, hidE (by simp [carriedTo, List.range_succ]), hidE (OnlyG.refl _ _)⟩
   case round =>
    obtain ⟨v, hv1, hv2, rfl, HCA, HD⟩ := hrel
    obtain ⟨A, rfl⟩ : ∃ W : World, W = wr := ⟨wr, rfl⟩
    have xl := lt_of_block H1.out
    have c1 : A.cell? ⟨w.heap.size, 0, none⟩ = some (.int .i64 (N : Int)) := (HD.out.cell (p := ⟨w.heap.size, 0, none⟩) (Nat.ne_of_lt xl)).trans (by rw [cell_of_row _ _ _ _ _ _ H1.out]; rfl)
    have hvv : v ≤ 128 := by omega
    have wv : IntKind.i64.wrap ((v : Int) + 1) = (v : Int) + 1 := IntWalk.i64_in _ (by omega)
    by_cases hvl : v < N
    ·have hvx : v < x.length := by rw [HX.out]; exact hvl
     obtain ⟨bw, offw, rfl, hbw, hwc⟩ := H2.out.at hvx
     rw [← HB.out.cell hbw, ← getD_get x 0 hvx] at hwc
     have xl2 := lt_of_block HA.out
     have lbw : bw < wx.heap.size := Nat.lt_of_lt_of_le hbw HB.out.size
     have cw : A.cell? ⟨bw, offw + v, none⟩ = some (.int .i64 (x.getD v 0)) := (HD.out.cell (p := ⟨bw, offw + v, none⟩) (Nat.ne_of_lt lbw)).trans hwc
     have cv : A.cell? ⟨w.heap.size + 1, v, none⟩ = some (.int .i64 (netOf bs flow v)) := (HD.out.cell (p := ⟨w.heap.size + 1, v, none⟩) (Nat.ne_of_lt xl2)).trans (by rw [cell_of_row _ _ _ _ _ _ HA.out, rowA_get (by rw [HSL.out]; omega), HNN.out v hvl])
     have HSUC := hidE (carriedTo_succ bs flow x v)
     have hvdec : decide ((v : Int) < (N : Int)) = true := by simp; omega
     obtain ⟨p, hp⟩ : ∃ p, netOf bs flow v = p := ⟨_, rfl⟩
     obtain ⟨q, hq⟩ : ∃ q, x.getD v 0 = q := ⟨_, rfl⟩
     rw [hp] at cv HSUC
     rw [hq] at cw HSUC
     have HVL := hidE hvl
     clear hp hq hwc xl
     by_cases hpq : p = q
     ·have d0 : (p != q) = false := by simpa using hpq
      have HC2 : Hid (carriedTo bs flow x (v + 1) = true) := hidE (by rw [HSUC.out, HCA.out]; simp [hpq])
      clear hpq
      go_wp2_with fail
      go_upto_region 10 with fail
      go_quiet (fail)
      go_wp2_with fail
      go_roundw
      case rel => exact ⟨v + 1, by omega, .inl HVL.out, by go_num, HC2, hidE (HD.out.trans (OnlyG.drewN _ _))⟩
      case measure => have := HVL.out; simp [intOf]; omega
     ·have d0 : (p != q) = true := by simpa using hpq
      have HC2 : Hid (carriedTo bs flow x N = false) := hidE (by
       cases hc : carriedTo bs flow x N with
       | false => rfl
       | true =>
         have := carriedTo_mono (k := v + 1) HVL.out hc
         rw [HSUC.out, HCA.out] at this
         simp [hpq] at this
         omega)
      clear hpq
      go_wp2_with fail
      go_upto_region 10 with fail
      go_quiet (fail)
      go_wp2_with fail
      go_ret
      exact ⟨by rw [HP2.out, HC2.out]; rfl, (HB.out.trans (HD.out.bl.mono HB.out.size)).trans (below_drewN' _ _)⟩
    ·have hvdec : decide ((v : Int) < (N : Int)) = false := by simp; omega
     have HC2 : Hid (carriedTo bs flow x N = true) := hidE (carriedTo_mono (by omega) HCA.out)
     go_wp2_with fail
     go_ret
     exact ⟨by rw [HP2.out, HC2.out]; rfl, HB.out.trans (HD.out.bl.mono HB.out.size)⟩
def best5B (N : Nat) (bs : List Bd) (x y flow : List Int) : Bool := (keptE N bs y).2.1 && flowingB bs.length flow && (carriesP N bs x flow).2 && (costOf bs flow == formP x y)
set_option maxRecDepth 100000 in
set_option maxHeartbeats 8000000 in
theorem refbest_any (w : World) (N : Nat) (a : Option Addr) (cap : Nat) (bs : List Bd) (a2 : Option Addr) (cap2 : Nat) (x : List Int) (a3 : Option Addr) (cap3 : Nat) (y : List Int) (a4 : Option Addr) (cap4 : Nat) (flow : List Int) (hN1 : N ≤ 128) (hl : bs.length ≤ 2000) (h : BoundsAt w a bs) (hx : x.length = N) (h2 : IntsAt w a2 x) (hl3 : y.length ≤ 9223372036854775807) (h3 : IntsAt w a3 y) (hl4 : flow.length ≤ 9223372036854775807) (h4 : IntsAt w a4 flow)
 (hv : ∀ b ∈ bs, b.valid N ∧ b.src ≠ b.dst) (hxb : ∀ v ∈ x, -1000000 ≤ v ∧ v ≤ 1000000) :
 Calls Tryz.prog 82 #[.agg #[.int .i64 (N : Int), .slice a bs.length cap], .slice a2 x.length cap2, .slice a3 y.length cap3, .slice a4 flow.length cap4] w fun e w' => e = .returned (.bool (best5B N bs x y flow)) ∧ Below w.heap.size w w' := by
 obtain ⟨W0, hW0⟩ : ∃ W0, W0 = w.alloc (.cells #[.int .i64 (N : Int), .slice a bs.length cap] 24) := ⟨_, rfl⟩
 have B0 := hidE (show Below w.heap.size w W0 by rw [hW0]; exact (Below.refl _ _).alloc (Nat.le_refl _) _)
 have X0 := hidE (show W0.heap[w.heap.size]? = some (.cells #[.int .i64 (N : Int), .slice a bs.length cap] 24 (0,0)) by rw [hW0]; exact heap_alloc_new _ _)
 have e0 : W0.cell? ⟨w.heap.size, 0, none⟩ = some (.int .i64 (N : Int)) := c_e X0.out rfl
 have e1 : W0.cell? ⟨w.heap.size, 1, none⟩ = some (.slice a bs.length cap) := c_e X0.out rfl
 have H := hidE (h.below B0.out (Nat.le_refl _))
 have H2 := hidE (h2.below B0.out (Nat.le_refl _))
 have H3 := hidE (h3.below B0.out (Nat.le_refl _))
 have H4 := hidE (h4.below B0.out (Nat.le_refl _))
 have HV := hidE hv
 have HXB := hidE hxb
 have HXL := hidE hx
 have HK := hidE (refkept_any W0 (N : Int) a cap bs a3 cap3 y (by unfold i64ok; omega) (by omega) hl3 H.out H3.out)
 have HB5 : Hid (best5B N bs x y flow = ((keptE N bs y).2.1 && flowingB bs.length flow && (carriesP N bs x flow).2 && (costOf bs flow == formP x y))) := hidE rfl
 obtain ⟨P, hP⟩ : ∃ P, best5B N bs x y flow = P := ⟨_, rfl⟩
 rw [hP] at HB5 ⊢
 obtain ⟨k1, hk1⟩ : ∃ z, (keptE N bs y).1 = z := ⟨_, rfl⟩
 obtain ⟨k3, hk3⟩ : ∃ z, (keptE N bs y).2.2 = z := ⟨_, rfl⟩
 rw [hk1, hk3] at HK
 clear h h2 h3 h4 hv hxb hP hk1 hk3 hx
 go_enter Tryz.func82, Tryz.ntmps82
 go_upto_region 1 with fail
 rw [← hW0]
 clear hW0
 go_wp2_with fail
 refine HK.out.mono ?_
 rintro e w1 ⟨rfl, hb1⟩
 have X1 := hidE (blk_below hb1 (lt_of_block X0.out) X0.out)
 have f0 : w1.cell? ⟨w.heap.size, 0, none⟩ = some (.int .i64 (N : Int)) := c_e X1.out rfl
 have f1 : w1.cell? ⟨w.heap.size, 1, none⟩ = some (.slice a bs.length cap) := c_e X1.out rfl
 have B1 := hidE (B0.out.trans (hb1.mono B0.out.size))
 have I1 := hidE (H.out.below hb1 (Nat.le_refl _))
 have I2 := hidE (H2.out.below hb1 (Nat.le_refl _))
 have I3 := hidE (H3.out.below hb1 (Nat.le_refl _))
 have I4 := hidE (H4.out.below hb1 (Nat.le_refl _))
 clear hb1 e0 e1 HK H H2 H3 H4
 cases hk : (keptE N bs y).2.1 with
 | false =>
   obtain rfl : P = false := by rw [HB5.out, hk]; simp
   clear hk
   go_wp2_with fail
   go_ret
   exact ⟨rfl, B1.out⟩
 | true =>
   have hc : checkP N bs = 0 := (keptE_bad hk).2
   have hK := (keptE_iff hc).1 hk
   have HKV := hidE hK
   have HKK := hidE hk
   clear hK hk hc
   have HIF := hidE (refIsFlow_any w1 (N : Int) a bs.length cap a4 cap4 flow hl4 I4.out)
   go_wp2_with fail
   refine HIF.out.mono ?_
   rintro e w2 ⟨rfl, hb2⟩
   have X2 := hidE (blk_below hb2 (lt_of_block X1.out) X1.out)
   have g0 : w2.cell? ⟨w.heap.size, 0, none⟩ = some (.int .i64 (N : Int)) := c_e X2.out rfl
   have g1 : w2.cell? ⟨w.heap.size, 1, none⟩ = some (.slice a bs.length cap) := c_e X2.out rfl
   have B2 := hidE (B1.out.trans (hb2.mono B1.out.size))
   have J1 := hidE (I1.out.below hb2 (Nat.le_refl _))
   have J2 := hidE (I2.out.below hb2 (Nat.le_refl _))
   have J3 := hidE (I3.out.below hb2 (Nat.le_refl _))
   have J4 := hidE (I4.out.below hb2 (Nat.le_refl _))
   clear hb2 f0 f1 HIF I1 I2 I3 I4
   cases hq : flowingB bs.length flow with
   | false =>
     obtain rfl : P = false := by rw [HB5.out, HKK.out, hq]; simp
     clear hq
     go_wp2_with fail
     go_ret
     exact ⟨rfl, B2.out⟩
   | true =>
     obtain ⟨fl1, fl2⟩ := flowing_pos hq
     have HCA := hidE (refcarries_any w2 N a cap bs a2 cap2 x a4 cap4 flow hN1 (by omega) HXL.out fl1 J1.out J2.out J4.out HV.out fl2)
     have HF2 := hidE fl2
     have HF1 := hidE fl1
     have HQQ := hidE hq
     clear hq fl2 fl1
     go_wp2_with fail
     refine HCA.out.mono ?_
     rintro e w3 ⟨rfl, hb3⟩
     have X3 := hidE (blk_below hb3 (lt_of_block X2.out) X2.out)
     have p0 : w3.cell? ⟨w.heap.size, 0, none⟩ = some (.int .i64 (N : Int)) := c_e X3.out rfl
     have p1 : w3.cell? ⟨w.heap.size, 1, none⟩ = some (.slice a bs.length cap) := c_e X3.out rfl
     have B3 := hidE (B2.out.trans (hb3.mono B2.out.size))
     have K1 := hidE (J1.out.below hb3 (Nat.le_refl _))
     have K2 := hidE (J2.out.below hb3 (Nat.le_refl _))
     have K3 := hidE (J3.out.below hb3 (Nat.le_refl _))
     have K4 := hidE (J4.out.below hb3 (Nat.le_refl _))
     clear hb3 g0 g1 HCA J1 J2 J3 J4
     cases hca : (carriesP N bs x flow).2 with
     | false =>
       obtain rfl : P = false := by rw [HB5.out, HKK.out, HQQ.out, hca]; simp
       clear hca
       go_wp2_with fail
       go_ret
       exact ⟨rfl, B3.out⟩
     | true =>
       have HCO := hidE (refcost_any w3 (N : Int) a cap bs a4 cap4 flow (by omega) HF1.out K1.out K4.out (fun b hb => ⟨(HV.out b hb).1.2.2.2.2.1, (HV.out b hb).1.2.2.2.2.2⟩) HF2.out)
       have HPE : Hid (P = (costOf bs flow == formP x y)) := hidE (by rw [HB5.out, HKK.out, HQQ.out, hca]; simp)
       clear hca
       go_wp2_with fail
       refine HCO.out.mono ?_
       rintro e w4 ⟨rfl, hb4⟩
       have B4 := hidE (B3.out.trans (hb4.mono B3.out.size))
       have HFO := hidE (refform_any w4 a2 cap2 x a3 cap3 y (by rw [HXL.out]; exact hN1) (by rw [HXL.out, HKV.out.len]; exact Nat.le_refl _) (K2.out.below hb4 (Nat.le_refl _)) (K3.out.below hb4 (Nat.le_refl _)) HXB.out HKV.out.bd)
       clear hb4 HCO
       go_wp2_with fail
       refine HFO.out.mono ?_
       rintro e w5 ⟨rfl, hb5⟩
       have B5 := hidE (B4.out.trans (hb5.mono B4.out.size))
       clear hb5 HFO
       go_wp2_with fail
       go_ret
       exact ⟨by rw [HPE.out]; rfl, B5.out⟩
theorem best5_eq {N : Nat} {bs : List Bd} {x y flow : List Int} (hc : checkP N bs = 0) (hw : weighedB N x = true) (hv : valuesB N y = true) : bestE N bs x y flow = (best5B N bs x y flow, 0) := by
 unfold bestE best5B
 rw [if_neg (fun q => q hc), if_neg (by rw [hw, hv]; simp), Int.toNat_natCast]
 cases hk : (keptE N bs y).2.1 with
 | false => rw [if_pos (.inl rfl)]; simp
 | true =>
   cases hq : flowingB bs.length flow with
   | false => rw [if_pos (.inr rfl)]; simp
   | true =>
     rw [if_neg (by simp)]
     cases hca : (carriesP N bs x flow).2 with
     | false => simp
     | true => rw [carries_cost hca]; simp
structure Ext where
 lo : Int
 hi : Int
 yl : List Int
 yh : List Int
 fl : List Int
 fh : List Int
structure EV where
 a2 : Option Addr
 c2 : Nat
 a3 : Option Addr
 c3 : Nat
 a4 : Option Addr
 c4 : Nat
 a5 : Option Addr
 c5 : Nat
def EV.arr (x : EV) (E : Ext) : Array Value := #[.int .i64 E.lo, .int .i64 E.hi, .slice x.a2 E.yl.length x.c2, .slice x.a3 E.yh.length x.c3, .slice x.a4 E.fl.length x.c4, .slice x.a5 E.fh.length x.c5]
def EV.val (x : EV) (E : Ext) : Value := .agg (x.arr E)
structure ExtAt (w : World) (x : EV) (E : Ext) : Prop where
 p2 : IntsAt w x.a2 E.yl
 p3 : IntsAt w x.a3 E.yh
 p4 : IntsAt w x.a4 E.fl
 p5 : IntsAt w x.a5 E.fh
 l2 : E.yl.length ≤ 9223372036854775807
 l3 : E.yh.length ≤ 9223372036854775807
 l4 : E.fl.length ≤ 9223372036854775807
 l5 : E.fh.length ≤ 9223372036854775807
theorem ExtAt.below {w w' : World} {x : EV} {E : Ext} (h : ExtAt w x E) (hb : Below w.heap.size w w') : ExtAt w' x E :=
 ⟨h.p2.below hb (Nat.le_refl _), h.p3.below hb (Nat.le_refl _), h.p4.below hb (Nat.le_refl _), h.p5.below hb (Nat.le_refl _), h.l2, h.l3, h.l4, h.l5⟩
def negL (l : List Int) : List Int := l.map (-·)
def extE (F : Fld) (N : Int) (bs : List Bd) (i : Int) (E : Ext) : Bool × Int :=
 if fitE F N bs [i] ≠ 0 then (false, fitE F N bs [i])
 else if orP [(bestE N bs (weightsOf F (F.par i)) E.yh E.fh).2, (bestE N bs (negL (weightsOf F (F.par i))) E.yl E.fl).2] ≠ 0 then (false, orP [(bestE N bs (weightsOf F (F.par i)) E.yh E.fh).2, (bestE N bs (negL (weightsOf F (F.par i))) E.yl E.fl).2])
 else ((bestE N bs (weightsOf F (F.par i)) E.yh E.fh).1 && (bestE N bs (negL (weightsOf F (F.par i))) E.yl E.fl).1 && (E.hi == formP (weightsOf F (F.par i)) E.yh) && (E.lo == formP (weightsOf F (F.par i)) E.yl), 0)
def ext5 (F : Fld) (N : Int) (bs : List Bd) (i : Int) (E : Ext) : Bool × Int :=
 if fitE F N bs [i] ≠ 0 then (false, fitE F N bs [i])
 else if valuesB N E.yh = false ∨ valuesB N E.yl = false then (false, 1)
 else (best5B N.toNat bs (weightsOf F (F.par i)) E.yh E.fh && best5B N.toNat bs (negL (weightsOf F (F.par i))) E.yl E.fl && (E.hi == formP (weightsOf F (F.par i)) E.yh) && (E.lo == formP (weightsOf F (F.par i)) E.yl), 0)
theorem nz_set (l : List Int) (p : Nat) (v : Int) : nz (l.set p v) ≤ nz l + 1 := by
 unfold nz
 induction l generalizing p with
 | nil => simp
 | cons x l ih =>
   cases p with
   | zero =>
     rw [List.set_cons_zero, List.countP_cons, List.countP_cons]
     split <;> split <;> omega
   | succ p =>
     rw [List.set_cons_succ, List.countP_cons, List.countP_cons]
     have := ih p
     omega
theorem nz_addAt (l : List Int) (p : Nat) (d : Int) : nz (addAt l p d) ≤ nz l + 1 := nz_set _ _ _
theorem nz_wStep (l : List Int) (s : Str) : nz (wStep l s) ≤ nz l + 4 := by
 unfold wStep
 have h1 := nz_addAt l s.so.toNat (-s.run)
 have h2 := nz_addAt (addAt l s.so.toNat (-s.run)) s.fso.toNat (-s.run)
 have h3 := nz_addAt (addAt (addAt l s.so.toNat (-s.run)) s.fso.toNat (-s.run)) s.no.toNat s.run
 have h4 := nz_addAt (addAt (addAt (addAt l s.so.toNat (-s.run)) s.fso.toNat (-s.run)) s.no.toNat s.run) s.fno.toNat s.run
 omega
theorem nz_zeros (n : Nat) : nz (List.replicate n (0 : Int)) = 0 := by
 unfold nz; simp
theorem nz_wts (F : Fld) (p : Par) : ∀ k : Nat, nz (wtsTo F p k) ≤ 4 * k
 | 0 => by show nz (List.replicate _ 0) ≤ _; rw [nz_zeros]; omega
 | k + 1 => by
   rw [wtsTo_succ]
   have h1 := nz_wStep (wtsTo F p k) (stripP F p (p.wst.toNat + k))
   have h2 := nz_wts F p k
   omega
theorem weights_weighed {F : Fld} {p : Par} (h : F.check = 0) (hp : p.inside F) : weighedB F.points (weightsOf F p) = true := by
 have hn := nz_wts F p (p.est - p.wst).toNat
 have hl := check0_len h
 have hpt := points_nat h
 obtain ⟨_, _, _, _, _⟩ := hp
 unfold weighedB
 simp only [Bool.and_eq_true, decide_eq_true_eq, List.all_eq_true]
 refine ⟨⟨by rw [weightsOf_len]; omega, by rw [weightsOf_eq]; omega⟩, fun v hv => ?_⟩
 obtain ⟨j, hj, rfl⟩ := List.getElem_of_mem hv
 have := weightsOf_bd h ⟨by assumption, by assumption, by assumption, by assumption, by assumption⟩ j
 rw [getD_get _ 0 hj] at this
 unfold inR; simp; omega
theorem nz_neg (l : List Int) : nz (negL l) = nz l := by
 unfold negL nz
 induction l with
 | nil => rfl
 | cons x l ih =>
   rw [List.map_cons, List.countP_cons, List.countP_cons, ih]
   by_cases e : x = 0
   ·subst e; rfl
   ·have e1 : (x != 0) = true := by simpa using e
    have e2 : (-x != 0) = true := by simp; omega
    rw [e1, e2]
theorem weighed_neg {N : Int} {l : List Int} (h : weighedB N l = true) : weighedB N (negL l) = true := by
 unfold weighedB at *
 rw [nz_neg]
 simp only [Bool.and_eq_true, decide_eq_true_eq, List.all_eq_true] at *
 refine ⟨⟨by unfold negL; simpa using h.1.1, h.1.2⟩, fun v hv => ?_⟩
 obtain ⟨u, hu, rfl⟩ := List.mem_map.1 hv
 have := h.2 u hu
 unfold inR at *; simp at *; omega
theorem fit0 {F : Fld} {N : Int} {bs : List Bd} {ps : List Int} (h : fitE F N bs ps = 0) : F.check = 0 ∧ checkP N bs = 0 ∧ N = F.points ∧ fieldedE F ps = 0 := by
 unfold fitE at h
 split at h
 ·rename_i h1; exact absurd h h1
 ·rename_i h1
  split at h
  ·rename_i h2; exact absurd h h2
  ·rename_i h2
   split at h
   ·rename_i h3; exact ⟨Classical.not_not.1 h1, Classical.not_not.1 h2, h3, h⟩
   ·cases h
theorem best_bad {N : Int} {bs : List Bd} {x y f : List Int} (hc : checkP N bs = 0) (hv : valuesB N y = false) : (bestE N bs x y f).2 = 1 := by
 unfold bestE; rw [if_neg (fun q => q hc), if_pos (.inr hv)]
theorem ext_eq (F : Fld) (N : Int) (bs : List Bd) (i : Int) (E : Ext) : extE F N bs i E = ext5 F N bs i E := by
 unfold extE ext5
 by_cases hf : fitE F N bs [i] = 0
 ·simp only [hf, ne_eq, not_true_eq_false, if_false]
  obtain ⟨h1, h2, rfl, h4⟩ := fit0 hf
  clear hf
  obtain ⟨_, n, rfl, hn, hp⟩ := fielded_one h4
  have hw := weights_weighed h1 (check0_inside h1 (List.getElem_mem hn))
  rw [← hp] at hw
  have hw2 := weighed_neg hw
  have hpt := points_nat h1
  obtain ⟨wt, hwt⟩ : ∃ z, weightsOf F (F.par (n : Int)) = z := ⟨_, rfl⟩
  rw [hwt] at hw hw2 ⊢
  obtain ⟨N, hN⟩ : ∃ N : Nat, F.points = N := ⟨F.points.toNat, by omega⟩
  rw [hN] at hw hw2 h2 ⊢
  have hNt : (N : Int).toNat = N := by omega
  rw [hNt]
  by_cases v1 : valuesB N E.yh = true
  ·have b1 := best5_eq (y := E.yh) (flow := E.fh) h2 hw v1
   by_cases v2 : valuesB N E.yl = true
   ·have b2 := best5_eq (y := E.yl) (flow := E.fl) h2 hw2 v2
    rw [b1, b2, if_neg (by simp [orP]), if_neg (by simp [v1, v2])]
   ·have v2' : valuesB N E.yl = false := by simpa using v2
    have b2 := best_bad (x := negL wt) (f := E.fl) h2 v2'
    rw [b1, b2, if_pos (by simp [orP]), if_pos (.inr v2')]
    rfl
  ·have v1' : valuesB N E.yh = false := by simpa using v1
   have b1 := best_bad (x := wt) (f := E.fh) h2 v1'
   rw [b1, if_pos (by simp [orP]), if_pos (.inl v1')]
   rfl
 ·rw [if_pos hf, if_pos hf]
set_option maxRecDepth 100000 in
set_option maxHeartbeats 16000000 in
theorem extE_any (w : World) (x : FV) (F : Fld) (N : Int) (a : Option Addr) (cap : Nat) (bs : List Bd) (i : Int) (z : EV) (E : Ext) (hF : FldAt w x F) (hN : i64ok N) (hl : bs.length ≤ 9223372036854775807) (h : BoundsAt w a bs) (hE : ExtAt w z E) :
 Calls Tryz.prog 68 #[x.val F, .agg #[.int .i64 N, .slice a bs.length cap], .int .i64 i, z.val E] w fun e w' => e = .returned (.tuple #[.bool (extE F N bs i E).1, .int .i64 (extE F N bs i E).2]) ∧ Below w.heap.size w w' := by
 obtain ⟨W0, hW0⟩ : ∃ W0, W0 = ((w.alloc (.cells (x.arr F) 46)).alloc (.cells #[.int .i64 N, .slice a bs.length cap] 24)).alloc (.cells (z.arr E) 76) := ⟨_, rfl⟩
 have BB0 : Hid (Below w.heap.size w W0) := hidE (by rw [hW0]; exact (((Below.refl _ _).alloc (Nat.le_refl _) _).alloc (by simp) _).alloc (by simp; omega) _)
 have FF0 : Hid (FldAt W0 x F) := hidE (hF.below BB0.out)
 have SS0 : Hid (BoundsAt W0 a bs) := hidE (h.below BB0.out (Nat.le_refl _))
 have EE0 : Hid (ExtAt W0 z E) := hidE (hE.below BB0.out)
 have XF0 : Hid (W0.heap[w.heap.size]? = some (.cells (x.arr F) 46 (0,0))) := hidE (by rw [hW0]; exact (Below.heap_alloc _ _ _ (by simp; omega)).trans (heap_alloc2_old _ _ _))
 have XS0 : Hid (W0.heap[w.heap.size + 1]? = some (.cells #[.int .i64 N, .slice a bs.length cap] 24 (0,0))) := hidE (by rw [hW0]; exact (Below.heap_alloc _ _ _ (by simp)).trans (by rw [heap_alloc2_new]))
 have XE0 : Hid (W0.heap[w.heap.size + 1 + 1]? = some (.cells (z.arr E) 76 (0,0))) := hidE (by
  have q := heap_alloc_new ((w.alloc (.cells (x.arr F) 46)).alloc (.cells #[.int .i64 N, .slice a bs.length cap] 24)) (.cells (z.arr E) 76)
  have hs : ((w.alloc (.cells (x.arr F) 46)).alloc (.cells #[.int .i64 N, .slice a bs.length cap] 24)).heap.size = w.heap.size + 1 + 1 := by simp
  rw [hs] at q
  rw [hW0]; exact q)
 have HFT := hidE (fun (W : World) (hf : FldAt W x F) (hs : BoundsAt W a bs) => fitting_any (W.alloc (.cells #[.int .i64 i] 3)) x F N a cap bs (some ⟨W.heap.size, 0, none⟩) 1 [i] (hf.alloc _) hN hl (hs.alloc _) (by simp) (ints_single W i))
 have HN := hidE hN
 obtain ⟨P1, hP1⟩ : ∃ t, (extE F N bs i E).1 = t := ⟨_, rfl⟩
 obtain ⟨P2, hP2⟩ : ∃ t, (extE F N bs i E).2 = t := ⟨_, rfl⟩
 rw [hP1, hP2]
 unfold extE at hP1 hP2
 clear hF h hE hN
 by_cases hf : fitE F N bs [i] = 0
 rotate_left
 ·rw [if_pos hf] at hP1 hP2
  obtain rfl : false = P1 := hP1
  obtain rfl : fitE F N bs [i] = P2 := hP2
  obtain ⟨c, hc⟩ : ∃ c, fitE F N bs [i] = c := ⟨_, rfl⟩
  rw [hc] at hf HFT ⊢
  have hzb : (c != 0) = true := by simpa using hf
  clear hf hc
  unfold FV.val FV.arr EV.val EV.arr at *
  go_enter Tryz.func68, Tryz.ntmps68
  go_upto_region 1 with fail
  rw [← hW0]
  clear hW0
  have f0 : W0.cell? ⟨w.heap.size, 0, none⟩ = some (.slice x.aS F.sts.length x.cS) := c_e XF0.out rfl
  have f1 : W0.cell? ⟨w.heap.size, 1, none⟩ = some (.slice x.aL F.lms.length x.cL) := c_e XF0.out rfl
  have f2 : W0.cell? ⟨w.heap.size, 2, none⟩ = some (.slice x.aP F.prs.length x.cP) := c_e XF0.out rfl
  have f3 : W0.cell? ⟨w.heap.size, 3, none⟩ = some (.slice x.aV F.vrs.length x.cV) := c_e XF0.out rfl
  have s0 : W0.cell? ⟨w.heap.size + 1, 0, none⟩ = some (.int .i64 N) := c_e XS0.out rfl
  have s1 : W0.cell? ⟨w.heap.size + 1, 1, none⟩ = some (.slice a bs.length cap) := c_e XS0.out rfl
  have hc := HFT.out W0 FF0.out SS0.out
  have HC := hidE (hc)
  go_wp2_with fail
  refine HC.out.mono ?_
  rintro e W1 ⟨rfl, hbx⟩
  clear HC f0 f1 f2 f3 s0 s1 hc
  have hb : Below W0.heap.size W0 W1 := ((Below.refl _ W0).alloc (Nat.le_refl _) _).trans (hbx.mono (by simp))
  have BB1 : Hid (Below w.heap.size w W1) := hidE (BB0.out.trans (hb.mono BB0.out.size))
  have FF1 : Hid (FldAt W1 x F) := hidE (FF0.out.below hb)
  have SS1 : Hid (BoundsAt W1 a bs) := hidE (SS0.out.below hb (Nat.le_refl _))
  have EE1 : Hid (ExtAt W1 z E) := hidE (EE0.out.below hb)
  have XF1 : Hid (W1.heap[w.heap.size]? = some (.cells #[.slice x.aS F.sts.length x.cS, .slice x.aL F.lms.length x.cL, .slice x.aP F.prs.length x.cP, .slice x.aV F.vrs.length x.cV] 46 (0,0))) := hidE (blk_below hb (lt_of_block XF0.out) XF0.out)
  have XS1 : Hid (W1.heap[w.heap.size + 1]? = some (.cells #[.int .i64 N, .slice a bs.length cap] 24 (0,0))) := hidE (blk_below hb (lt_of_block XS0.out) XS0.out)
  have XE1 : Hid (W1.heap[w.heap.size + 1 + 1]? = some (.cells #[.int .i64 E.lo, .int .i64 E.hi, .slice z.a2 E.yl.length z.c2, .slice z.a3 E.yh.length z.c3, .slice z.a4 E.fl.length z.c4, .slice z.a5 E.fh.length z.c5] 76 (0,0))) := hidE (blk_below hb (lt_of_block XE0.out) XE0.out)
  clear hb BB0 FF0 SS0 EE0 XF0 XS0 XE0
  clear hbx
  go_wp2_with fail
  go_ret2
  exact ⟨rfl, BB1.out⟩
 rw [if_neg (fun q => q hf)] at hP1 hP2
 rw [hf] at HFT
 obtain ⟨hc, hck, rfl, hfd⟩ := fit0 hf
 obtain ⟨_, n, rfl, hn, hpar⟩ := fielded_one hfd
 have hin := check0_inside hc (List.getElem_mem hn)
 have HWT := hidE (fun (W : World) (hf : FldAt W x F) => weights_any W x F n hc hn hf)
 have hwl := weightsOf_len F F.prs[n]
 have hwb := weightsOf_bd hc hin
 have hpn := points_nat hc
 rw [hpar] at hP1 hP2
 obtain ⟨wt, hwt⟩ : ∃ t, weightsOf F F.prs[n] = t := ⟨_, rfl⟩
 rw [hwt] at hP1 hP2 HWT hwl hwb
 rw [← hwl] at HWT
 have hwb2 : ∀ v ∈ wt, -1000000 ≤ v ∧ v ≤ 1000000 := fun v hv => by
  obtain ⟨j, hj, rfl⟩ := List.getElem_of_mem hv
  have := hwb j
  rw [getD_get _ 0 hj] at this
  omega
 have HWB := hidE hwb2
 have hw121 : wt.length ≤ 121 := by omega
 obtain ⟨N, hN⟩ : ∃ N, F.points = N := ⟨_, rfl⟩
 have HLN : Hid ((wt.length : Int) = N) := hidE (by rw [← hN]; omega)
 rw [hN] at hP1 hP2 HFT HN XS0 hW0 ⊢
 have HB1 := hidE (fun (W : World) (hs : BoundsAt W a bs) (he : ExtAt W z E) (g : Nat) (hg : W.heap[g]? = some (.cells (rowA wt) 3 (0,0))) => checkBest_any W N a cap bs (some ⟨g, 0, none⟩) wt.length wt z.a3 z.c3 E.yh z.a5 z.c5 E.fh HN.out hl hs (by omega) (ints_of_row hg) he.l3 he.p3 he.l5 he.p5)
 have HB2 := hidE (fun (W : World) (hs : BoundsAt W a bs) (he : ExtAt W z E) (g : Nat) (hg : W.heap[g]? = some (.cells (rowA (negL wt)) 3 (0,0))) => show Calls Tryz.prog 60 #[.agg #[.int .i64 N, .slice a bs.length cap], .slice (some ⟨g, 0, none⟩) wt.length wt.length, .slice z.a2 E.yl.length z.c2, .slice z.a4 E.fl.length z.c4] W _ by
  have q := checkBest_any W N a cap bs (some ⟨g, 0, none⟩) wt.length (negL wt) z.a2 z.c2 E.yl z.a4 z.c4 E.fl HN.out hl hs (by unfold negL; simp; omega) (ints_of_row hg) he.l2 he.p2 he.l4 he.p4
  rw [show (negL wt).length = wt.length by unfold negL; simp] at q
  exact q)
 have HOP := hidE (fun (W : World) (g : Nat) (hg : W.heap[g]? = some (.cells (rowA wt) 3 (0,0))) => opposite_any W (some ⟨g, 0, none⟩) wt.length wt (by omega) (ints_of_row hg) HWB.out)
 have HV1 : Hid ((bestE N bs wt E.yh E.fh).2 = 0 → valuesB N E.yh = true) := hidE (fun e => by
  cases hv : valuesB N E.yh with
  | true => rfl
  | false => rw [best_bad (by rw [← hN]; exact hck) hv] at e; cases e)
 have HV2 : Hid ((bestE N bs (negL wt) E.yl E.fl).2 = 0 → valuesB N E.yl = true) := hidE (fun e => by
  cases hv : valuesB N E.yl with
  | true => rfl
  | false => rw [best_bad (by rw [← hN]; exact hck) hv] at e; cases e)
 obtain ⟨b1, hb1⟩ : ∃ t, (bestE N bs wt E.yh E.fh).1 = t := ⟨_, rfl⟩
 obtain ⟨r1, hr1⟩ : ∃ t, (bestE N bs wt E.yh E.fh).2 = t := ⟨_, rfl⟩
 obtain ⟨b2, hb2⟩ : ∃ t, (bestE N bs (negL wt) E.yl E.fl).1 = t := ⟨_, rfl⟩
 obtain ⟨r2, hr2⟩ : ∃ t, (bestE N bs (negL wt) E.yl E.fl).2 = t := ⟨_, rfl⟩
 rw [hb1, hr1] at HB1
 rw [hb2, hr2] at HB2
 rw [hr1] at HV1
 rw [hr2] at HV2
 rw [hb1, hr1, hb2, hr2] at hP1 hP2
 obtain ⟨o, ho⟩ : ∃ t, orP [r1, r2] = t := ⟨_, rfl⟩
 have HFO := hidE (fun (W : World) (g : Nat) (zA : Option Addr) (zc : Nat) (y : List Int) (hg : W.heap[g]? = some (.cells (rowA wt) 3 (0,0))) (hy : IntsAt W zA y) (hv : valuesB N y = true) => form_any W (some ⟨g, 0, none⟩) wt.length wt zA zc y (by omega) (by have := (valuesB_iff.1 (show valuesB (N.toNat : Int) y = true by rw [show (N.toNat : Int) = N by have := HLN.out; omega]; exact hv)).1; have := HLN.out; omega) (ints_of_row hg) hy HWB.out (valuesB_iff.1 (show valuesB (N.toNat : Int) y = true by rw [show (N.toNat : Int) = N by have := HLN.out; omega]; exact hv)).2.2)
 have HOO := hidE ho
 rw [ho] at hP1 hP2
 obtain ⟨f1, hf1⟩ : ∃ t, formP wt E.yh = t := ⟨_, rfl⟩
 obtain ⟨f2, hf2⟩ : ∃ t, formP wt E.yl = t := ⟨_, rfl⟩
 rw [hf1, hf2] at hP1
 have HF1 := hidE hf1
 have HF2 := hidE hf2
 have HP1 := hidE hP1
 have HP2 := hidE hP2
 clear hc hck hfd hn hpar hin hwt hwl hwb hwb2 hN hb1 hr1 hb2 hr2 ho hf1 hf2 hP1 hP2 hf hpn
 unfold FV.val FV.arr EV.val EV.arr at *
 go_enter Tryz.func68, Tryz.ntmps68
 go_upto_region 1 with fail
 rw [← hW0]
 clear hW0
 have f0 : W0.cell? ⟨w.heap.size, 0, none⟩ = some (.slice x.aS F.sts.length x.cS) := c_e XF0.out rfl
 have f1 : W0.cell? ⟨w.heap.size, 1, none⟩ = some (.slice x.aL F.lms.length x.cL) := c_e XF0.out rfl
 have f2 : W0.cell? ⟨w.heap.size, 2, none⟩ = some (.slice x.aP F.prs.length x.cP) := c_e XF0.out rfl
 have f3 : W0.cell? ⟨w.heap.size, 3, none⟩ = some (.slice x.aV F.vrs.length x.cV) := c_e XF0.out rfl
 have s0 : W0.cell? ⟨w.heap.size + 1, 0, none⟩ = some (.int .i64 N) := c_e XS0.out rfl
 have s1 : W0.cell? ⟨w.heap.size + 1, 1, none⟩ = some (.slice a bs.length cap) := c_e XS0.out rfl
 have hc := HFT.out W0 FF0.out SS0.out
 have HC := hidE (hc)
 go_wp2_with fail
 refine HC.out.mono ?_
 rintro e W1 ⟨rfl, hbx⟩
 clear HC f0 f1 f2 f3 s0 s1 hc
 have hb : Below W0.heap.size W0 W1 := ((Below.refl _ W0).alloc (Nat.le_refl _) _).trans (hbx.mono (by simp))
 have BB1 : Hid (Below w.heap.size w W1) := hidE (BB0.out.trans (hb.mono BB0.out.size))
 have FF1 : Hid (FldAt W1 x F) := hidE (FF0.out.below hb)
 have SS1 : Hid (BoundsAt W1 a bs) := hidE (SS0.out.below hb (Nat.le_refl _))
 have EE1 : Hid (ExtAt W1 z E) := hidE (EE0.out.below hb)
 have XF1 : Hid (W1.heap[w.heap.size]? = some (.cells #[.slice x.aS F.sts.length x.cS, .slice x.aL F.lms.length x.cL, .slice x.aP F.prs.length x.cP, .slice x.aV F.vrs.length x.cV] 46 (0,0))) := hidE (blk_below hb (lt_of_block XF0.out) XF0.out)
 have XS1 : Hid (W1.heap[w.heap.size + 1]? = some (.cells #[.int .i64 N, .slice a bs.length cap] 24 (0,0))) := hidE (blk_below hb (lt_of_block XS0.out) XS0.out)
 have XE1 : Hid (W1.heap[w.heap.size + 1 + 1]? = some (.cells #[.int .i64 E.lo, .int .i64 E.hi, .slice z.a2 E.yl.length z.c2, .slice z.a3 E.yh.length z.c3, .slice z.a4 E.fl.length z.c4, .slice z.a5 E.fh.length z.c5] 76 (0,0))) := hidE (blk_below hb (lt_of_block XE0.out) XE0.out)
 clear hb BB0 FF0 SS0 EE0 XF0 XS0 XE0
 clear hbx
 have f0 : W1.cell? ⟨w.heap.size, 0, none⟩ = some (.slice x.aS F.sts.length x.cS) := c_e XF1.out rfl
 have f1 : W1.cell? ⟨w.heap.size, 1, none⟩ = some (.slice x.aL F.lms.length x.cL) := c_e XF1.out rfl
 have f2 : W1.cell? ⟨w.heap.size, 2, none⟩ = some (.slice x.aP F.prs.length x.cP) := c_e XF1.out rfl
 have f3 : W1.cell? ⟨w.heap.size, 3, none⟩ = some (.slice x.aV F.vrs.length x.cV) := c_e XF1.out rfl
 have hc := HWT.out W1 FF1.out
 have HC := hidE (hc)
 go_wp2_with fail
 refine HC.out.mono ?_
 rintro e W2 ⟨g, rfl, hg, hgb, hbx⟩
 clear HC f0 f1 f2 f3 hc
 have hb : Below W1.heap.size W1 W2 := hbx
 have BB2 : Hid (Below w.heap.size w W2) := hidE (BB1.out.trans (hb.mono BB1.out.size))
 have FF2 : Hid (FldAt W2 x F) := hidE (FF1.out.below hb)
 have SS2 : Hid (BoundsAt W2 a bs) := hidE (SS1.out.below hb (Nat.le_refl _))
 have EE2 : Hid (ExtAt W2 z E) := hidE (EE1.out.below hb)
 have XF2 : Hid (W2.heap[w.heap.size]? = some (.cells #[.slice x.aS F.sts.length x.cS, .slice x.aL F.lms.length x.cL, .slice x.aP F.prs.length x.cP, .slice x.aV F.vrs.length x.cV] 46 (0,0))) := hidE (blk_below hb (lt_of_block XF1.out) XF1.out)
 have XS2 : Hid (W2.heap[w.heap.size + 1]? = some (.cells #[.int .i64 N, .slice a bs.length cap] 24 (0,0))) := hidE (blk_below hb (lt_of_block XS1.out) XS1.out)
 have XE2 : Hid (W2.heap[w.heap.size + 1 + 1]? = some (.cells #[.int .i64 E.lo, .int .i64 E.hi, .slice z.a2 E.yl.length z.c2, .slice z.a3 E.yh.length z.c3, .slice z.a4 E.fl.length z.c4, .slice z.a5 E.fh.length z.c5] 76 (0,0))) := hidE (blk_below hb (lt_of_block XE1.out) XE1.out)
 clear hb BB1 FF1 SS1 EE1 XF1 XS1 XE1
 clear hbx
 have WG2 := hidE hg
 clear hg hgb
 have s0 : W2.cell? ⟨w.heap.size + 1, 0, none⟩ = some (.int .i64 N) := c_e XS2.out rfl
 have s1 : W2.cell? ⟨w.heap.size + 1, 1, none⟩ = some (.slice a bs.length cap) := c_e XS2.out rfl
 have t0 : W2.cell? ⟨w.heap.size + 1 + 1, 0, none⟩ = some (.int .i64 E.lo) := c_e XE2.out rfl
 have t1 : W2.cell? ⟨w.heap.size + 1 + 1, 1, none⟩ = some (.int .i64 E.hi) := c_e XE2.out rfl
 have t2 : W2.cell? ⟨w.heap.size + 1 + 1, 2, none⟩ = some (.slice z.a2 E.yl.length z.c2) := c_e XE2.out rfl
 have t3 : W2.cell? ⟨w.heap.size + 1 + 1, 3, none⟩ = some (.slice z.a3 E.yh.length z.c3) := c_e XE2.out rfl
 have t4 : W2.cell? ⟨w.heap.size + 1 + 1, 4, none⟩ = some (.slice z.a4 E.fl.length z.c4) := c_e XE2.out rfl
 have t5 : W2.cell? ⟨w.heap.size + 1 + 1, 5, none⟩ = some (.slice z.a5 E.fh.length z.c5) := c_e XE2.out rfl
 have hc := HB1.out W2 SS2.out EE2.out g WG2.out
 have HC := hidE (hc)
 go_wp2_with fail
 refine HC.out.mono ?_
 rintro e W3 ⟨rfl, hbx⟩
 clear HC s0 s1 t0 t1 t2 t3 t4 t5 hc
 have hb : Below W2.heap.size W2 W3 := hbx
 have BB3 : Hid (Below w.heap.size w W3) := hidE (BB2.out.trans (hb.mono BB2.out.size))
 have FF3 : Hid (FldAt W3 x F) := hidE (FF2.out.below hb)
 have SS3 : Hid (BoundsAt W3 a bs) := hidE (SS2.out.below hb (Nat.le_refl _))
 have EE3 : Hid (ExtAt W3 z E) := hidE (EE2.out.below hb)
 have XF3 : Hid (W3.heap[w.heap.size]? = some (.cells #[.slice x.aS F.sts.length x.cS, .slice x.aL F.lms.length x.cL, .slice x.aP F.prs.length x.cP, .slice x.aV F.vrs.length x.cV] 46 (0,0))) := hidE (blk_below hb (lt_of_block XF2.out) XF2.out)
 have XS3 : Hid (W3.heap[w.heap.size + 1]? = some (.cells #[.int .i64 N, .slice a bs.length cap] 24 (0,0))) := hidE (blk_below hb (lt_of_block XS2.out) XS2.out)
 have XE3 : Hid (W3.heap[w.heap.size + 1 + 1]? = some (.cells #[.int .i64 E.lo, .int .i64 E.hi, .slice z.a2 E.yl.length z.c2, .slice z.a3 E.yh.length z.c3, .slice z.a4 E.fl.length z.c4, .slice z.a5 E.fh.length z.c5] 76 (0,0))) := hidE (blk_below hb (lt_of_block XE2.out) XE2.out)
 have WG3 : Hid (W3.heap[g]? = some (.cells (rowA wt) 3 (0,0))) := hidE (blk_below hb (lt_of_block WG2.out) WG2.out)
 clear hb BB2 FF2 SS2 EE2 XF2 XS2 XE2 WG2
 clear hbx
 go_upto_region 6 with fail
 refine wp_region_F (S := fun V => V.heap[w.heap.size + 1]? = some (.cells #[.int .i64 N, .slice a bs.length cap] 24 (0,0)) ∧ V.heap[w.heap.size + 1 + 1]? = some (.cells #[.int .i64 E.lo, .int .i64 E.hi, .slice z.a2 E.yl.length z.c2, .slice z.a3 E.yh.length z.c3, .slice z.a4 E.fl.length z.c4, .slice z.a5 E.fh.length z.c5] 76 (0,0)) ∧ V.heap[g]? = some (.cells (rowA wt) 3 (0,0))) (last := 100) (by kernel_rfl) ?_
 have hS0 : W3.drew.heap[w.heap.size + 1]? = some (.cells #[.int .i64 N, .slice a bs.length cap] 24 (0,0)) ∧ W3.drew.heap[w.heap.size + 1 + 1]? = some (.cells #[.int .i64 E.lo, .int .i64 E.hi, .slice z.a2 E.yl.length z.c2, .slice z.a3 E.yh.length z.c3, .slice z.a4 E.fl.length z.c4, .slice z.a5 E.fh.length z.c5] 76 (0,0)) ∧ W3.drew.heap[g]? = some (.cells (rowA wt) 3 (0,0)) := ⟨XS3.out, XE3.out, WG3.out⟩
 refine t_n 0 39 (.agg #[.int .i64 N, .slice a bs.length cap]) rfl (by kernel_rfl) rfl (fun _ _ _ h => h) (fun V hV => ?_) hS0 ?_
 ·have z0 : V.cell? ⟨w.heap.size + 1, 0, none⟩ = some (.int .i64 N) := c_e hV.1 rfl
  have z1 : V.cell? ⟨w.heap.size + 1, 1, none⟩ = some (.slice a bs.length cap) := c_e hV.1 rfl
  simp [go_sem, execOp, z0, z1]
 try simp only [s_a, s_b, s_c]
 refine t_n 1 40 (.slice (some ⟨g, 0, none⟩) wt.length wt.length) rfl (by kernel_rfl) rfl (fun _ _ _ h => h) (fun V hV => ?_) hS0 ?_
 ·simp [go_sem, execOp]
 try simp only [s_a, s_b, s_c]
 refine t_n 3 42 (.pointer (some ⟨w.heap.size + 1 + 1, 2, none⟩)) rfl (by kernel_rfl) rfl (fun _ _ _ h => h) (fun V hV => ?_) hS0 ?_
 ·simp [go_sem, execOp]
 try simp only [s_a, s_b, s_c]
 refine t_n 4 43 (.slice z.a2 E.yl.length z.c2) rfl (by kernel_rfl) rfl (fun _ _ _ h => h) (fun V hV => ?_) hS0 ?_
 ·have z0 : V.cell? ⟨w.heap.size + 1 + 1, 2, none⟩ = some (.slice z.a2 E.yl.length z.c2) := c_e hV.2.1 rfl
  simp [go_sem, execOp, z0]
 try simp only [s_a, s_b, s_c]
 refine t_n 5 44 (.pointer (some ⟨w.heap.size + 1 + 1, 4, none⟩)) rfl (by kernel_rfl) rfl (fun _ _ _ h => h) (fun V hV => ?_) hS0 ?_
 ·simp [go_sem, execOp]
 try simp only [s_a, s_b, s_c]
 refine t_n 6 45 (.slice z.a4 E.fl.length z.c4) rfl (by kernel_rfl) rfl (fun _ _ _ h => h) (fun V hV => ?_) hS0 ?_
 ·have z0 : V.cell? ⟨w.heap.size + 1 + 1, 4, none⟩ = some (.slice z.a4 E.fl.length z.c4) := c_e hV.2.1 rfl
  simp [go_sem, execOp, z0]
 try simp only [s_a, s_b, s_c]
 refine wpAnyF_step 2 rfl (by kernel_rfl) (fun K hK => ?_)
 have HC := hidE (HOP.out W3.drew g WG3.out)
 go_simp
 go_at_call 79
 refine HC.out.mono ?_
 rintro e W4 ⟨rfl, hg, hbx⟩
 clear HC
 have hb : Below W3.heap.size W3 W4 := (Below.refl _ W3).drew.trans hbx
 have BB4 : Hid (Below w.heap.size w W4) := hidE (BB3.out.trans (hb.mono BB3.out.size))
 have FF4 : Hid (FldAt W4 x F) := hidE (FF3.out.below hb)
 have SS4 : Hid (BoundsAt W4 a bs) := hidE (SS3.out.below hb (Nat.le_refl _))
 have EE4 : Hid (ExtAt W4 z E) := hidE (EE3.out.below hb)
 have XF4 : Hid (W4.heap[w.heap.size]? = some (.cells #[.slice x.aS F.sts.length x.cS, .slice x.aL F.lms.length x.cL, .slice x.aP F.prs.length x.cP, .slice x.aV F.vrs.length x.cV] 46 (0,0))) := hidE (blk_below hb (lt_of_block XF3.out) XF3.out)
 have XS4 : Hid (W4.heap[w.heap.size + 1]? = some (.cells #[.int .i64 N, .slice a bs.length cap] 24 (0,0))) := hidE (blk_below hb (lt_of_block XS3.out) XS3.out)
 have XE4 : Hid (W4.heap[w.heap.size + 1 + 1]? = some (.cells #[.int .i64 E.lo, .int .i64 E.hi, .slice z.a2 E.yl.length z.c2, .slice z.a3 E.yh.length z.c3, .slice z.a4 E.fl.length z.c4, .slice z.a5 E.fh.length z.c5] 76 (0,0))) := hidE (blk_below hb (lt_of_block XE3.out) XE3.out)
 have WG4 : Hid (W4.heap[g]? = some (.cells (rowA wt) 3 (0,0))) := hidE (blk_below hb (lt_of_block WG3.out) WG3.out)
 clear hb BB3 FF3 SS3 EE3 XF3 XS3 XE3 WG3
 clear hbx
 go_wp2_with fail
 have NG4 : Hid (W4.heap[W3.heap.size]? = some (.cells (rowA (negL wt)) 3 (0,0))) := hidE hg
 clear hg
 have hS1 : W4.heap[w.heap.size + 1]? = some (.cells #[.int .i64 N, .slice a bs.length cap] 24 (0,0)) ∧ W4.heap[w.heap.size + 1 + 1]? = some (.cells #[.int .i64 E.lo, .int .i64 E.hi, .slice z.a2 E.yl.length z.c2, .slice z.a3 E.yh.length z.c3, .slice z.a4 E.fl.length z.c4, .slice z.a5 E.fh.length z.c5] 76 (0,0)) ∧ W4.heap[g]? = some (.cells (rowA wt) 3 (0,0)) := ⟨XS4.out, XE4.out, WG4.out⟩
 refine hK.out _ _ (.inr hS1) ?_
 clear hK K
 try simp only [Act.put, s_a, s_b, s_c]
 refine wpAnyF_step 7 rfl (by kernel_rfl) (fun K hK => ?_)
 have HC := hidE (HB2.out W4 SS4.out EE4.out W3.heap.size NG4.out)
 go_simp
 go_at_call 60
 refine HC.out.mono ?_
 rintro e W5 ⟨rfl, hbx⟩
 clear HC
 have hb : Below W4.heap.size W4 W5 := hbx
 have BB5 : Hid (Below w.heap.size w W5) := hidE (BB4.out.trans (hb.mono BB4.out.size))
 have FF5 : Hid (FldAt W5 x F) := hidE (FF4.out.below hb)
 have SS5 : Hid (BoundsAt W5 a bs) := hidE (SS4.out.below hb (Nat.le_refl _))
 have EE5 : Hid (ExtAt W5 z E) := hidE (EE4.out.below hb)
 have XF5 : Hid (W5.heap[w.heap.size]? = some (.cells #[.slice x.aS F.sts.length x.cS, .slice x.aL F.lms.length x.cL, .slice x.aP F.prs.length x.cP, .slice x.aV F.vrs.length x.cV] 46 (0,0))) := hidE (blk_below hb (lt_of_block XF4.out) XF4.out)
 have XS5 : Hid (W5.heap[w.heap.size + 1]? = some (.cells #[.int .i64 N, .slice a bs.length cap] 24 (0,0))) := hidE (blk_below hb (lt_of_block XS4.out) XS4.out)
 have XE5 : Hid (W5.heap[w.heap.size + 1 + 1]? = some (.cells #[.int .i64 E.lo, .int .i64 E.hi, .slice z.a2 E.yl.length z.c2, .slice z.a3 E.yh.length z.c3, .slice z.a4 E.fl.length z.c4, .slice z.a5 E.fh.length z.c5] 76 (0,0))) := hidE (blk_below hb (lt_of_block XE4.out) XE4.out)
 have WG5 : Hid (W5.heap[g]? = some (.cells (rowA wt) 3 (0,0))) := hidE (blk_below hb (lt_of_block WG4.out) WG4.out)
 clear hb BB4 FF4 SS4 EE4 XF4 XS4 XE4 WG4
 clear hbx
 go_wp2_with fail
 have hS2 : W5.heap[w.heap.size + 1]? = some (.cells #[.int .i64 N, .slice a bs.length cap] 24 (0,0)) ∧ W5.heap[w.heap.size + 1 + 1]? = some (.cells #[.int .i64 E.lo, .int .i64 E.hi, .slice z.a2 E.yl.length z.c2, .slice z.a3 E.yh.length z.c3, .slice z.a4 E.fl.length z.c4, .slice z.a5 E.fh.length z.c5] 76 (0,0)) ∧ W5.heap[g]? = some (.cells (rowA wt) 3 (0,0)) := ⟨XS5.out, XE5.out, WG5.out⟩
 refine hK.out _ _ (.inr hS2) ?_
 clear hK K
 try simp only [Act.put, s_a, s_b, s_c]
 refine t_n 8 38 (.tuple #[.bool b2, .int .i64 r2]) rfl (by kernel_rfl) rfl (fun _ _ _ h => h) (fun V hV => ?_) hS2 ?_
 ·simp [go_sem, execOp]
 try simp only [s_a, s_b, s_c]
 refine t_n 9 47 (.bool b2) rfl (by kernel_rfl) rfl (fun _ _ _ h => h) (fun V hV => ?_) hS2 ?_
 ·simp [go_sem, execOp]
 try simp only [s_a, s_b, s_c]
 refine t_n 10 48 (.int .i64 r2) rfl (by kernel_rfl) rfl (fun _ _ _ h => h) (fun V hV => ?_) hS2 ?_
 ·simp [go_sem, execOp]
 try simp only [s_a, s_b, s_c]
 refine t_n 11 14 (.bool b2) rfl (by kernel_rfl) rfl (fun _ _ _ h => h) (fun V hV => ?_) hS2 ?_
 ·simp [go_sem, execOp]
 try simp only [s_a, s_b, s_c]
 refine t_n 12 15 (.int .i64 r2) rfl (by kernel_rfl) rfl (fun _ _ _ h => h) (fun V hV => ?_) hS2 ?_
 ·simp [go_sem, execOp]
 try simp only [s_a, s_b, s_c]
 refine wpAnyF_done (by kernel_rfl) ?_ _
 clear hS0 hS1 hS2
 have hc := first_any (W5.alloc (.cells #[.int .i64 r1, .int .i64 r2] 28)) (some ⟨W5.heap.size, 0, none⟩) 2 [r1, r2] (by simp) (two_ints W5 r1 r2 28)
 rw [HOO.out] at hc
 have HCC := hidE hc
 clear hc
 go_wp2_with fail
 refine HCC.out.mono ?_
 rintro e W ⟨rfl, rfl⟩
 obtain ⟨W6, hW⟩ : ∃ W, W = W5.alloc (.cells #[.int .i64 r1, .int .i64 r2] 28) := ⟨_, rfl⟩
 rw [← hW]
 have hb : Below W5.heap.size W5 W6 := by rw [hW]; exact (Below.refl _ _).alloc (Nat.le_refl _) _
 have BB6 : Hid (Below w.heap.size w W6) := hidE (BB5.out.trans (hb.mono BB5.out.size))
 have FF6 : Hid (FldAt W6 x F) := hidE (FF5.out.below hb)
 have SS6 : Hid (BoundsAt W6 a bs) := hidE (SS5.out.below hb (Nat.le_refl _))
 have EE6 : Hid (ExtAt W6 z E) := hidE (EE5.out.below hb)
 have XF6 : Hid (W6.heap[w.heap.size]? = some (.cells #[.slice x.aS F.sts.length x.cS, .slice x.aL F.lms.length x.cL, .slice x.aP F.prs.length x.cP, .slice x.aV F.vrs.length x.cV] 46 (0,0))) := hidE (blk_below hb (lt_of_block XF5.out) XF5.out)
 have XS6 : Hid (W6.heap[w.heap.size + 1]? = some (.cells #[.int .i64 N, .slice a bs.length cap] 24 (0,0))) := hidE (blk_below hb (lt_of_block XS5.out) XS5.out)
 have XE6 : Hid (W6.heap[w.heap.size + 1 + 1]? = some (.cells #[.int .i64 E.lo, .int .i64 E.hi, .slice z.a2 E.yl.length z.c2, .slice z.a3 E.yh.length z.c3, .slice z.a4 E.fl.length z.c4, .slice z.a5 E.fh.length z.c5] 76 (0,0))) := hidE (blk_below hb (lt_of_block XE5.out) XE5.out)
 have WG6 : Hid (W6.heap[g]? = some (.cells (rowA wt) 3 (0,0))) := hidE (blk_below hb (lt_of_block WG5.out) WG5.out)
 clear hb BB5 FF5 SS5 EE5 XF5 XS5 XE5 WG5
 clear hW HCC
 by_cases ho : o = 0
 rotate_left
 ·have hzb : (o != 0) = true := by simpa using ho
  have hp1 := HP1.out
  have hp2 := HP2.out
  rw [if_pos ho] at hp1 hp2
  obtain rfl : false = P1 := hp1
  obtain rfl : o = P2 := hp2
  clear ho HP1 HP2
  go_wp2_with fail
  go_ret2
  exact ⟨rfl, BB6.out⟩
 subst ho
 have hr : r1 = 0 ∧ r2 = 0 := by
  have q := HOO.out
  unfold orP at q
  split at q
  ·rename_i e1
   unfold orP at q
   split at q
   ·rename_i e2; exact ⟨e1, e2⟩
   ·rename_i e2; exact absurd q e2
  ·rename_i e1; exact absurd q e1
 have hv1 := HV1.out hr.1
 have hv2 := HV2.out hr.2
 have HVV := hidE (And.intro hv1 hv2)
 have hp1 := HP1.out
 have hp2 := HP2.out
 rw [if_neg (by simp)] at hp1 hp2
 obtain rfl : (0 : Int) = P2 := hp2
 have HPP := hidE hp1
 clear hr hv1 hv2 hp1 HP1 HP2 HV1 HV2
 go_upto_region 10 with fail
 cases b1 with
 | false =>
   obtain rfl : false = P1 := by rw [← HPP.out]; simp
   clear HPP
   go_quiet (fail)
   go_wp2_with fail
   go_ret2
   exact ⟨rfl, BB6.out.trans (below_drewN' _ _)⟩
 | true =>
   cases b2 with
   | false =>
     obtain rfl : false = P1 := by rw [← HPP.out]; simp
     clear HPP
     go_quiet (fail)
     go_wp2_with fail
     go_ret2
     exact ⟨rfl, BB6.out.trans (below_drewN' _ _)⟩
   | true =>
     have HPQ : Hid (((E.hi == f1) && (E.lo == f2)) = P1) := hidE (by rw [← HPP.out]; simp)
     clear HPP
     obtain ⟨u1, hu1⟩ : ∃ t, (E.hi == f1) = t := ⟨_, rfl⟩
     obtain ⟨u2, hu2⟩ : ∃ t, (E.lo == f2) = t := ⟨_, rfl⟩
     rw [hu1, hu2] at HPQ
     refine wp_region_F (S := fun V => V.heap[w.heap.size + 1]? = some (.cells #[.int .i64 N, .slice a bs.length cap] 24 (0,0)) ∧ V.heap[w.heap.size + 1 + 1]? = some (.cells #[.int .i64 E.lo, .int .i64 E.hi, .slice z.a2 E.yl.length z.c2, .slice z.a3 E.yh.length z.c3, .slice z.a4 E.fl.length z.c4, .slice z.a5 E.fh.length z.c5] 76 (0,0)) ∧ V.heap[g]? = some (.cells (rowA wt) 3 (0,0))) (last := 100) (by kernel_rfl) ?_
     have hS0 : W6.drew.heap[w.heap.size + 1]? = some (.cells #[.int .i64 N, .slice a bs.length cap] 24 (0,0)) ∧ W6.drew.heap[w.heap.size + 1 + 1]? = some (.cells #[.int .i64 E.lo, .int .i64 E.hi, .slice z.a2 E.yl.length z.c2, .slice z.a3 E.yh.length z.c3, .slice z.a4 E.fl.length z.c4, .slice z.a5 E.fh.length z.c5] 76 (0,0)) ∧ W6.drew.heap[g]? = some (.cells (rowA wt) 3 (0,0)) := ⟨XS6.out, XE6.out, WG6.out⟩
     refine t_n 0 56 (.bool true) rfl (by kernel_rfl) rfl (fun _ _ _ h => h) (fun V hV => ?_) hS0 ?_
     ·simp [go_sem, execOp]
     try simp only [s_a, s_b, s_c]
     refine t_n 1 57 (.bool true) rfl (by kernel_rfl) rfl (fun _ _ _ h => h) (fun V hV => ?_) hS0 ?_
     ·simp [go_sem, execOp]
     try simp only [s_a, s_b, s_c]
     refine t_n 2 58 (.bool true) rfl (by kernel_rfl) rfl (fun _ _ _ h => h) (fun V hV => ?_) hS0 ?_
     ·simp [go_sem, execOp]
     try simp only [s_a, s_b, s_c]
     refine t_n 3 59 (.bool true) rfl (by kernel_rfl) rfl (fun _ _ _ h => h) (fun V hV => ?_) hS0 ?_
     ·simp [go_sem, execOp]
     try simp only [s_a, s_b, s_c]
     refine t_n 4 60 (.bool true) rfl (by kernel_rfl) rfl (fun _ _ _ h => h) (fun V hV => ?_) hS0 ?_
     ·simp [go_sem, execOp]
     try simp only [s_a, s_b, s_c]
     refine t_n 5 61 (.pointer (some ⟨w.heap.size + 1 + 1, 1, none⟩)) rfl (by kernel_rfl) rfl (fun _ _ _ h => h) (fun V hV => ?_) hS0 ?_
     ·simp [go_sem, execOp]
     try simp only [s_a, s_b, s_c]
     refine t_n 6 62 (.int .i64 E.hi) rfl (by kernel_rfl) rfl (fun _ _ _ h => h) (fun V hV => ?_) hS0 ?_
     ·have z0 : V.cell? ⟨w.heap.size + 1 + 1, 1, none⟩ = some (.int .i64 E.hi) := c_e hV.2.1 rfl
      simp [go_sem, execOp, z0]
     try simp only [s_a, s_b, s_c]
     refine t_n 7 63 (.slice (some ⟨g, 0, none⟩) wt.length wt.length) rfl (by kernel_rfl) rfl (fun _ _ _ h => h) (fun V hV => ?_) hS0 ?_
     ·simp [go_sem, execOp]
     try simp only [s_a, s_b, s_c]
     refine t_n 8 64 (.pointer (some ⟨w.heap.size + 1 + 1, 3, none⟩)) rfl (by kernel_rfl) rfl (fun _ _ _ h => h) (fun V hV => ?_) hS0 ?_
     ·simp [go_sem, execOp]
     try simp only [s_a, s_b, s_c]
     refine t_n 9 65 (.slice z.a3 E.yh.length z.c3) rfl (by kernel_rfl) rfl (fun _ _ _ h => h) (fun V hV => ?_) hS0 ?_
     ·have z0 : V.cell? ⟨w.heap.size + 1 + 1, 3, none⟩ = some (.slice z.a3 E.yh.length z.c3) := c_e hV.2.1 rfl
      simp [go_sem, execOp, z0]
     try simp only [s_a, s_b, s_c]
     refine wpAnyF_step 10 rfl (by kernel_rfl) (fun K hK => ?_)
     have hc := HFO.out W6.drew g z.a3 z.c3 E.yh WG6.out (EE6.out.p3.below (Below.refl _ _).drew (Nat.le_refl _)) HVV.out.1
     rw [HF1.out] at hc
     have HC := hidE hc
     clear hc
     go_simp
     go_at_call 107
     refine HC.out.mono ?_
     rintro e W ⟨rfl, rfl⟩
     clear HC
     go_wp2_with fail
     refine hK.out _ _ (.inr hS0) ?_
     clear hK K
     try simp only [Act.put, s_a, s_b, s_c]
     refine t_n 11 67 (.bool u1) rfl (by kernel_rfl) rfl (fun _ _ _ h => h) (fun V hV => ?_) hS0 ?_
     ·simp [go_sem, execOp, hu1]
     try simp only [s_a, s_b, s_c]
     refine t_n 12 68 (.bool u1) rfl (by kernel_rfl) rfl (fun _ _ _ h => h) (fun V hV => ?_) hS0 ?_
     ·simp [go_sem, execOp]
     try simp only [s_a, s_b, s_c]
     refine t_n 13 69 (.bool u1) rfl (by kernel_rfl) rfl (fun _ _ _ h => h) (fun V hV => ?_) hS0 ?_
     ·simp [go_sem, execOp]
     try simp only [s_a, s_b, s_c]
     cases u1 with
     | false =>
       refine wpAnyN_takeD (i := 14) (d := 70) (v := undef) (by decide) rfl rfl (by kernel_rfl) (by kernel_rfl) (by kernel_rfl) (fun _ _ _ h => h) (.inr ⟨by kernel_rfl, rfl⟩) hS0 ?_
       try simp only [s_a, s_b, s_c]
       refine wpAnyN_takeD (i := 15) (d := 71) (v := undef) (by decide) rfl rfl (by kernel_rfl) (by kernel_rfl) (by kernel_rfl) (fun _ _ _ h => h) (.inr ⟨by kernel_rfl, rfl⟩) hS0 ?_
       try simp only [s_a, s_b, s_c]
       refine wpAnyN_takeD (i := 16) (d := 72) (v := undef) (by decide) rfl rfl (by kernel_rfl) (by kernel_rfl) (by kernel_rfl) (fun _ _ _ h => h) (.inr ⟨by kernel_rfl, rfl⟩) hS0 ?_
       try simp only [s_a, s_b, s_c]
       refine wpAnyN_takeD (i := 17) (d := 73) (v := undef) (by decide) rfl rfl (by kernel_rfl) (by kernel_rfl) (by kernel_rfl) (fun _ _ _ h => h) (.inr ⟨by kernel_rfl, rfl⟩) hS0 ?_
       try simp only [s_a, s_b, s_c]
       refine wpAnyN_takeD (i := 18) (d := 74) (v := undef) (by decide) rfl rfl (by kernel_rfl) (by kernel_rfl) (by kernel_rfl) (fun _ _ _ h => h) (.inr ⟨by kernel_rfl, rfl⟩) hS0 ?_
       try simp only [s_a, s_b, s_c]
       refine wpAnyN_takeD (i := 19) (d := 75) (v := undef) (by decide) rfl rfl (by kernel_rfl) (by kernel_rfl) (by kernel_rfl) (fun _ _ _ h => h) (.inr ⟨by kernel_rfl, rfl⟩) hS0 ?_
       try simp only [s_a, s_b, s_c]
       refine wpAnyN_takeD (i := 20) (d := 76) (v := undef) (by decide) rfl rfl (by kernel_rfl) (by kernel_rfl) (by kernel_rfl) (fun _ _ _ h => h) (.inr ⟨by kernel_rfl, rfl⟩) hS0 ?_
       try simp only [s_a, s_b, s_c]
       refine t_n 21 77 (.bool false) rfl (by kernel_rfl) rfl (fun _ _ _ h => h) (fun V hV => ?_) hS0 ?_
       ·simp [go_sem, execOp]
       try simp only [s_a, s_b, s_c]
       refine t_n 22 8 (.bool false) rfl (by kernel_rfl) rfl (fun _ _ _ h => h) (fun V hV => ?_) hS0 ?_
       ·simp [go_sem, execOp]
       try simp only [s_a, s_b, s_c]
       refine t_n 23 9 (.int .i64 0) rfl (by kernel_rfl) rfl (fun _ _ _ h => h) (fun V hV => ?_) hS0 ?_
       ·simp [go_sem, execOp]
       try simp only [s_a, s_b, s_c]
       obtain rfl : false = P1 := by rw [← HPQ.out]; rfl
       refine wpAnyF_done (by kernel_rfl) ?_ _
       go_wp2_with fail
       go_ret2
       exact ⟨rfl, BB6.out.drew⟩
     | true =>
       refine t_n 14 70 (.pointer (some ⟨w.heap.size + 1 + 1, 0, none⟩)) rfl (by kernel_rfl) rfl (fun _ _ _ h => h) (fun V hV => ?_) hS0 ?_
       ·simp [go_sem, execOp]
       try simp only [s_a, s_b, s_c]
       refine t_n 15 71 (.int .i64 E.lo) rfl (by kernel_rfl) rfl (fun _ _ _ h => h) (fun V hV => ?_) hS0 ?_
       ·have z0 : V.cell? ⟨w.heap.size + 1 + 1, 0, none⟩ = some (.int .i64 E.lo) := c_e hV.2.1 rfl
        simp [go_sem, execOp, z0]
       try simp only [s_a, s_b, s_c]
       refine t_n 16 72 (.slice (some ⟨g, 0, none⟩) wt.length wt.length) rfl (by kernel_rfl) rfl (fun _ _ _ h => h) (fun V hV => ?_) hS0 ?_
       ·simp [go_sem, execOp]
       try simp only [s_a, s_b, s_c]
       refine t_n 17 73 (.pointer (some ⟨w.heap.size + 1 + 1, 2, none⟩)) rfl (by kernel_rfl) rfl (fun _ _ _ h => h) (fun V hV => ?_) hS0 ?_
       ·simp [go_sem, execOp]
       try simp only [s_a, s_b, s_c]
       refine t_n 18 74 (.slice z.a2 E.yl.length z.c2) rfl (by kernel_rfl) rfl (fun _ _ _ h => h) (fun V hV => ?_) hS0 ?_
       ·have z0 : V.cell? ⟨w.heap.size + 1 + 1, 2, none⟩ = some (.slice z.a2 E.yl.length z.c2) := c_e hV.2.1 rfl
        simp [go_sem, execOp, z0]
       try simp only [s_a, s_b, s_c]
       refine wpAnyF_step 19 rfl (by kernel_rfl) (fun K hK => ?_)
       have hc := HFO.out W6.drew g z.a2 z.c2 E.yl WG6.out (EE6.out.p2.below (Below.refl _ _).drew (Nat.le_refl _)) HVV.out.2
       rw [HF2.out] at hc
       have HC := hidE hc
       clear hc
       go_simp
       go_at_call 107
       refine HC.out.mono ?_
       rintro e W ⟨rfl, rfl⟩
       clear HC
       go_wp2_with fail
       refine hK.out _ _ (.inr hS0) ?_
       clear hK K
       try simp only [Act.put, s_a, s_b, s_c]
       refine t_n 20 76 (.bool u2) rfl (by kernel_rfl) rfl (fun _ _ _ h => h) (fun V hV => ?_) hS0 ?_
       ·simp [go_sem, execOp, hu2]
       try simp only [s_a, s_b, s_c]
       refine t_n 21 77 (.bool u2) rfl (by kernel_rfl) rfl (fun _ _ _ h => h) (fun V hV => ?_) hS0 ?_
       ·simp [go_sem, execOp]
       try simp only [s_a, s_b, s_c]
       refine t_n 22 8 (.bool u2) rfl (by kernel_rfl) rfl (fun _ _ _ h => h) (fun V hV => ?_) hS0 ?_
       ·simp [go_sem, execOp]
       try simp only [s_a, s_b, s_c]
       refine t_n 23 9 (.int .i64 0) rfl (by kernel_rfl) rfl (fun _ _ _ h => h) (fun V hV => ?_) hS0 ?_
       ·simp [go_sem, execOp]
       try simp only [s_a, s_b, s_c]
       obtain rfl : u2 = P1 := by rw [← HPQ.out]; simp
       refine wpAnyF_done (by kernel_rfl) ?_ _
       go_wp2_with fail
       go_ret2
       exact ⟨rfl, BB6.out.drew⟩
set_option maxRecDepth 100000 in
set_option maxHeartbeats 16000000 in
theorem rextE_any (w : World) (x : FV) (F : Fld) (N : Int) (a : Option Addr) (cap : Nat) (bs : List Bd) (i : Int) (z : EV) (E : Ext) (hF : FldAt w x F) (hN : i64ok N) (hl : bs.length ≤ 9223372036854775807) (h : BoundsAt w a bs) (hE : ExtAt w z E) :
 Calls Tryz.prog 69 #[x.val F, .agg #[.int .i64 N, .slice a bs.length cap], .int .i64 i, z.val E] w fun e w' => e = .returned (.tuple #[.bool (ext5 F N bs i E).1, .int .i64 (ext5 F N bs i E).2]) ∧ Below w.heap.size w w' := by
 obtain ⟨W0, hW0⟩ : ∃ W0, W0 = ((w.alloc (.cells (x.arr F) 46)).alloc (.cells #[.int .i64 N, .slice a bs.length cap] 24)).alloc (.cells (z.arr E) 76) := ⟨_, rfl⟩
 have BB0 : Hid (Below w.heap.size w W0) := hidE (by rw [hW0]; exact (((Below.refl _ _).alloc (Nat.le_refl _) _).alloc (by simp) _).alloc (by simp; omega) _)
 have FF0 : Hid (FldAt W0 x F) := hidE (hF.below BB0.out)
 have SS0 : Hid (BoundsAt W0 a bs) := hidE (h.below BB0.out (Nat.le_refl _))
 have EE0 : Hid (ExtAt W0 z E) := hidE (hE.below BB0.out)
 have XF0 : Hid (W0.heap[w.heap.size]? = some (.cells (x.arr F) 46 (0,0))) := hidE (by rw [hW0]; exact (Below.heap_alloc _ _ _ (by simp; omega)).trans (heap_alloc2_old _ _ _))
 have XS0 : Hid (W0.heap[w.heap.size + 1]? = some (.cells #[.int .i64 N, .slice a bs.length cap] 24 (0,0))) := hidE (by rw [hW0]; exact (Below.heap_alloc _ _ _ (by simp)).trans (by rw [heap_alloc2_new]))
 have XE0 : Hid (W0.heap[w.heap.size + 1 + 1]? = some (.cells (z.arr E) 76 (0,0))) := hidE (by
  have q := heap_alloc_new ((w.alloc (.cells (x.arr F) 46)).alloc (.cells #[.int .i64 N, .slice a bs.length cap] 24)) (.cells (z.arr E) 76)
  have hs : ((w.alloc (.cells (x.arr F) 46)).alloc (.cells #[.int .i64 N, .slice a bs.length cap] 24)).heap.size = w.heap.size + 1 + 1 := by simp
  rw [hs] at q
  rw [hW0]; exact q)
 have HFT := hidE (fun (W : World) (hf : FldAt W x F) (hs : BoundsAt W a bs) => fitted_any (W.alloc (.cells #[.int .i64 i] 3)) x F N a cap bs (some ⟨W.heap.size, 0, none⟩) 1 [i] (hf.alloc _) hN hl (hs.alloc _) (by simp) (ints_single W i))
 have HN := hidE hN
 obtain ⟨P1, hP1⟩ : ∃ t, (ext5 F N bs i E).1 = t := ⟨_, rfl⟩
 obtain ⟨P2, hP2⟩ : ∃ t, (ext5 F N bs i E).2 = t := ⟨_, rfl⟩
 rw [hP1, hP2]
 unfold ext5 at hP1 hP2
 clear hF h hE hN
 by_cases hf : fitE F N bs [i] = 0
 rotate_left
 ·rw [if_pos hf] at hP1 hP2
  obtain rfl : false = P1 := hP1
  obtain rfl : fitE F N bs [i] = P2 := hP2
  obtain ⟨c, hc⟩ : ∃ c, fitE F N bs [i] = c := ⟨_, rfl⟩
  rw [hc] at hf HFT ⊢
  have hzb : (c != 0) = true := by simpa using hf
  clear hf hc
  unfold FV.val FV.arr EV.val EV.arr at *
  go_enter Tryz.func69, Tryz.ntmps69
  go_upto_region 1 with fail
  rw [← hW0]
  clear hW0
  have f0 : W0.cell? ⟨w.heap.size, 0, none⟩ = some (.slice x.aS F.sts.length x.cS) := c_e XF0.out rfl
  have f1 : W0.cell? ⟨w.heap.size, 1, none⟩ = some (.slice x.aL F.lms.length x.cL) := c_e XF0.out rfl
  have f2 : W0.cell? ⟨w.heap.size, 2, none⟩ = some (.slice x.aP F.prs.length x.cP) := c_e XF0.out rfl
  have f3 : W0.cell? ⟨w.heap.size, 3, none⟩ = some (.slice x.aV F.vrs.length x.cV) := c_e XF0.out rfl
  have s0 : W0.cell? ⟨w.heap.size + 1, 0, none⟩ = some (.int .i64 N) := c_e XS0.out rfl
  have s1 : W0.cell? ⟨w.heap.size + 1, 1, none⟩ = some (.slice a bs.length cap) := c_e XS0.out rfl
  have hc := HFT.out W0 FF0.out SS0.out
  have HC := hidE (hc)
  go_wp2_with fail
  refine HC.out.mono ?_
  rintro e W1 ⟨rfl, hbx⟩
  clear HC f0 f1 f2 f3 s0 s1 hc
  have hb : Below W0.heap.size W0 W1 := ((Below.refl _ W0).alloc (Nat.le_refl _) _).trans (hbx.mono (by simp))
  have BB1 : Hid (Below w.heap.size w W1) := hidE (BB0.out.trans (hb.mono BB0.out.size))
  have FF1 : Hid (FldAt W1 x F) := hidE (FF0.out.below hb)
  have SS1 : Hid (BoundsAt W1 a bs) := hidE (SS0.out.below hb (Nat.le_refl _))
  have EE1 : Hid (ExtAt W1 z E) := hidE (EE0.out.below hb)
  have XF1 : Hid (W1.heap[w.heap.size]? = some (.cells #[.slice x.aS F.sts.length x.cS, .slice x.aL F.lms.length x.cL, .slice x.aP F.prs.length x.cP, .slice x.aV F.vrs.length x.cV] 46 (0,0))) := hidE (blk_below hb (lt_of_block XF0.out) XF0.out)
  have XS1 : Hid (W1.heap[w.heap.size + 1]? = some (.cells #[.int .i64 N, .slice a bs.length cap] 24 (0,0))) := hidE (blk_below hb (lt_of_block XS0.out) XS0.out)
  have XE1 : Hid (W1.heap[w.heap.size + 1 + 1]? = some (.cells #[.int .i64 E.lo, .int .i64 E.hi, .slice z.a2 E.yl.length z.c2, .slice z.a3 E.yh.length z.c3, .slice z.a4 E.fl.length z.c4, .slice z.a5 E.fh.length z.c5] 76 (0,0))) := hidE (blk_below hb (lt_of_block XE0.out) XE0.out)
  clear hb BB0 FF0 SS0 EE0 XF0 XS0 XE0
  clear hbx
  go_wp2_with fail
  go_ret2
  exact ⟨rfl, BB1.out⟩
 rw [if_neg (fun q => q hf)] at hP1 hP2
 rw [hf] at HFT
 obtain ⟨hc, hck, rfl, hfd⟩ := fit0 hf
 obtain ⟨_, n, rfl, hn, hpar⟩ := fielded_one hfd
 have hin := check0_inside hc (List.getElem_mem hn)
 have HWT := hidE (fun (W : World) (hf : FldAt W x F) => rweights_any W x F n hc hn hf)
 have hwl := weightsOf_len F F.prs[n]
 have hwb := weightsOf_bd hc hin
 have hpn := points_nat hc
 rw [hpar] at hP1 hP2
 obtain ⟨wt, hwt⟩ : ∃ t, weightsOf F F.prs[n] = t := ⟨_, rfl⟩
 rw [hwt] at hP1 hP2 HWT hwl hwb
 rw [← hwl] at HWT
 have hwb2 : ∀ v ∈ wt, -1000000 ≤ v ∧ v ≤ 1000000 := fun v hv => by
  obtain ⟨j, hj, rfl⟩ := List.getElem_of_mem hv
  have := hwb j
  rw [getD_get _ 0 hj] at this
  omega
 have HWB := hidE hwb2
 have hw121 : wt.length ≤ 121 := by omega
 obtain ⟨N, hN⟩ : ∃ N : Nat, F.points = N := ⟨F.points.toNat, by omega⟩
 have hwN : wt.length = N := by omega
 have hN1 : (1 : Int) ≤ N := by omega
 have HLN := hidE hwN
 rw [hN] at hP1 hP2 HFT HN XS0 hW0 hck ⊢
 rw [Int.toNat_natCast] at hP1 hP2
 obtain ⟨n2, en, k1, k2, k3, k4⟩ := allOk_of hck
 obtain rfl : n2 = N := by omega
 have HK4 := hidE k4
 have hnl : (negL wt).length = wt.length := by unfold negL; simp
 have HNL := hidE hnl
 have HNB : Hid (∀ v ∈ negL wt, -1000000 ≤ v ∧ v ≤ 1000000) := hidE (fun v hv => by
  obtain ⟨u, hu, rfl⟩ := List.mem_map.1 hv
  have := HWB.out u hu
  omega)
 have HB1 := hidE (fun (W : World) (hs : BoundsAt W a bs) (he : ExtAt W z E) (g : Nat) (hg : W.heap[g]? = some (.cells (rowA wt) 3 (0,0))) => refbest_any W n2 a cap bs (some ⟨g, 0, none⟩) wt.length wt z.a3 z.c3 E.yh z.a5 z.c5 E.fh k2 k3 hs hwN (ints_of_row hg) he.l3 he.p3 he.l5 he.p5 HK4.out HWB.out)
 have HB2 := hidE (fun (W : World) (hs : BoundsAt W a bs) (he : ExtAt W z E) (oo : Option Addr) (co : Nat) (hi : IntsAt W oo (negL wt)) => show Calls Tryz.prog 82 #[.agg #[.int .i64 (n2 : Int), .slice a bs.length cap], .slice oo wt.length co, .slice z.a2 E.yl.length z.c2, .slice z.a4 E.fl.length z.c4] W _ by
  have q := refbest_any W n2 a cap bs oo co (negL wt) z.a2 z.c2 E.yl z.a4 z.c4 E.fl k2 k3 hs (by rw [HNL.out]; exact HLN.out) hi he.l2 he.p2 he.l4 he.p4 HK4.out HNB.out
  rw [HNL.out] at q
  exact q)
 have HOP := hidE (fun (W : World) (g : Nat) (hg : W.heap[g]? = some (.cells (rowA wt) 3 (0,0))) => ropposite_any W (some ⟨g, 0, none⟩) wt.length wt (by omega) (ints_of_row hg) HWB.out)
 have HVA := hidE (fun (W : World) (he : ExtAt W z E) => refvalued_any W (n2 : Int) z.a3 z.c3 E.yh hN1 he.l3 he.p3)
 have HVB := hidE (fun (W : World) (he : ExtAt W z E) => refvalued_any W (n2 : Int) z.a2 z.c2 E.yl hN1 he.l2 he.p2)
 have HFO := hidE (fun (W : World) (g : Nat) (zA : Option Addr) (zc : Nat) (y : List Int) (hg : W.heap[g]? = some (.cells (rowA wt) 3 (0,0))) (hy : IntsAt W zA y) (hv : valuesB (n2 : Int) y = true) => refform_any W (some ⟨g, 0, none⟩) wt.length wt zA zc y (by omega) (by have := (valuesB_iff.1 hv).1; have := HLN.out; omega) (ints_of_row hg) hy HWB.out (valuesB_iff.1 hv).2.2)
 obtain ⟨b1, hb1⟩ : ∃ t, best5B n2 bs wt E.yh E.fh = t := ⟨_, rfl⟩
 obtain ⟨b2, hb2⟩ : ∃ t, best5B n2 bs (negL wt) E.yl E.fl = t := ⟨_, rfl⟩
 rw [hb1] at HB1
 rw [hb2] at HB2
 rw [hb1, hb2] at hP1 hP2
 obtain ⟨f1, hf1⟩ : ∃ t, formP wt E.yh = t := ⟨_, rfl⟩
 obtain ⟨f2, hf2⟩ : ∃ t, formP wt E.yl = t := ⟨_, rfl⟩
 rw [hf1, hf2] at hP1
 have HF1 := hidE hf1
 have HF2 := hidE hf2
 clear hc hck hfd hn hpar hin hwt hwl hwb hwb2 hN hb1 hb2 hf1 hf2 hf hpn hwN en k4 hnl k1 k2 k3 hN1
 cases hv1 : valuesB (n2 : Int) E.yh with
 | false =>
   rw [if_pos (.inl hv1)] at hP1 hP2
   obtain rfl : false = P1 := hP1
   obtain rfl : (1 : Int) = P2 := hP2
   rw [hv1] at HVA
   clear hv1
   unfold FV.val FV.arr EV.val EV.arr at *
   go_enter Tryz.func69, Tryz.ntmps69
   go_upto_region 1 with fail
   rw [← hW0]
   clear hW0
   have f0 : W0.cell? ⟨w.heap.size, 0, none⟩ = some (.slice x.aS F.sts.length x.cS) := c_e XF0.out rfl
   have f1 : W0.cell? ⟨w.heap.size, 1, none⟩ = some (.slice x.aL F.lms.length x.cL) := c_e XF0.out rfl
   have f2 : W0.cell? ⟨w.heap.size, 2, none⟩ = some (.slice x.aP F.prs.length x.cP) := c_e XF0.out rfl
   have f3 : W0.cell? ⟨w.heap.size, 3, none⟩ = some (.slice x.aV F.vrs.length x.cV) := c_e XF0.out rfl
   have s0 : W0.cell? ⟨w.heap.size + 1, 0, none⟩ = some (.int .i64 (n2 : Int)) := c_e XS0.out rfl
   have s1 : W0.cell? ⟨w.heap.size + 1, 1, none⟩ = some (.slice a bs.length cap) := c_e XS0.out rfl
   have hc := HFT.out W0 FF0.out SS0.out
   have HC := hidE (hc)
   go_wp2_with fail
   refine HC.out.mono ?_
   rintro e W1 ⟨rfl, hbx⟩
   clear HC f0 f1 f2 f3 s0 s1 hc
   have hb : Below W0.heap.size W0 W1 := ((Below.refl _ W0).alloc (Nat.le_refl _) _).trans (hbx.mono (by simp))
   have BB1 : Hid (Below w.heap.size w W1) := hidE (BB0.out.trans (hb.mono BB0.out.size))
   have FF1 : Hid (FldAt W1 x F) := hidE (FF0.out.below hb)
   have SS1 : Hid (BoundsAt W1 a bs) := hidE (SS0.out.below hb (Nat.le_refl _))
   have EE1 : Hid (ExtAt W1 z E) := hidE (EE0.out.below hb)
   have XF1 : Hid (W1.heap[w.heap.size]? = some (.cells #[.slice x.aS F.sts.length x.cS, .slice x.aL F.lms.length x.cL, .slice x.aP F.prs.length x.cP, .slice x.aV F.vrs.length x.cV] 46 (0,0))) := hidE (blk_below hb (lt_of_block XF0.out) XF0.out)
   have XS1 : Hid (W1.heap[w.heap.size + 1]? = some (.cells #[.int .i64 (n2 : Int), .slice a bs.length cap] 24 (0,0))) := hidE (blk_below hb (lt_of_block XS0.out) XS0.out)
   have XE1 : Hid (W1.heap[w.heap.size + 1 + 1]? = some (.cells #[.int .i64 E.lo, .int .i64 E.hi, .slice z.a2 E.yl.length z.c2, .slice z.a3 E.yh.length z.c3, .slice z.a4 E.fl.length z.c4, .slice z.a5 E.fh.length z.c5] 76 (0,0))) := hidE (blk_below hb (lt_of_block XE0.out) XE0.out)
   clear hb BB0 FF0 SS0 EE0 XF0 XS0 XE0
   clear hbx
   have f0 : W1.cell? ⟨w.heap.size, 0, none⟩ = some (.slice x.aS F.sts.length x.cS) := c_e XF1.out rfl
   have f1 : W1.cell? ⟨w.heap.size, 1, none⟩ = some (.slice x.aL F.lms.length x.cL) := c_e XF1.out rfl
   have f2 : W1.cell? ⟨w.heap.size, 2, none⟩ = some (.slice x.aP F.prs.length x.cP) := c_e XF1.out rfl
   have f3 : W1.cell? ⟨w.heap.size, 3, none⟩ = some (.slice x.aV F.vrs.length x.cV) := c_e XF1.out rfl
   have hc := HWT.out W1 FF1.out
   have HC := hidE (hc)
   go_wp2_with fail
   refine HC.out.mono ?_
   rintro e W2 ⟨g, rfl, hg, hgb, hbx⟩
   clear HC f0 f1 f2 f3 hc
   have hb : Below W1.heap.size W1 W2 := hbx
   have BB2 : Hid (Below w.heap.size w W2) := hidE (BB1.out.trans (hb.mono BB1.out.size))
   have FF2 : Hid (FldAt W2 x F) := hidE (FF1.out.below hb)
   have SS2 : Hid (BoundsAt W2 a bs) := hidE (SS1.out.below hb (Nat.le_refl _))
   have EE2 : Hid (ExtAt W2 z E) := hidE (EE1.out.below hb)
   have XF2 : Hid (W2.heap[w.heap.size]? = some (.cells #[.slice x.aS F.sts.length x.cS, .slice x.aL F.lms.length x.cL, .slice x.aP F.prs.length x.cP, .slice x.aV F.vrs.length x.cV] 46 (0,0))) := hidE (blk_below hb (lt_of_block XF1.out) XF1.out)
   have XS2 : Hid (W2.heap[w.heap.size + 1]? = some (.cells #[.int .i64 (n2 : Int), .slice a bs.length cap] 24 (0,0))) := hidE (blk_below hb (lt_of_block XS1.out) XS1.out)
   have XE2 : Hid (W2.heap[w.heap.size + 1 + 1]? = some (.cells #[.int .i64 E.lo, .int .i64 E.hi, .slice z.a2 E.yl.length z.c2, .slice z.a3 E.yh.length z.c3, .slice z.a4 E.fl.length z.c4, .slice z.a5 E.fh.length z.c5] 76 (0,0))) := hidE (blk_below hb (lt_of_block XE1.out) XE1.out)
   clear hb BB1 FF1 SS1 EE1 XF1 XS1 XE1
   clear hbx
   have WG2 := hidE hg
   clear hg hgb
   have s0 : W2.cell? ⟨w.heap.size + 1, 0, none⟩ = some (.int .i64 (n2 : Int)) := c_e XS2.out rfl
   have s1 : W2.cell? ⟨w.heap.size + 1, 1, none⟩ = some (.slice a bs.length cap) := c_e XS2.out rfl
   have t0 : W2.cell? ⟨w.heap.size + 1 + 1, 0, none⟩ = some (.int .i64 E.lo) := c_e XE2.out rfl
   have t1 : W2.cell? ⟨w.heap.size + 1 + 1, 1, none⟩ = some (.int .i64 E.hi) := c_e XE2.out rfl
   have t2 : W2.cell? ⟨w.heap.size + 1 + 1, 2, none⟩ = some (.slice z.a2 E.yl.length z.c2) := c_e XE2.out rfl
   have t3 : W2.cell? ⟨w.heap.size + 1 + 1, 3, none⟩ = some (.slice z.a3 E.yh.length z.c3) := c_e XE2.out rfl
   have t4 : W2.cell? ⟨w.heap.size + 1 + 1, 4, none⟩ = some (.slice z.a4 E.fl.length z.c4) := c_e XE2.out rfl
   have t5 : W2.cell? ⟨w.heap.size + 1 + 1, 5, none⟩ = some (.slice z.a5 E.fh.length z.c5) := c_e XE2.out rfl
   have hc := HVA.out W2 EE2.out
   have HC := hidE (hc)
   go_wp2_with fail
   refine HC.out.mono ?_
   rintro e W3 ⟨rfl, hbx⟩
   clear HC s0 s1 t0 t1 t2 t3 t4 t5 hc
   have hb : Below W2.heap.size W2 W3 := hbx
   have BB3 : Hid (Below w.heap.size w W3) := hidE (BB2.out.trans (hb.mono BB2.out.size))
   have FF3 : Hid (FldAt W3 x F) := hidE (FF2.out.below hb)
   have SS3 : Hid (BoundsAt W3 a bs) := hidE (SS2.out.below hb (Nat.le_refl _))
   have EE3 : Hid (ExtAt W3 z E) := hidE (EE2.out.below hb)
   have XF3 : Hid (W3.heap[w.heap.size]? = some (.cells #[.slice x.aS F.sts.length x.cS, .slice x.aL F.lms.length x.cL, .slice x.aP F.prs.length x.cP, .slice x.aV F.vrs.length x.cV] 46 (0,0))) := hidE (blk_below hb (lt_of_block XF2.out) XF2.out)
   have XS3 : Hid (W3.heap[w.heap.size + 1]? = some (.cells #[.int .i64 (n2 : Int), .slice a bs.length cap] 24 (0,0))) := hidE (blk_below hb (lt_of_block XS2.out) XS2.out)
   have XE3 : Hid (W3.heap[w.heap.size + 1 + 1]? = some (.cells #[.int .i64 E.lo, .int .i64 E.hi, .slice z.a2 E.yl.length z.c2, .slice z.a3 E.yh.length z.c3, .slice z.a4 E.fl.length z.c4, .slice z.a5 E.fh.length z.c5] 76 (0,0))) := hidE (blk_below hb (lt_of_block XE2.out) XE2.out)
   have WG3 : Hid (W3.heap[g]? = some (.cells (rowA wt) 3 (0,0))) := hidE (blk_below hb (lt_of_block WG2.out) WG2.out)
   clear hb BB2 FF2 SS2 EE2 XF2 XS2 XE2 WG2
   clear hbx
   go_wp2_with fail
   go_ret2
   exact ⟨rfl, BB3.out⟩
 | true =>
   rw [hv1] at HVA
   cases hv2 : valuesB (n2 : Int) E.yl with
   | false =>
     rw [if_pos (.inr hv2)] at hP1 hP2
     obtain rfl : false = P1 := hP1
     obtain rfl : (1 : Int) = P2 := hP2
     rw [hv2] at HVB
     clear hv1 hv2
     unfold FV.val FV.arr EV.val EV.arr at *
     go_enter Tryz.func69, Tryz.ntmps69
     go_upto_region 1 with fail
     rw [← hW0]
     clear hW0
     have f0 : W0.cell? ⟨w.heap.size, 0, none⟩ = some (.slice x.aS F.sts.length x.cS) := c_e XF0.out rfl
     have f1 : W0.cell? ⟨w.heap.size, 1, none⟩ = some (.slice x.aL F.lms.length x.cL) := c_e XF0.out rfl
     have f2 : W0.cell? ⟨w.heap.size, 2, none⟩ = some (.slice x.aP F.prs.length x.cP) := c_e XF0.out rfl
     have f3 : W0.cell? ⟨w.heap.size, 3, none⟩ = some (.slice x.aV F.vrs.length x.cV) := c_e XF0.out rfl
     have s0 : W0.cell? ⟨w.heap.size + 1, 0, none⟩ = some (.int .i64 (n2 : Int)) := c_e XS0.out rfl
     have s1 : W0.cell? ⟨w.heap.size + 1, 1, none⟩ = some (.slice a bs.length cap) := c_e XS0.out rfl
     have hc := HFT.out W0 FF0.out SS0.out
     have HC := hidE (hc)
     go_wp2_with fail
     refine HC.out.mono ?_
     rintro e W1 ⟨rfl, hbx⟩
     clear HC f0 f1 f2 f3 s0 s1 hc
     have hb : Below W0.heap.size W0 W1 := ((Below.refl _ W0).alloc (Nat.le_refl _) _).trans (hbx.mono (by simp))
     have BB1 : Hid (Below w.heap.size w W1) := hidE (BB0.out.trans (hb.mono BB0.out.size))
     have FF1 : Hid (FldAt W1 x F) := hidE (FF0.out.below hb)
     have SS1 : Hid (BoundsAt W1 a bs) := hidE (SS0.out.below hb (Nat.le_refl _))
     have EE1 : Hid (ExtAt W1 z E) := hidE (EE0.out.below hb)
     have XF1 : Hid (W1.heap[w.heap.size]? = some (.cells #[.slice x.aS F.sts.length x.cS, .slice x.aL F.lms.length x.cL, .slice x.aP F.prs.length x.cP, .slice x.aV F.vrs.length x.cV] 46 (0,0))) := hidE (blk_below hb (lt_of_block XF0.out) XF0.out)
     have XS1 : Hid (W1.heap[w.heap.size + 1]? = some (.cells #[.int .i64 (n2 : Int), .slice a bs.length cap] 24 (0,0))) := hidE (blk_below hb (lt_of_block XS0.out) XS0.out)
     have XE1 : Hid (W1.heap[w.heap.size + 1 + 1]? = some (.cells #[.int .i64 E.lo, .int .i64 E.hi, .slice z.a2 E.yl.length z.c2, .slice z.a3 E.yh.length z.c3, .slice z.a4 E.fl.length z.c4, .slice z.a5 E.fh.length z.c5] 76 (0,0))) := hidE (blk_below hb (lt_of_block XE0.out) XE0.out)
     clear hb BB0 FF0 SS0 EE0 XF0 XS0 XE0
     clear hbx
     have f0 : W1.cell? ⟨w.heap.size, 0, none⟩ = some (.slice x.aS F.sts.length x.cS) := c_e XF1.out rfl
     have f1 : W1.cell? ⟨w.heap.size, 1, none⟩ = some (.slice x.aL F.lms.length x.cL) := c_e XF1.out rfl
     have f2 : W1.cell? ⟨w.heap.size, 2, none⟩ = some (.slice x.aP F.prs.length x.cP) := c_e XF1.out rfl
     have f3 : W1.cell? ⟨w.heap.size, 3, none⟩ = some (.slice x.aV F.vrs.length x.cV) := c_e XF1.out rfl
     have hc := HWT.out W1 FF1.out
     have HC := hidE (hc)
     go_wp2_with fail
     refine HC.out.mono ?_
     rintro e W2 ⟨g, rfl, hg, hgb, hbx⟩
     clear HC f0 f1 f2 f3 hc
     have hb : Below W1.heap.size W1 W2 := hbx
     have BB2 : Hid (Below w.heap.size w W2) := hidE (BB1.out.trans (hb.mono BB1.out.size))
     have FF2 : Hid (FldAt W2 x F) := hidE (FF1.out.below hb)
     have SS2 : Hid (BoundsAt W2 a bs) := hidE (SS1.out.below hb (Nat.le_refl _))
     have EE2 : Hid (ExtAt W2 z E) := hidE (EE1.out.below hb)
     have XF2 : Hid (W2.heap[w.heap.size]? = some (.cells #[.slice x.aS F.sts.length x.cS, .slice x.aL F.lms.length x.cL, .slice x.aP F.prs.length x.cP, .slice x.aV F.vrs.length x.cV] 46 (0,0))) := hidE (blk_below hb (lt_of_block XF1.out) XF1.out)
     have XS2 : Hid (W2.heap[w.heap.size + 1]? = some (.cells #[.int .i64 (n2 : Int), .slice a bs.length cap] 24 (0,0))) := hidE (blk_below hb (lt_of_block XS1.out) XS1.out)
     have XE2 : Hid (W2.heap[w.heap.size + 1 + 1]? = some (.cells #[.int .i64 E.lo, .int .i64 E.hi, .slice z.a2 E.yl.length z.c2, .slice z.a3 E.yh.length z.c3, .slice z.a4 E.fl.length z.c4, .slice z.a5 E.fh.length z.c5] 76 (0,0))) := hidE (blk_below hb (lt_of_block XE1.out) XE1.out)
     clear hb BB1 FF1 SS1 EE1 XF1 XS1 XE1
     clear hbx
     have WG2 := hidE hg
     clear hg hgb
     have s0 : W2.cell? ⟨w.heap.size + 1, 0, none⟩ = some (.int .i64 (n2 : Int)) := c_e XS2.out rfl
     have s1 : W2.cell? ⟨w.heap.size + 1, 1, none⟩ = some (.slice a bs.length cap) := c_e XS2.out rfl
     have t0 : W2.cell? ⟨w.heap.size + 1 + 1, 0, none⟩ = some (.int .i64 E.lo) := c_e XE2.out rfl
     have t1 : W2.cell? ⟨w.heap.size + 1 + 1, 1, none⟩ = some (.int .i64 E.hi) := c_e XE2.out rfl
     have t2 : W2.cell? ⟨w.heap.size + 1 + 1, 2, none⟩ = some (.slice z.a2 E.yl.length z.c2) := c_e XE2.out rfl
     have t3 : W2.cell? ⟨w.heap.size + 1 + 1, 3, none⟩ = some (.slice z.a3 E.yh.length z.c3) := c_e XE2.out rfl
     have t4 : W2.cell? ⟨w.heap.size + 1 + 1, 4, none⟩ = some (.slice z.a4 E.fl.length z.c4) := c_e XE2.out rfl
     have t5 : W2.cell? ⟨w.heap.size + 1 + 1, 5, none⟩ = some (.slice z.a5 E.fh.length z.c5) := c_e XE2.out rfl
     have hc := HVA.out W2 EE2.out
     have HC := hidE (hc)
     go_wp2_with fail
     refine HC.out.mono ?_
     rintro e W3 ⟨rfl, hbx⟩
     clear HC s0 s1 t0 t1 t2 t3 t4 t5 hc
     have hb : Below W2.heap.size W2 W3 := hbx
     have BB3 : Hid (Below w.heap.size w W3) := hidE (BB2.out.trans (hb.mono BB2.out.size))
     have FF3 : Hid (FldAt W3 x F) := hidE (FF2.out.below hb)
     have SS3 : Hid (BoundsAt W3 a bs) := hidE (SS2.out.below hb (Nat.le_refl _))
     have EE3 : Hid (ExtAt W3 z E) := hidE (EE2.out.below hb)
     have XF3 : Hid (W3.heap[w.heap.size]? = some (.cells #[.slice x.aS F.sts.length x.cS, .slice x.aL F.lms.length x.cL, .slice x.aP F.prs.length x.cP, .slice x.aV F.vrs.length x.cV] 46 (0,0))) := hidE (blk_below hb (lt_of_block XF2.out) XF2.out)
     have XS3 : Hid (W3.heap[w.heap.size + 1]? = some (.cells #[.int .i64 (n2 : Int), .slice a bs.length cap] 24 (0,0))) := hidE (blk_below hb (lt_of_block XS2.out) XS2.out)
     have XE3 : Hid (W3.heap[w.heap.size + 1 + 1]? = some (.cells #[.int .i64 E.lo, .int .i64 E.hi, .slice z.a2 E.yl.length z.c2, .slice z.a3 E.yh.length z.c3, .slice z.a4 E.fl.length z.c4, .slice z.a5 E.fh.length z.c5] 76 (0,0))) := hidE (blk_below hb (lt_of_block XE2.out) XE2.out)
     have WG3 : Hid (W3.heap[g]? = some (.cells (rowA wt) 3 (0,0))) := hidE (blk_below hb (lt_of_block WG2.out) WG2.out)
     clear hb BB2 FF2 SS2 EE2 XF2 XS2 XE2 WG2
     clear hbx
     have s0 : W3.cell? ⟨w.heap.size + 1, 0, none⟩ = some (.int .i64 (n2 : Int)) := c_e XS3.out rfl
     have s1 : W3.cell? ⟨w.heap.size + 1, 1, none⟩ = some (.slice a bs.length cap) := c_e XS3.out rfl
     have t0 : W3.cell? ⟨w.heap.size + 1 + 1, 0, none⟩ = some (.int .i64 E.lo) := c_e XE3.out rfl
     have t1 : W3.cell? ⟨w.heap.size + 1 + 1, 1, none⟩ = some (.int .i64 E.hi) := c_e XE3.out rfl
     have t2 : W3.cell? ⟨w.heap.size + 1 + 1, 2, none⟩ = some (.slice z.a2 E.yl.length z.c2) := c_e XE3.out rfl
     have t3 : W3.cell? ⟨w.heap.size + 1 + 1, 3, none⟩ = some (.slice z.a3 E.yh.length z.c3) := c_e XE3.out rfl
     have t4 : W3.cell? ⟨w.heap.size + 1 + 1, 4, none⟩ = some (.slice z.a4 E.fl.length z.c4) := c_e XE3.out rfl
     have t5 : W3.cell? ⟨w.heap.size + 1 + 1, 5, none⟩ = some (.slice z.a5 E.fh.length z.c5) := c_e XE3.out rfl
     have hc := HVB.out W3 EE3.out
     have HC := hidE (hc)
     go_wp2_with fail
     refine HC.out.mono ?_
     rintro e W4 ⟨rfl, hbx⟩
     clear HC s0 s1 t0 t1 t2 t3 t4 t5 hc
     have hb : Below W3.heap.size W3 W4 := hbx
     have BB4 : Hid (Below w.heap.size w W4) := hidE (BB3.out.trans (hb.mono BB3.out.size))
     have FF4 : Hid (FldAt W4 x F) := hidE (FF3.out.below hb)
     have SS4 : Hid (BoundsAt W4 a bs) := hidE (SS3.out.below hb (Nat.le_refl _))
     have EE4 : Hid (ExtAt W4 z E) := hidE (EE3.out.below hb)
     have XF4 : Hid (W4.heap[w.heap.size]? = some (.cells #[.slice x.aS F.sts.length x.cS, .slice x.aL F.lms.length x.cL, .slice x.aP F.prs.length x.cP, .slice x.aV F.vrs.length x.cV] 46 (0,0))) := hidE (blk_below hb (lt_of_block XF3.out) XF3.out)
     have XS4 : Hid (W4.heap[w.heap.size + 1]? = some (.cells #[.int .i64 (n2 : Int), .slice a bs.length cap] 24 (0,0))) := hidE (blk_below hb (lt_of_block XS3.out) XS3.out)
     have XE4 : Hid (W4.heap[w.heap.size + 1 + 1]? = some (.cells #[.int .i64 E.lo, .int .i64 E.hi, .slice z.a2 E.yl.length z.c2, .slice z.a3 E.yh.length z.c3, .slice z.a4 E.fl.length z.c4, .slice z.a5 E.fh.length z.c5] 76 (0,0))) := hidE (blk_below hb (lt_of_block XE3.out) XE3.out)
     have WG4 : Hid (W4.heap[g]? = some (.cells (rowA wt) 3 (0,0))) := hidE (blk_below hb (lt_of_block WG3.out) WG3.out)
     clear hb BB3 FF3 SS3 EE3 XF3 XS3 XE3 WG3
     clear hbx
     go_wp2_with fail
     go_ret2
     exact ⟨rfl, BB4.out⟩
   | true =>
     rw [hv2] at HVB
     rw [if_neg (by simp [hv1, hv2])] at hP1 hP2
     obtain rfl : (0 : Int) = P2 := hP2
     have HPP := hidE hP1
     have HVV := hidE (And.intro hv1 hv2)
     clear hP1 hv1 hv2
     unfold FV.val FV.arr EV.val EV.arr at *
     go_enter Tryz.func69, Tryz.ntmps69
     go_upto_region 1 with fail
     rw [← hW0]
     clear hW0
     have f0 : W0.cell? ⟨w.heap.size, 0, none⟩ = some (.slice x.aS F.sts.length x.cS) := c_e XF0.out rfl
     have f1 : W0.cell? ⟨w.heap.size, 1, none⟩ = some (.slice x.aL F.lms.length x.cL) := c_e XF0.out rfl
     have f2 : W0.cell? ⟨w.heap.size, 2, none⟩ = some (.slice x.aP F.prs.length x.cP) := c_e XF0.out rfl
     have f3 : W0.cell? ⟨w.heap.size, 3, none⟩ = some (.slice x.aV F.vrs.length x.cV) := c_e XF0.out rfl
     have s0 : W0.cell? ⟨w.heap.size + 1, 0, none⟩ = some (.int .i64 (n2 : Int)) := c_e XS0.out rfl
     have s1 : W0.cell? ⟨w.heap.size + 1, 1, none⟩ = some (.slice a bs.length cap) := c_e XS0.out rfl
     have hc := HFT.out W0 FF0.out SS0.out
     have HC := hidE (hc)
     go_wp2_with fail
     refine HC.out.mono ?_
     rintro e W1 ⟨rfl, hbx⟩
     clear HC f0 f1 f2 f3 s0 s1 hc
     have hb : Below W0.heap.size W0 W1 := ((Below.refl _ W0).alloc (Nat.le_refl _) _).trans (hbx.mono (by simp))
     have BB1 : Hid (Below w.heap.size w W1) := hidE (BB0.out.trans (hb.mono BB0.out.size))
     have FF1 : Hid (FldAt W1 x F) := hidE (FF0.out.below hb)
     have SS1 : Hid (BoundsAt W1 a bs) := hidE (SS0.out.below hb (Nat.le_refl _))
     have EE1 : Hid (ExtAt W1 z E) := hidE (EE0.out.below hb)
     have XF1 : Hid (W1.heap[w.heap.size]? = some (.cells #[.slice x.aS F.sts.length x.cS, .slice x.aL F.lms.length x.cL, .slice x.aP F.prs.length x.cP, .slice x.aV F.vrs.length x.cV] 46 (0,0))) := hidE (blk_below hb (lt_of_block XF0.out) XF0.out)
     have XS1 : Hid (W1.heap[w.heap.size + 1]? = some (.cells #[.int .i64 (n2 : Int), .slice a bs.length cap] 24 (0,0))) := hidE (blk_below hb (lt_of_block XS0.out) XS0.out)
     have XE1 : Hid (W1.heap[w.heap.size + 1 + 1]? = some (.cells #[.int .i64 E.lo, .int .i64 E.hi, .slice z.a2 E.yl.length z.c2, .slice z.a3 E.yh.length z.c3, .slice z.a4 E.fl.length z.c4, .slice z.a5 E.fh.length z.c5] 76 (0,0))) := hidE (blk_below hb (lt_of_block XE0.out) XE0.out)
     clear hb BB0 FF0 SS0 EE0 XF0 XS0 XE0
     clear hbx
     have f0 : W1.cell? ⟨w.heap.size, 0, none⟩ = some (.slice x.aS F.sts.length x.cS) := c_e XF1.out rfl
     have f1 : W1.cell? ⟨w.heap.size, 1, none⟩ = some (.slice x.aL F.lms.length x.cL) := c_e XF1.out rfl
     have f2 : W1.cell? ⟨w.heap.size, 2, none⟩ = some (.slice x.aP F.prs.length x.cP) := c_e XF1.out rfl
     have f3 : W1.cell? ⟨w.heap.size, 3, none⟩ = some (.slice x.aV F.vrs.length x.cV) := c_e XF1.out rfl
     have hc := HWT.out W1 FF1.out
     have HC := hidE (hc)
     go_wp2_with fail
     refine HC.out.mono ?_
     rintro e W2 ⟨g, rfl, hg, hgb, hbx⟩
     clear HC f0 f1 f2 f3 hc
     have hb : Below W1.heap.size W1 W2 := hbx
     have BB2 : Hid (Below w.heap.size w W2) := hidE (BB1.out.trans (hb.mono BB1.out.size))
     have FF2 : Hid (FldAt W2 x F) := hidE (FF1.out.below hb)
     have SS2 : Hid (BoundsAt W2 a bs) := hidE (SS1.out.below hb (Nat.le_refl _))
     have EE2 : Hid (ExtAt W2 z E) := hidE (EE1.out.below hb)
     have XF2 : Hid (W2.heap[w.heap.size]? = some (.cells #[.slice x.aS F.sts.length x.cS, .slice x.aL F.lms.length x.cL, .slice x.aP F.prs.length x.cP, .slice x.aV F.vrs.length x.cV] 46 (0,0))) := hidE (blk_below hb (lt_of_block XF1.out) XF1.out)
     have XS2 : Hid (W2.heap[w.heap.size + 1]? = some (.cells #[.int .i64 (n2 : Int), .slice a bs.length cap] 24 (0,0))) := hidE (blk_below hb (lt_of_block XS1.out) XS1.out)
     have XE2 : Hid (W2.heap[w.heap.size + 1 + 1]? = some (.cells #[.int .i64 E.lo, .int .i64 E.hi, .slice z.a2 E.yl.length z.c2, .slice z.a3 E.yh.length z.c3, .slice z.a4 E.fl.length z.c4, .slice z.a5 E.fh.length z.c5] 76 (0,0))) := hidE (blk_below hb (lt_of_block XE1.out) XE1.out)
     clear hb BB1 FF1 SS1 EE1 XF1 XS1 XE1
     clear hbx
     have WG2 := hidE hg
     clear hg hgb
     have s0 : W2.cell? ⟨w.heap.size + 1, 0, none⟩ = some (.int .i64 (n2 : Int)) := c_e XS2.out rfl
     have s1 : W2.cell? ⟨w.heap.size + 1, 1, none⟩ = some (.slice a bs.length cap) := c_e XS2.out rfl
     have t0 : W2.cell? ⟨w.heap.size + 1 + 1, 0, none⟩ = some (.int .i64 E.lo) := c_e XE2.out rfl
     have t1 : W2.cell? ⟨w.heap.size + 1 + 1, 1, none⟩ = some (.int .i64 E.hi) := c_e XE2.out rfl
     have t2 : W2.cell? ⟨w.heap.size + 1 + 1, 2, none⟩ = some (.slice z.a2 E.yl.length z.c2) := c_e XE2.out rfl
     have t3 : W2.cell? ⟨w.heap.size + 1 + 1, 3, none⟩ = some (.slice z.a3 E.yh.length z.c3) := c_e XE2.out rfl
     have t4 : W2.cell? ⟨w.heap.size + 1 + 1, 4, none⟩ = some (.slice z.a4 E.fl.length z.c4) := c_e XE2.out rfl
     have t5 : W2.cell? ⟨w.heap.size + 1 + 1, 5, none⟩ = some (.slice z.a5 E.fh.length z.c5) := c_e XE2.out rfl
     have hc := HVA.out W2 EE2.out
     have HC := hidE (hc)
     go_wp2_with fail
     refine HC.out.mono ?_
     rintro e W3 ⟨rfl, hbx⟩
     clear HC s0 s1 t0 t1 t2 t3 t4 t5 hc
     have hb : Below W2.heap.size W2 W3 := hbx
     have BB3 : Hid (Below w.heap.size w W3) := hidE (BB2.out.trans (hb.mono BB2.out.size))
     have FF3 : Hid (FldAt W3 x F) := hidE (FF2.out.below hb)
     have SS3 : Hid (BoundsAt W3 a bs) := hidE (SS2.out.below hb (Nat.le_refl _))
     have EE3 : Hid (ExtAt W3 z E) := hidE (EE2.out.below hb)
     have XF3 : Hid (W3.heap[w.heap.size]? = some (.cells #[.slice x.aS F.sts.length x.cS, .slice x.aL F.lms.length x.cL, .slice x.aP F.prs.length x.cP, .slice x.aV F.vrs.length x.cV] 46 (0,0))) := hidE (blk_below hb (lt_of_block XF2.out) XF2.out)
     have XS3 : Hid (W3.heap[w.heap.size + 1]? = some (.cells #[.int .i64 (n2 : Int), .slice a bs.length cap] 24 (0,0))) := hidE (blk_below hb (lt_of_block XS2.out) XS2.out)
     have XE3 : Hid (W3.heap[w.heap.size + 1 + 1]? = some (.cells #[.int .i64 E.lo, .int .i64 E.hi, .slice z.a2 E.yl.length z.c2, .slice z.a3 E.yh.length z.c3, .slice z.a4 E.fl.length z.c4, .slice z.a5 E.fh.length z.c5] 76 (0,0))) := hidE (blk_below hb (lt_of_block XE2.out) XE2.out)
     have WG3 : Hid (W3.heap[g]? = some (.cells (rowA wt) 3 (0,0))) := hidE (blk_below hb (lt_of_block WG2.out) WG2.out)
     clear hb BB2 FF2 SS2 EE2 XF2 XS2 XE2 WG2
     clear hbx
     have s0 : W3.cell? ⟨w.heap.size + 1, 0, none⟩ = some (.int .i64 (n2 : Int)) := c_e XS3.out rfl
     have s1 : W3.cell? ⟨w.heap.size + 1, 1, none⟩ = some (.slice a bs.length cap) := c_e XS3.out rfl
     have t0 : W3.cell? ⟨w.heap.size + 1 + 1, 0, none⟩ = some (.int .i64 E.lo) := c_e XE3.out rfl
     have t1 : W3.cell? ⟨w.heap.size + 1 + 1, 1, none⟩ = some (.int .i64 E.hi) := c_e XE3.out rfl
     have t2 : W3.cell? ⟨w.heap.size + 1 + 1, 2, none⟩ = some (.slice z.a2 E.yl.length z.c2) := c_e XE3.out rfl
     have t3 : W3.cell? ⟨w.heap.size + 1 + 1, 3, none⟩ = some (.slice z.a3 E.yh.length z.c3) := c_e XE3.out rfl
     have t4 : W3.cell? ⟨w.heap.size + 1 + 1, 4, none⟩ = some (.slice z.a4 E.fl.length z.c4) := c_e XE3.out rfl
     have t5 : W3.cell? ⟨w.heap.size + 1 + 1, 5, none⟩ = some (.slice z.a5 E.fh.length z.c5) := c_e XE3.out rfl
     have hc := HVB.out W3 EE3.out
     have HC := hidE (hc)
     go_wp2_with fail
     refine HC.out.mono ?_
     rintro e W4 ⟨rfl, hbx⟩
     clear HC s0 s1 t0 t1 t2 t3 t4 t5 hc
     have hb : Below W3.heap.size W3 W4 := hbx
     have BB4 : Hid (Below w.heap.size w W4) := hidE (BB3.out.trans (hb.mono BB3.out.size))
     have FF4 : Hid (FldAt W4 x F) := hidE (FF3.out.below hb)
     have SS4 : Hid (BoundsAt W4 a bs) := hidE (SS3.out.below hb (Nat.le_refl _))
     have EE4 : Hid (ExtAt W4 z E) := hidE (EE3.out.below hb)
     have XF4 : Hid (W4.heap[w.heap.size]? = some (.cells #[.slice x.aS F.sts.length x.cS, .slice x.aL F.lms.length x.cL, .slice x.aP F.prs.length x.cP, .slice x.aV F.vrs.length x.cV] 46 (0,0))) := hidE (blk_below hb (lt_of_block XF3.out) XF3.out)
     have XS4 : Hid (W4.heap[w.heap.size + 1]? = some (.cells #[.int .i64 (n2 : Int), .slice a bs.length cap] 24 (0,0))) := hidE (blk_below hb (lt_of_block XS3.out) XS3.out)
     have XE4 : Hid (W4.heap[w.heap.size + 1 + 1]? = some (.cells #[.int .i64 E.lo, .int .i64 E.hi, .slice z.a2 E.yl.length z.c2, .slice z.a3 E.yh.length z.c3, .slice z.a4 E.fl.length z.c4, .slice z.a5 E.fh.length z.c5] 76 (0,0))) := hidE (blk_below hb (lt_of_block XE3.out) XE3.out)
     have WG4 : Hid (W4.heap[g]? = some (.cells (rowA wt) 3 (0,0))) := hidE (blk_below hb (lt_of_block WG3.out) WG3.out)
     clear hb BB3 FF3 SS3 EE3 XF3 XS3 XE3 WG3
     clear hbx
     have s0 : W4.cell? ⟨w.heap.size + 1, 0, none⟩ = some (.int .i64 (n2 : Int)) := c_e XS4.out rfl
     have s1 : W4.cell? ⟨w.heap.size + 1, 1, none⟩ = some (.slice a bs.length cap) := c_e XS4.out rfl
     have t0 : W4.cell? ⟨w.heap.size + 1 + 1, 0, none⟩ = some (.int .i64 E.lo) := c_e XE4.out rfl
     have t1 : W4.cell? ⟨w.heap.size + 1 + 1, 1, none⟩ = some (.int .i64 E.hi) := c_e XE4.out rfl
     have t2 : W4.cell? ⟨w.heap.size + 1 + 1, 2, none⟩ = some (.slice z.a2 E.yl.length z.c2) := c_e XE4.out rfl
     have t3 : W4.cell? ⟨w.heap.size + 1 + 1, 3, none⟩ = some (.slice z.a3 E.yh.length z.c3) := c_e XE4.out rfl
     have t4 : W4.cell? ⟨w.heap.size + 1 + 1, 4, none⟩ = some (.slice z.a4 E.fl.length z.c4) := c_e XE4.out rfl
     have t5 : W4.cell? ⟨w.heap.size + 1 + 1, 5, none⟩ = some (.slice z.a5 E.fh.length z.c5) := c_e XE4.out rfl
     have hc := HB1.out W4 SS4.out EE4.out g WG4.out
     have HC := hidE (hc)
     go_wp2_with fail
     refine HC.out.mono ?_
     rintro e W5 ⟨rfl, hbx⟩
     clear HC s0 s1 t0 t1 t2 t3 t4 t5 hc
     have hb : Below W4.heap.size W4 W5 := hbx
     have BB5 : Hid (Below w.heap.size w W5) := hidE (BB4.out.trans (hb.mono BB4.out.size))
     have FF5 : Hid (FldAt W5 x F) := hidE (FF4.out.below hb)
     have SS5 : Hid (BoundsAt W5 a bs) := hidE (SS4.out.below hb (Nat.le_refl _))
     have EE5 : Hid (ExtAt W5 z E) := hidE (EE4.out.below hb)
     have XF5 : Hid (W5.heap[w.heap.size]? = some (.cells #[.slice x.aS F.sts.length x.cS, .slice x.aL F.lms.length x.cL, .slice x.aP F.prs.length x.cP, .slice x.aV F.vrs.length x.cV] 46 (0,0))) := hidE (blk_below hb (lt_of_block XF4.out) XF4.out)
     have XS5 : Hid (W5.heap[w.heap.size + 1]? = some (.cells #[.int .i64 (n2 : Int), .slice a bs.length cap] 24 (0,0))) := hidE (blk_below hb (lt_of_block XS4.out) XS4.out)
     have XE5 : Hid (W5.heap[w.heap.size + 1 + 1]? = some (.cells #[.int .i64 E.lo, .int .i64 E.hi, .slice z.a2 E.yl.length z.c2, .slice z.a3 E.yh.length z.c3, .slice z.a4 E.fl.length z.c4, .slice z.a5 E.fh.length z.c5] 76 (0,0))) := hidE (blk_below hb (lt_of_block XE4.out) XE4.out)
     have WG5 : Hid (W5.heap[g]? = some (.cells (rowA wt) 3 (0,0))) := hidE (blk_below hb (lt_of_block WG4.out) WG4.out)
     clear hb BB4 FF4 SS4 EE4 XF4 XS4 XE4 WG4
     clear hbx
     go_upto_region 8 with fail
     refine wp_region_F (S := fun V => V.heap[w.heap.size + 1]? = some (.cells #[.int .i64 (n2 : Int), .slice a bs.length cap] 24 (0,0)) ∧ V.heap[w.heap.size + 1 + 1]? = some (.cells #[.int .i64 E.lo, .int .i64 E.hi, .slice z.a2 E.yl.length z.c2, .slice z.a3 E.yh.length z.c3, .slice z.a4 E.fl.length z.c4, .slice z.a5 E.fh.length z.c5] 76 (0,0)) ∧ V.heap[g]? = some (.cells (rowA wt) 3 (0,0))) (last := 100) (by kernel_rfl) ?_
     have hS0 : W5.drew.heap[w.heap.size + 1]? = some (.cells #[.int .i64 (n2 : Int), .slice a bs.length cap] 24 (0,0)) ∧ W5.drew.heap[w.heap.size + 1 + 1]? = some (.cells #[.int .i64 E.lo, .int .i64 E.hi, .slice z.a2 E.yl.length z.c2, .slice z.a3 E.yh.length z.c3, .slice z.a4 E.fl.length z.c4, .slice z.a5 E.fh.length z.c5] 76 (0,0)) ∧ W5.drew.heap[g]? = some (.cells (rowA wt) 3 (0,0)) := ⟨XS5.out, XE5.out, WG5.out⟩
     refine t_n 0 46 (.agg #[.int .i64 (n2 : Int), .slice a bs.length cap]) rfl (by kernel_rfl) rfl (fun _ _ _ h => h) (fun V hV => ?_) hS0 ?_
     ·have z0 : V.cell? ⟨w.heap.size + 1, 0, none⟩ = some (.int .i64 (n2 : Int)) := c_e hV.1 rfl
      have z1 : V.cell? ⟨w.heap.size + 1, 1, none⟩ = some (.slice a bs.length cap) := c_e hV.1 rfl
      simp [go_sem, execOp, z0, z1]
     try simp only [s_a, s_b, s_c]
     refine t_n 1 47 (.slice (some ⟨g, 0, none⟩) wt.length wt.length) rfl (by kernel_rfl) rfl (fun _ _ _ h => h) (fun V hV => ?_) hS0 ?_
     ·simp [go_sem, execOp]
     try simp only [s_a, s_b, s_c]
     refine t_n 3 49 (.pointer (some ⟨w.heap.size + 1 + 1, 2, none⟩)) rfl (by kernel_rfl) rfl (fun _ _ _ h => h) (fun V hV => ?_) hS0 ?_
     ·simp [go_sem, execOp]
     try simp only [s_a, s_b, s_c]
     refine t_n 4 50 (.slice z.a2 E.yl.length z.c2) rfl (by kernel_rfl) rfl (fun _ _ _ h => h) (fun V hV => ?_) hS0 ?_
     ·have z0 : V.cell? ⟨w.heap.size + 1 + 1, 2, none⟩ = some (.slice z.a2 E.yl.length z.c2) := c_e hV.2.1 rfl
      simp [go_sem, execOp, z0]
     try simp only [s_a, s_b, s_c]
     refine t_n 5 51 (.pointer (some ⟨w.heap.size + 1 + 1, 4, none⟩)) rfl (by kernel_rfl) rfl (fun _ _ _ h => h) (fun V hV => ?_) hS0 ?_
     ·simp [go_sem, execOp]
     try simp only [s_a, s_b, s_c]
     refine t_n 6 52 (.slice z.a4 E.fl.length z.c4) rfl (by kernel_rfl) rfl (fun _ _ _ h => h) (fun V hV => ?_) hS0 ?_
     ·have z0 : V.cell? ⟨w.heap.size + 1 + 1, 4, none⟩ = some (.slice z.a4 E.fl.length z.c4) := c_e hV.2.1 rfl
      simp [go_sem, execOp, z0]
     try simp only [s_a, s_b, s_c]
     refine wpAnyF_step 2 rfl (by kernel_rfl) (fun K hK => ?_)
     have HC := hidE (HOP.out W5.drew g WG5.out)
     go_simp
     go_at_call 80
     refine HC.out.mono ?_
     rintro e W6 ⟨v1, rfl, ho, hbx⟩
     clear HC
     rw [show wt.length = (negL wt).length from HNL.out.symm] at ho
     obtain ⟨oo, co, e1, hi, _⟩ := owns_cap ho
     rw [HNL.out] at e1
     subst e1
     clear ho
     have hb : Below W5.heap.size W5 W6 := (Below.refl _ W5).drew.trans hbx
     have BB6 : Hid (Below w.heap.size w W6) := hidE (BB5.out.trans (hb.mono BB5.out.size))
     have FF6 : Hid (FldAt W6 x F) := hidE (FF5.out.below hb)
     have SS6 : Hid (BoundsAt W6 a bs) := hidE (SS5.out.below hb (Nat.le_refl _))
     have EE6 : Hid (ExtAt W6 z E) := hidE (EE5.out.below hb)
     have XF6 : Hid (W6.heap[w.heap.size]? = some (.cells #[.slice x.aS F.sts.length x.cS, .slice x.aL F.lms.length x.cL, .slice x.aP F.prs.length x.cP, .slice x.aV F.vrs.length x.cV] 46 (0,0))) := hidE (blk_below hb (lt_of_block XF5.out) XF5.out)
     have XS6 : Hid (W6.heap[w.heap.size + 1]? = some (.cells #[.int .i64 (n2 : Int), .slice a bs.length cap] 24 (0,0))) := hidE (blk_below hb (lt_of_block XS5.out) XS5.out)
     have XE6 : Hid (W6.heap[w.heap.size + 1 + 1]? = some (.cells #[.int .i64 E.lo, .int .i64 E.hi, .slice z.a2 E.yl.length z.c2, .slice z.a3 E.yh.length z.c3, .slice z.a4 E.fl.length z.c4, .slice z.a5 E.fh.length z.c5] 76 (0,0))) := hidE (blk_below hb (lt_of_block XE5.out) XE5.out)
     have WG6 : Hid (W6.heap[g]? = some (.cells (rowA wt) 3 (0,0))) := hidE (blk_below hb (lt_of_block WG5.out) WG5.out)
     clear hb BB5 FF5 SS5 EE5 XF5 XS5 XE5 WG5
     clear hbx
     go_wp2_with fail
     have NG6 : Hid (IntsAt W6 oo (negL wt)) := hidE hi
     clear hi
     have hS1 : W6.heap[w.heap.size + 1]? = some (.cells #[.int .i64 (n2 : Int), .slice a bs.length cap] 24 (0,0)) ∧ W6.heap[w.heap.size + 1 + 1]? = some (.cells #[.int .i64 E.lo, .int .i64 E.hi, .slice z.a2 E.yl.length z.c2, .slice z.a3 E.yh.length z.c3, .slice z.a4 E.fl.length z.c4, .slice z.a5 E.fh.length z.c5] 76 (0,0)) ∧ W6.heap[g]? = some (.cells (rowA wt) 3 (0,0)) := ⟨XS6.out, XE6.out, WG6.out⟩
     refine hK.out _ _ (.inr hS1) ?_
     clear hK K
     try simp only [Act.put, s_a, s_b, s_c]
     refine wpAnyF_step 7 rfl (by kernel_rfl) (fun K hK => ?_)
     have HC := hidE (HB2.out W6 SS6.out EE6.out oo co NG6.out)
     go_simp
     go_at_call 82
     refine HC.out.mono ?_
     rintro e W7 ⟨rfl, hbx⟩
     clear HC
     have hb : Below W6.heap.size W6 W7 := hbx
     have BB7 : Hid (Below w.heap.size w W7) := hidE (BB6.out.trans (hb.mono BB6.out.size))
     have FF7 : Hid (FldAt W7 x F) := hidE (FF6.out.below hb)
     have SS7 : Hid (BoundsAt W7 a bs) := hidE (SS6.out.below hb (Nat.le_refl _))
     have EE7 : Hid (ExtAt W7 z E) := hidE (EE6.out.below hb)
     have XF7 : Hid (W7.heap[w.heap.size]? = some (.cells #[.slice x.aS F.sts.length x.cS, .slice x.aL F.lms.length x.cL, .slice x.aP F.prs.length x.cP, .slice x.aV F.vrs.length x.cV] 46 (0,0))) := hidE (blk_below hb (lt_of_block XF6.out) XF6.out)
     have XS7 : Hid (W7.heap[w.heap.size + 1]? = some (.cells #[.int .i64 (n2 : Int), .slice a bs.length cap] 24 (0,0))) := hidE (blk_below hb (lt_of_block XS6.out) XS6.out)
     have XE7 : Hid (W7.heap[w.heap.size + 1 + 1]? = some (.cells #[.int .i64 E.lo, .int .i64 E.hi, .slice z.a2 E.yl.length z.c2, .slice z.a3 E.yh.length z.c3, .slice z.a4 E.fl.length z.c4, .slice z.a5 E.fh.length z.c5] 76 (0,0))) := hidE (blk_below hb (lt_of_block XE6.out) XE6.out)
     have WG7 : Hid (W7.heap[g]? = some (.cells (rowA wt) 3 (0,0))) := hidE (blk_below hb (lt_of_block WG6.out) WG6.out)
     clear hb BB6 FF6 SS6 EE6 XF6 XS6 XE6 WG6
     clear hbx
     go_wp2_with fail
     have hS2 : W7.heap[w.heap.size + 1]? = some (.cells #[.int .i64 (n2 : Int), .slice a bs.length cap] 24 (0,0)) ∧ W7.heap[w.heap.size + 1 + 1]? = some (.cells #[.int .i64 E.lo, .int .i64 E.hi, .slice z.a2 E.yl.length z.c2, .slice z.a3 E.yh.length z.c3, .slice z.a4 E.fl.length z.c4, .slice z.a5 E.fh.length z.c5] 76 (0,0)) ∧ W7.heap[g]? = some (.cells (rowA wt) 3 (0,0)) := ⟨XS7.out, XE7.out, WG7.out⟩
     refine hK.out _ _ (.inr hS2) ?_
     clear hK K
     try simp only [Act.put, s_a, s_b, s_c]
     refine t_n 8 13 (.bool b2) rfl (by kernel_rfl) rfl (fun _ _ _ h => h) (fun V hV => ?_) hS2 ?_
     ·simp [go_sem, execOp]
     try simp only [s_a, s_b, s_c]
     refine wpAnyF_done (by kernel_rfl) ?_ _
     clear hS0 hS1 hS2
     go_upto_region 9 with fail
     cases b1 with
     | false =>
       obtain rfl : false = P1 := by rw [← HPP.out]; simp
       clear HPP
       go_quiet (fail)
       go_wp2_with fail
       go_ret2
       exact ⟨rfl, BB7.out.trans (below_drewN' _ _)⟩
     | true =>
       cases b2 with
       | false =>
         obtain rfl : false = P1 := by rw [← HPP.out]; simp
         clear HPP
         go_quiet (fail)
         go_wp2_with fail
         go_ret2
         exact ⟨rfl, BB7.out.trans (below_drewN' _ _)⟩
       | true =>
         have HPQ : Hid (((E.hi == f1) && (E.lo == f2)) = P1) := hidE (by rw [← HPP.out]; simp)
         clear HPP
         obtain ⟨u1, hu1⟩ : ∃ t, (E.hi == f1) = t := ⟨_, rfl⟩
         obtain ⟨u2, hu2⟩ : ∃ t, (E.lo == f2) = t := ⟨_, rfl⟩
         rw [hu1, hu2] at HPQ
         refine wp_region_F (S := fun V => V.heap[w.heap.size + 1]? = some (.cells #[.int .i64 (n2 : Int), .slice a bs.length cap] 24 (0,0)) ∧ V.heap[w.heap.size + 1 + 1]? = some (.cells #[.int .i64 E.lo, .int .i64 E.hi, .slice z.a2 E.yl.length z.c2, .slice z.a3 E.yh.length z.c3, .slice z.a4 E.fl.length z.c4, .slice z.a5 E.fh.length z.c5] 76 (0,0)) ∧ V.heap[g]? = some (.cells (rowA wt) 3 (0,0))) (last := 100) (by kernel_rfl) ?_
         have hS0 : W7.drew.heap[w.heap.size + 1]? = some (.cells #[.int .i64 (n2 : Int), .slice a bs.length cap] 24 (0,0)) ∧ W7.drew.heap[w.heap.size + 1 + 1]? = some (.cells #[.int .i64 E.lo, .int .i64 E.hi, .slice z.a2 E.yl.length z.c2, .slice z.a3 E.yh.length z.c3, .slice z.a4 E.fl.length z.c4, .slice z.a5 E.fh.length z.c5] 76 (0,0)) ∧ W7.drew.heap[g]? = some (.cells (rowA wt) 3 (0,0)) := ⟨XS7.out, XE7.out, WG7.out⟩
         refine t_n 0 54 (.bool true) rfl (by kernel_rfl) rfl (fun _ _ _ h => h) (fun V hV => ?_) hS0 ?_
         ·simp [go_sem, execOp]
         try simp only [s_a, s_b, s_c]
         refine t_n 1 55 (.bool true) rfl (by kernel_rfl) rfl (fun _ _ _ h => h) (fun V hV => ?_) hS0 ?_
         ·simp [go_sem, execOp]
         try simp only [s_a, s_b, s_c]
         refine t_n 2 56 (.bool true) rfl (by kernel_rfl) rfl (fun _ _ _ h => h) (fun V hV => ?_) hS0 ?_
         ·simp [go_sem, execOp]
         try simp only [s_a, s_b, s_c]
         refine t_n 3 57 (.bool true) rfl (by kernel_rfl) rfl (fun _ _ _ h => h) (fun V hV => ?_) hS0 ?_
         ·simp [go_sem, execOp]
         try simp only [s_a, s_b, s_c]
         refine t_n 4 58 (.bool true) rfl (by kernel_rfl) rfl (fun _ _ _ h => h) (fun V hV => ?_) hS0 ?_
         ·simp [go_sem, execOp]
         try simp only [s_a, s_b, s_c]
         refine t_n 5 59 (.pointer (some ⟨w.heap.size + 1 + 1, 1, none⟩)) rfl (by kernel_rfl) rfl (fun _ _ _ h => h) (fun V hV => ?_) hS0 ?_
         ·simp [go_sem, execOp]
         try simp only [s_a, s_b, s_c]
         refine t_n 6 60 (.int .i64 E.hi) rfl (by kernel_rfl) rfl (fun _ _ _ h => h) (fun V hV => ?_) hS0 ?_
         ·have z0 : V.cell? ⟨w.heap.size + 1 + 1, 1, none⟩ = some (.int .i64 E.hi) := c_e hV.2.1 rfl
          simp [go_sem, execOp, z0]
         try simp only [s_a, s_b, s_c]
         refine t_n 7 61 (.slice (some ⟨g, 0, none⟩) wt.length wt.length) rfl (by kernel_rfl) rfl (fun _ _ _ h => h) (fun V hV => ?_) hS0 ?_
         ·simp [go_sem, execOp]
         try simp only [s_a, s_b, s_c]
         refine t_n 8 62 (.pointer (some ⟨w.heap.size + 1 + 1, 3, none⟩)) rfl (by kernel_rfl) rfl (fun _ _ _ h => h) (fun V hV => ?_) hS0 ?_
         ·simp [go_sem, execOp]
         try simp only [s_a, s_b, s_c]
         refine t_n 9 63 (.slice z.a3 E.yh.length z.c3) rfl (by kernel_rfl) rfl (fun _ _ _ h => h) (fun V hV => ?_) hS0 ?_
         ·have z0 : V.cell? ⟨w.heap.size + 1 + 1, 3, none⟩ = some (.slice z.a3 E.yh.length z.c3) := c_e hV.2.1 rfl
          simp [go_sem, execOp, z0]
         try simp only [s_a, s_b, s_c]
         have hc := HFO.out W7.drew g z.a3 z.c3 E.yh WG7.out (EE7.out.p3.below (Below.refl _ _).drew (Nat.le_refl _)) HVV.out.1
         rw [HF1.out] at hc
         have HFC := hidE hc
         clear hc
         refine wpAnyF_step 10 rfl (by kernel_rfl) (fun K hK => ?_)
         have HC := hidE (HFC.out)
         go_simp
         go_at_call 113
         refine HC.out.mono ?_
         rintro e W8 ⟨rfl, hbx⟩
         clear HC
         have hb : Below W7.heap.size W7 W8 := (Below.refl _ W7).drew.trans hbx
         have BB8 : Hid (Below w.heap.size w W8) := hidE (BB7.out.trans (hb.mono BB7.out.size))
         have FF8 : Hid (FldAt W8 x F) := hidE (FF7.out.below hb)
         have SS8 : Hid (BoundsAt W8 a bs) := hidE (SS7.out.below hb (Nat.le_refl _))
         have EE8 : Hid (ExtAt W8 z E) := hidE (EE7.out.below hb)
         have XF8 : Hid (W8.heap[w.heap.size]? = some (.cells #[.slice x.aS F.sts.length x.cS, .slice x.aL F.lms.length x.cL, .slice x.aP F.prs.length x.cP, .slice x.aV F.vrs.length x.cV] 46 (0,0))) := hidE (blk_below hb (lt_of_block XF7.out) XF7.out)
         have XS8 : Hid (W8.heap[w.heap.size + 1]? = some (.cells #[.int .i64 (n2 : Int), .slice a bs.length cap] 24 (0,0))) := hidE (blk_below hb (lt_of_block XS7.out) XS7.out)
         have XE8 : Hid (W8.heap[w.heap.size + 1 + 1]? = some (.cells #[.int .i64 E.lo, .int .i64 E.hi, .slice z.a2 E.yl.length z.c2, .slice z.a3 E.yh.length z.c3, .slice z.a4 E.fl.length z.c4, .slice z.a5 E.fh.length z.c5] 76 (0,0))) := hidE (blk_below hb (lt_of_block XE7.out) XE7.out)
         have WG8 : Hid (W8.heap[g]? = some (.cells (rowA wt) 3 (0,0))) := hidE (blk_below hb (lt_of_block WG7.out) WG7.out)
         clear hb BB7 FF7 SS7 EE7 XF7 XS7 XE7 WG7
         clear hbx
         go_wp2_with fail
         have hS1 : W8.heap[w.heap.size + 1]? = some (.cells #[.int .i64 (n2 : Int), .slice a bs.length cap] 24 (0,0)) ∧ W8.heap[w.heap.size + 1 + 1]? = some (.cells #[.int .i64 E.lo, .int .i64 E.hi, .slice z.a2 E.yl.length z.c2, .slice z.a3 E.yh.length z.c3, .slice z.a4 E.fl.length z.c4, .slice z.a5 E.fh.length z.c5] 76 (0,0)) ∧ W8.heap[g]? = some (.cells (rowA wt) 3 (0,0)) := ⟨XS8.out, XE8.out, WG8.out⟩
         refine hK.out _ _ (.inr hS1) ?_
         clear hK K
         try simp only [Act.put, s_a, s_b, s_c]
         refine t_n 11 65 (.bool u1) rfl (by kernel_rfl) rfl (fun _ _ _ h => h) (fun V hV => ?_) hS1 ?_
         ·simp [go_sem, execOp, hu1]
         try simp only [s_a, s_b, s_c]
         refine t_n 12 66 (.bool u1) rfl (by kernel_rfl) rfl (fun _ _ _ h => h) (fun V hV => ?_) hS1 ?_
         ·simp [go_sem, execOp]
         try simp only [s_a, s_b, s_c]
         refine t_n 13 67 (.bool u1) rfl (by kernel_rfl) rfl (fun _ _ _ h => h) (fun V hV => ?_) hS1 ?_
         ·simp [go_sem, execOp]
         try simp only [s_a, s_b, s_c]
         cases u1 with
         | false =>
           refine wpAnyN_takeD (i := 14) (d := 68) (v := undef) (by decide) rfl rfl (by kernel_rfl) (by kernel_rfl) (by kernel_rfl) (fun _ _ _ h => h) (.inr ⟨by kernel_rfl, rfl⟩) hS1 ?_
           try simp only [s_a, s_b, s_c]
           refine wpAnyN_takeD (i := 15) (d := 69) (v := undef) (by decide) rfl rfl (by kernel_rfl) (by kernel_rfl) (by kernel_rfl) (fun _ _ _ h => h) (.inr ⟨by kernel_rfl, rfl⟩) hS1 ?_
           try simp only [s_a, s_b, s_c]
           refine wpAnyN_takeD (i := 16) (d := 70) (v := undef) (by decide) rfl rfl (by kernel_rfl) (by kernel_rfl) (by kernel_rfl) (fun _ _ _ h => h) (.inr ⟨by kernel_rfl, rfl⟩) hS1 ?_
           try simp only [s_a, s_b, s_c]
           refine wpAnyN_takeD (i := 17) (d := 71) (v := undef) (by decide) rfl rfl (by kernel_rfl) (by kernel_rfl) (by kernel_rfl) (fun _ _ _ h => h) (.inr ⟨by kernel_rfl, rfl⟩) hS1 ?_
           try simp only [s_a, s_b, s_c]
           refine wpAnyN_takeD (i := 18) (d := 72) (v := undef) (by decide) rfl rfl (by kernel_rfl) (by kernel_rfl) (by kernel_rfl) (fun _ _ _ h => h) (.inr ⟨by kernel_rfl, rfl⟩) hS1 ?_
           try simp only [s_a, s_b, s_c]
           refine wpAnyN_takeD (i := 19) (d := 73) (v := undef) (by decide) rfl rfl (by kernel_rfl) (by kernel_rfl) (by kernel_rfl) (fun _ _ _ h => h) (.inr ⟨by kernel_rfl, rfl⟩) hS1 ?_
           try simp only [s_a, s_b, s_c]
           refine wpAnyN_takeD (i := 20) (d := 74) (v := undef) (by decide) rfl rfl (by kernel_rfl) (by kernel_rfl) (by kernel_rfl) (fun _ _ _ h => h) (.inr ⟨by kernel_rfl, rfl⟩) hS1 ?_
           try simp only [s_a, s_b, s_c]
           refine t_n 21 75 (.bool false) rfl (by kernel_rfl) rfl (fun _ _ _ h => h) (fun V hV => ?_) hS1 ?_
           ·simp [go_sem, execOp]
           try simp only [s_a, s_b, s_c]
           refine t_n 22 8 (.bool false) rfl (by kernel_rfl) rfl (fun _ _ _ h => h) (fun V hV => ?_) hS1 ?_
           ·simp [go_sem, execOp]
           try simp only [s_a, s_b, s_c]
           refine t_n 23 9 (.int .i64 0) rfl (by kernel_rfl) rfl (fun _ _ _ h => h) (fun V hV => ?_) hS1 ?_
           ·simp [go_sem, execOp]
           try simp only [s_a, s_b, s_c]
           obtain rfl : false = P1 := by rw [← HPQ.out]; rfl
           refine wpAnyF_done (by kernel_rfl) ?_ _
           go_wp2_with fail
           go_ret2
           exact ⟨rfl, BB8.out⟩
         | true =>
           refine t_n 14 68 (.pointer (some ⟨w.heap.size + 1 + 1, 0, none⟩)) rfl (by kernel_rfl) rfl (fun _ _ _ h => h) (fun V hV => ?_) hS1 ?_
           ·simp [go_sem, execOp]
           try simp only [s_a, s_b, s_c]
           refine t_n 15 69 (.int .i64 E.lo) rfl (by kernel_rfl) rfl (fun _ _ _ h => h) (fun V hV => ?_) hS1 ?_
           ·have z0 : V.cell? ⟨w.heap.size + 1 + 1, 0, none⟩ = some (.int .i64 E.lo) := c_e hV.2.1 rfl
            simp [go_sem, execOp, z0]
           try simp only [s_a, s_b, s_c]
           refine t_n 16 70 (.slice (some ⟨g, 0, none⟩) wt.length wt.length) rfl (by kernel_rfl) rfl (fun _ _ _ h => h) (fun V hV => ?_) hS1 ?_
           ·simp [go_sem, execOp]
           try simp only [s_a, s_b, s_c]
           refine t_n 17 71 (.pointer (some ⟨w.heap.size + 1 + 1, 2, none⟩)) rfl (by kernel_rfl) rfl (fun _ _ _ h => h) (fun V hV => ?_) hS1 ?_
           ·simp [go_sem, execOp]
           try simp only [s_a, s_b, s_c]
           refine t_n 18 72 (.slice z.a2 E.yl.length z.c2) rfl (by kernel_rfl) rfl (fun _ _ _ h => h) (fun V hV => ?_) hS1 ?_
           ·have z0 : V.cell? ⟨w.heap.size + 1 + 1, 2, none⟩ = some (.slice z.a2 E.yl.length z.c2) := c_e hV.2.1 rfl
            simp [go_sem, execOp, z0]
           try simp only [s_a, s_b, s_c]
           have hc := HFO.out W8 g z.a2 z.c2 E.yl WG8.out EE8.out.p2 HVV.out.2
           rw [HF2.out] at hc
           have HFD := hidE hc
           clear hc
           refine wpAnyF_step 19 rfl (by kernel_rfl) (fun K hK => ?_)
           have HC := hidE (HFD.out)
           go_simp
           go_at_call 113
           refine HC.out.mono ?_
           rintro e W9 ⟨rfl, hbx⟩
           clear HC
           have hb : Below W8.heap.size W8 W9 := hbx
           have BB9 : Hid (Below w.heap.size w W9) := hidE (BB8.out.trans (hb.mono BB8.out.size))
           have FF9 : Hid (FldAt W9 x F) := hidE (FF8.out.below hb)
           have SS9 : Hid (BoundsAt W9 a bs) := hidE (SS8.out.below hb (Nat.le_refl _))
           have EE9 : Hid (ExtAt W9 z E) := hidE (EE8.out.below hb)
           have XF9 : Hid (W9.heap[w.heap.size]? = some (.cells #[.slice x.aS F.sts.length x.cS, .slice x.aL F.lms.length x.cL, .slice x.aP F.prs.length x.cP, .slice x.aV F.vrs.length x.cV] 46 (0,0))) := hidE (blk_below hb (lt_of_block XF8.out) XF8.out)
           have XS9 : Hid (W9.heap[w.heap.size + 1]? = some (.cells #[.int .i64 (n2 : Int), .slice a bs.length cap] 24 (0,0))) := hidE (blk_below hb (lt_of_block XS8.out) XS8.out)
           have XE9 : Hid (W9.heap[w.heap.size + 1 + 1]? = some (.cells #[.int .i64 E.lo, .int .i64 E.hi, .slice z.a2 E.yl.length z.c2, .slice z.a3 E.yh.length z.c3, .slice z.a4 E.fl.length z.c4, .slice z.a5 E.fh.length z.c5] 76 (0,0))) := hidE (blk_below hb (lt_of_block XE8.out) XE8.out)
           have WG9 : Hid (W9.heap[g]? = some (.cells (rowA wt) 3 (0,0))) := hidE (blk_below hb (lt_of_block WG8.out) WG8.out)
           clear hb BB8 FF8 SS8 EE8 XF8 XS8 XE8 WG8
           clear hbx
           go_wp2_with fail
           have hS2 : W9.heap[w.heap.size + 1]? = some (.cells #[.int .i64 (n2 : Int), .slice a bs.length cap] 24 (0,0)) ∧ W9.heap[w.heap.size + 1 + 1]? = some (.cells #[.int .i64 E.lo, .int .i64 E.hi, .slice z.a2 E.yl.length z.c2, .slice z.a3 E.yh.length z.c3, .slice z.a4 E.fl.length z.c4, .slice z.a5 E.fh.length z.c5] 76 (0,0)) ∧ W9.heap[g]? = some (.cells (rowA wt) 3 (0,0)) := ⟨XS9.out, XE9.out, WG9.out⟩
           refine hK.out _ _ (.inr hS2) ?_
           clear hK K
           try simp only [Act.put, s_a, s_b, s_c]
           refine t_n 20 74 (.bool u2) rfl (by kernel_rfl) rfl (fun _ _ _ h => h) (fun V hV => ?_) hS2 ?_
           ·simp [go_sem, execOp, hu2]
           try simp only [s_a, s_b, s_c]
           refine t_n 21 75 (.bool u2) rfl (by kernel_rfl) rfl (fun _ _ _ h => h) (fun V hV => ?_) hS2 ?_
           ·simp [go_sem, execOp]
           try simp only [s_a, s_b, s_c]
           refine t_n 22 8 (.bool u2) rfl (by kernel_rfl) rfl (fun _ _ _ h => h) (fun V hV => ?_) hS2 ?_
           ·simp [go_sem, execOp]
           try simp only [s_a, s_b, s_c]
           refine t_n 23 9 (.int .i64 0) rfl (by kernel_rfl) rfl (fun _ _ _ h => h) (fun V hV => ?_) hS2 ?_
           ·simp [go_sem, execOp]
           try simp only [s_a, s_b, s_c]
           obtain rfl : u2 = P1 := by rw [← HPQ.out]; simp
           refine wpAnyF_done (by kernel_rfl) ?_ _
           go_wp2_with fail
           go_ret2
           exact ⟨rfl, BB9.out⟩
end Go.Proofs.YthjmkmjojlfejaaGreat
