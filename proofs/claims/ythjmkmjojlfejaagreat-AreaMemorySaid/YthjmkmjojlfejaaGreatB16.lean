/- Merged text 16 of the base: Rf1, Al2, Dv. No conditions beyond those stated. -/
import Derived.Test.YthjmkmjojlfejaaGreatB05
import Derived.Test.YthjmkmjojlfejaaGreatB07
import Derived.Test.YthjmkmjojlfejaaGreatB13
import Derived.Test.YthjmkmjojlfejaaGreatB09
import Derived.Test.YthjmkmjojlfejaaGreatB03
import Derived.Test.YthjmkmjojlfejaaGreatB08
import Derived.Test.YthjmkmjojlfejaaGreatB10
namespace Go.Proofs.YthjmkmjojlfejaaGreat
open Go Go.RowKit Go.Shelf
set_option maxHeartbeats 2000000 in
theorem refform_any (w : World) (a : Option Addr) (cap : Nat) (x : List Int) (a2 : Option Addr) (cap2 : Nat) (y : List Int) (hx : x.length ≤ 128) (hl : x.length ≤ y.length) (h : IntsAt w a x) (h2 : IntsAt w a2 y)
 (bx : ∀ v ∈ x, -1000000 ≤ v ∧ v ≤ 1000000) (by_ : ∀ v ∈ y, -400000000 ≤ v ∧ v ≤ 400000000) :
 Calls Tryz.prog 113 #[.slice a x.length cap, .slice a2 y.length cap2] w fun e w' => e = .returned (.int .i64 (formP x y)) ∧ Below w.heap.size w w' := by
 have hp : ∀ i, i < x.length → -400000000000000 ≤ x.getD i 0 * y.getD i 0 ∧ x.getD i 0 * y.getD i 0 ≤ 400000000000000 := by
  intro i hi
  have h1 := bx (x.getD i 0) (by rw [getD_get x 0 hi]; exact List.getElem_mem hi)
  have h3 := by_ (y.getD i 0) (by rw [getD_get y 0 (show i < y.length by omega)]; exact List.getElem_mem _)
  have := mul_bd (A := 1000000) (B := 400000000) h1.1 h1.2 h3.1 h3.2
  omega
 have hs : ∀ k, k ≤ x.length → -51200000000000000 ≤ sumN (fun i => x.getD i 0 * y.getD i 0) k ∧ sumN (fun i => x.getD i 0 * y.getD i 0) k ≤ 51200000000000000 := by
  intro k hk
  have := sumN_bd (f := fun i => x.getD i 0 * y.getD i 0) (c := 400000000000000) (n := k) fun i hi => hp i (by omega)
  omega
 have HP := hidE hp
 have HS := hidE hs
 have H := hidE h
 have H2 := hidE h2
 clear hp hs h h2 bx by_
 unfold formP
 go_enter Tryz.func113, Tryz.ntmps113
 go_wp2_with fail
 go_loopw [5, 6] (fun n i wr => ∃ k : Nat, k ≤ x.length ∧ i = .int .i64 k ∧ n = .int .i64 (sumN (fun i => x.getD i 0 * y.getD i 0) k) ∧ Hid (OnlyG w.heap.size w wr)) (fun _ i _ => x.length - (intOf i).toNat)
 case atStart => exact ⟨0, Nat.zero_le _, rfl, rfl, hidE (OnlyG.refl _ _)⟩
 case round =>
  obtain ⟨k, hk, rfl, rfl, HD⟩ := hrel
  obtain ⟨wx, rfl⟩ : ∃ W : World, W = wr := ⟨wr, rfl⟩
  by_cases hlt : k < x.length
  ·obtain ⟨b, off, rfl, hbl, hc⟩ := H.out.at hlt
   obtain ⟨b2, off2, rfl, hbl2, hc2⟩ := H2.out.at (show k < y.length by omega)
   rw [← getD_get x 0 hlt] at hc
   rw [← getD_get y 0 (show k < y.length by omega)] at hc2
   have c1 : wx.cell? ⟨b, off + k, none⟩ = some (.int .i64 (x.getD k 0)) := (HD.out.cell (p := ⟨b, off + k, none⟩) (Nat.ne_of_lt hbl)).trans hc
   have c2 : wx.cell? ⟨b2, off2 + k, none⟩ = some (.int .i64 (y.getD k 0)) := (HD.out.cell (p := ⟨b2, off2 + k, none⟩) (Nat.ne_of_lt hbl2)).trans hc2
   have s1 := HS.out (k + 1) hlt
   have s0 := HS.out k hk
   have p0 := HP.out k hlt
   have hse : sumN (fun i => x.getD i 0 * y.getD i 0) (k + 1) = sumN (fun i => x.getD i 0 * y.getD i 0) k + x.getD k 0 * y.getD k 0 := rfl
   rw [hse] at s1
   have HSE := hidE hse
   obtain ⟨xv, hxv⟩ : ∃ z, x.getD k 0 = z := ⟨_, rfl⟩
   obtain ⟨yv, hyv⟩ : ∃ z, y.getD k 0 = z := ⟨_, rfl⟩
   rw [hxv] at c1 s1 p0 HSE
   rw [hyv] at c2 s1 p0 HSE
   obtain ⟨sv, hsv⟩ : ∃ z, sumN (fun i => x.getD i 0 * y.getD i 0) k = z := ⟨_, rfl⟩
   rw [hsv] at s0 s1 HSE ⊢
   obtain ⟨m1, hm1⟩ : ∃ z, xv * yv = z := ⟨_, rfl⟩
   rw [hm1] at s1 p0 HSE
   have w1 : IntKind.i64.wrap m1 = m1 := IntWalk.i64_in _ (by omega)
   have w2 : IntKind.i64.wrap (sv + m1) = sv + m1 := IntWalk.i64_in _ (by omega)
   have HLT := hidE hlt
   clear hc hc2 hxv hyv hsv hse
   go_wp2_with fail
   go_upto_region 5 with fail
   go_quiet (fail)
   go_wp2_with fail
   go_roundw
   case rel => exact ⟨k + 1, HLT.out, by go_num, by rw [HSE.out], hidE (HD.out.trans (OnlyG.drewN _ _))⟩
   case measure => have := HLT.out; simp [intOf]; omega
  ·obtain rfl : k = x.length := by omega
   go_wp2_with fail
   go_ret
   exact ⟨rfl, HD.out.bl⟩
set_option maxHeartbeats 1000000 in
theorem refvalued_any (w : World) (N : Int) (a : Option Addr) (cap : Nat) (y : List Int) (hN : 1 ≤ N) (hl : y.length ≤ 9223372036854775807) (h : IntsAt w a y) :
 Calls Tryz.prog 81 #[.int .i64 N, .slice a y.length cap] w fun e w' => e = .returned (.bool (valuesB N y)) ∧ Below w.heap.size w w' := by
 have HV := hidE (refvalues_any w N (.slice none 0 0) a cap y hN hl h)
 clear h
 go_enter Tryz.func81, Tryz.ntmps81
 go_wp2_with fail
 refine HV.out.mono ?_
 rintro e w1 ⟨rfl, hb1⟩
 go_wp2_with fail
 go_ret
 exact ⟨rfl, hb1⟩
def plainP (F : Fld) : Bool := decide (F.sts.length ≤ 14) && decide (F.lms.length ≤ 12) && decide (F.prs.length ≤ 42) && decide (F.vrs.length ≤ 42)
set_option maxHeartbeats 4000000 in
theorem plain_any (w : World) (x : FV) (F : Fld) (h1 : F.sts.length ≤ 9223372036854775807) (h2 : F.lms.length ≤ 9223372036854775807) (h3 : F.prs.length ≤ 9223372036854775807) (h4 : F.vrs.length ≤ 9223372036854775807) :
 Calls Tryz.prog 33 #[x.val F] w fun e w' => e = .returned (.bool (plainP F)) ∧ Below w.heap.size w w' := by
 have B0 := hidE (show Below w.heap.size w (w.alloc (.cells (x.arr F) 46)) from (Below.refl _ _).alloc (Nat.le_refl _) _)
 obtain ⟨P, hP⟩ : ∃ P, plainP F = P := ⟨_, rfl⟩
 rw [hP]
 unfold plainP at hP
 unfold FV.val FV.arr at *
 obtain ⟨n1, e1⟩ : ∃ n, F.sts.length = n := ⟨_, rfl⟩
 obtain ⟨n2, e2⟩ : ∃ n, F.lms.length = n := ⟨_, rfl⟩
 obtain ⟨n3, e3⟩ : ∃ n, F.prs.length = n := ⟨_, rfl⟩
 obtain ⟨n4, e4⟩ : ∃ n, F.vrs.length = n := ⟨_, rfl⟩
 rw [e1] at h1 hP B0 ⊢
 rw [e2] at h2 hP B0 ⊢
 rw [e3] at h3 hP B0 ⊢
 rw [e4] at h4 hP B0 ⊢
 clear e1 e2 e3 e4
 by_cases c1 : n1 ≤ 14
 rotate_left
 ·have d1 : decide ((n1 : Int) ≤ 14) = false := by simp; omega
  have g1 : decide (n1 ≤ 14) = false := by simp; omega
  have HP := hidE (show false = P by rw [← hP, g1]; simp)
  clear hP
  go_enter Tryz.func33, Tryz.ntmps33
  go_wp2_with fail
  go_ret
  exact ⟨by rw [← HP.out]; rfl, B0.out⟩
 have d1 : decide ((n1 : Int) ≤ 14) = true := by simp; omega
 have g1 : decide (n1 ≤ 14) = true := by simp; omega
 by_cases c2 : n2 ≤ 12
 rotate_left
 ·have d2 : decide ((n2 : Int) ≤ 12) = false := by simp; omega
  have g2 : decide (n2 ≤ 12) = false := by simp; omega
  have HP := hidE (show false = P by rw [← hP, g2]; simp)
  clear hP
  go_enter Tryz.func33, Tryz.ntmps33
  go_wp2_with fail
  go_ret
  exact ⟨by rw [← HP.out]; rfl, B0.out⟩
 have d2 : decide ((n2 : Int) ≤ 12) = true := by simp; omega
 have g2 : decide (n2 ≤ 12) = true := by simp; omega
 by_cases c3 : n3 ≤ 42
 rotate_left
 ·have d3 : decide ((n3 : Int) ≤ 42) = false := by simp; omega
  have g3 : decide (n3 ≤ 42) = false := by simp; omega
  have HP := hidE (show false = P by rw [← hP, g3]; simp)
  clear hP
  go_enter Tryz.func33, Tryz.ntmps33
  go_wp2_with fail
  go_ret
  exact ⟨by rw [← HP.out]; rfl, B0.out⟩
 have d3 : decide ((n3 : Int) ≤ 42) = true := by simp; omega
 have g3 : decide (n3 ≤ 42) = true := by simp; omega
 by_cases c4 : n4 ≤ 42
 rotate_left
 ·have d4 : decide ((n4 : Int) ≤ 42) = false := by simp; omega
  have g4 : decide (n4 ≤ 42) = false := by simp; omega
  have HP := hidE (show false = P by rw [← hP, g4]; simp)
  clear hP
  go_enter Tryz.func33, Tryz.ntmps33
  go_wp2_with fail
  go_ret
  exact ⟨by rw [← HP.out]; rfl, B0.out⟩
 have d4 : decide ((n4 : Int) ≤ 42) = true := by simp; omega
 have g4 : decide (n4 ≤ 42) = true := by simp; omega
 have HP := hidE (show true = P by rw [← hP, g1, g2, g3, g4]; simp)
 clear hP
 go_enter Tryz.func33, Tryz.ntmps33
 go_wp2_with fail
 go_ret
 exact ⟨by rw [← HP.out]; rfl, B0.out⟩
theorem owns_cap {W : World} {base : Nat} {v : Value} {l : List Int} (h : W.ownsRow base 3 1 v l.length (intsV l)) : ∃ o c, v = .slice o l.length c ∧ IntsAt W o l ∧ l.length ≤ c := by
 obtain ⟨o, c, e, hi, _⟩ := intsAt_of_owns h
 refine ⟨o, c, e, hi, ?_⟩
 rcases h.2 with ⟨e2, h0⟩ | ⟨gb, cp, cur, e2, _, hh, hn, _⟩
 ·rw [e2] at e
  simp only [Value.slice.injEq] at e
  omega
 ·rw [e2] at e
  simp only [Value.slice.injEq] at e
  omega
end Go.Proofs.YthjmkmjojlfejaaGreat
