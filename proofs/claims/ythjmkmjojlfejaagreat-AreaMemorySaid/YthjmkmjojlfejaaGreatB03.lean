/- Merged text 3 of the base: Ab, Ac, Mf1, Mf2, Mf3, Mf4, Ad, Yd, Y8, Fd, Fe. No conditions beyond those stated. -/
import Derived.Test.YthjmkmjojlfejaaGreatB02
import Derived.Test.YthjmkmjojlfejaaGreatB01
import Derived.StillTailTactics
import Derived.IntWalk
import Derived.Lib.AppendZerosOnto
import Derived.Deep.RegionHeld3
import Derived.Deep.DeepCutAuto
import Derived.Deep.OwnRows
namespace Go.Proofs.YthjmkmjojlfejaaGreat
open Go Go.RowKit Go.Shelf
def nz (w : List Int) : Nat := w.countP (· != 0)
def weighedB (N : Int) (w : List Int) : Bool := decide ((w.length : Int) = N) && decide (nz w ≤ 60) && w.all fun v => inR v (-1000000) 1000000
def flowingB (m : Nat) (f : List Int) : Bool := decide (f.length = m) && f.all fun v => inR v 0 1000000000
theorem nz_succ {w : List Int} {k : Nat} (hk : k < w.length) : nz (w.take (k + 1)) = nz (w.take k) + if w[k] != 0 then 1 else 0 := by
 unfold nz
 rw [List.take_succ_eq_append_getElem hk, List.countP_append]
 simp [List.countP_cons]
theorem nz_le (w : List Int) (k : Nat) : nz (w.take k) ≤ k := by
 unfold nz
 exact Nat.le_trans List.countP_le_length (List.length_take_le _ _)
set_option maxHeartbeats 1000000 in
theorem weighed_any (w : World) (N : Int) (a : Option Addr) (cap : Nat) (y : List Int) (hl : y.length ≤ 9223372036854775807) (h : IntsAt w a y) :
 Calls Tryz.prog 112 #[.int .i64 N, .slice a y.length cap] w fun e w' => e = .returned (.bool (weighedB N y)) ∧ Below w.heap.size w w' := by
 have hq := all_any w a cap y 166 #[] (fun v => inR v (-1000000) 1000000) hl h (fun k hk W hb => (weighed1_any W y[k]).mono fun _ _ ⟨he, hw⟩ => ⟨he, hw ▸ Below.refl _ _⟩) (enters_of Tryz.func166 (by kernel_rfl) rfl)
 have HW : Hid (weighedB N y = (decide ((y.length : Int) = N) && decide (nz y ≤ 60) && y.all fun v => inR v (-1000000) 1000000)) := hidE rfl
 obtain ⟨r, hr⟩ : ∃ r, (y.all fun v => inR v (-1000000) 1000000) = r := ⟨_, rfl⟩
 rw [hr] at hq HW
 have HQ := hidE hq
 have H := hidE h
 clear hq hr h
 go_enter Tryz.func112, Tryz.ntmps112
 go_wp2_with fail
 go_loop [5, 10] (fun n i => ∃ k : Nat, k ≤ y.length ∧ i = .int .i64 k ∧ n = .int .i64 (nz (y.take k) : Nat)) (fun _ i => y.length - (intOf i).toNat)
 case atStart => exact ⟨0, Nat.zero_le _, rfl, rfl⟩
 case round =>
  obtain ⟨k, hk, rfl, rfl⟩ := hrel
  have hz := nz_le y k
  by_cases hlt : k < y.length
  ·obtain ⟨b, off, rfl, hbl, hc⟩ := H.out.at hlt
   have HS := hidE (nz_succ hlt)
   obtain ⟨v, hv⟩ : ∃ v, y[k] = v := ⟨_, rfl⟩
   rw [hv] at hc HS
   clear hv
   by_cases h2 : v = 0
   ·have h2b : (v != 0) = false := by simpa using h2
    rw [h2b] at HS
    go_wp2_with fail
    go_round
    case rel => exact ⟨k + 1, by omega, by go_num, by rw [HS.out]; rfl⟩
    case measure => simp [intOf]; omega
   ·have h2b : (v != 0) = true := by simpa using h2
    rw [h2b] at HS
    go_wp2_with fail
    go_round
    case rel => exact ⟨k + 1, by omega, by go_num, by rw [HS.out]; go_num⟩
    case measure => simp [intOf]; omega
  ·obtain rfl : k = y.length := by omega
   have e : y.take y.length = y := List.take_length
   rw [e] at hz ⊢
   by_cases h1 : (y.length : Int) = N
   ·have h1b : ((y.length : Int) == N) = true := by simpa using h1
    by_cases h3 : nz y ≤ 60
    ·have h3b : decide (nz y ≤ 60) = true := by simpa using h3
     have h3c : decide ((nz y : Int) ≤ 60) = true := by simp; omega
     have HV : Hid (weighedB N y = r) := hidE (by rw [HW.out]; simp [h1, h3])
     clear e h1 h3 HW
     go_wp2_with fail
     refine HQ.out.mono ?_
     rintro e w1 ⟨rfl, hb1⟩
     go_wp2_with fail
     go_ret
     exact ⟨by rw [HV.out]; rfl, hb1⟩
    ·have h3b : decide (nz y ≤ 60) = false := by simpa using h3
     have h3c : decide ((nz y : Int) ≤ 60) = false := by simp; omega
     have HV : Hid (weighedB N y = false) := hidE (by rw [HW.out]; simp [h3])
     clear e h1 h3 HW
     go_wp2_with fail
     go_ret
     exact ⟨by rw [HV.out]; rfl, Below.refl _ _⟩
   ·have h1b : ((y.length : Int) == N) = false := by simpa using h1
    have HV : Hid (weighedB N y = false) := hidE (by rw [HW.out]; simp [h1])
    clear e h1 HW
    go_wp2_with fail
    go_ret
    exact ⟨by rw [HV.out]; rfl, Below.refl _ _⟩
set_option maxHeartbeats 1000000 in
theorem flowing_any (w : World) (N : Int) (a : Option Addr) (len cap : Nat) (a2 : Option Addr) (cap2 : Nat) (y : List Int) (hl : y.length ≤ 9223372036854775807) (h : IntsAt w a2 y) :
 Calls Tryz.prog 124 #[.agg #[.int .i64 N, .slice a len cap], .slice a2 y.length cap2] w fun e w' => e = .returned (.bool (flowingB len y)) ∧ Below w.heap.size w w' := by
 have hq := all_any (w.alloc (.cells #[.int .i64 N, .slice a len cap] 24)) a2 cap2 y 177 #[] (fun v => inR v 0 1000000000) hl (h.alloc _) (fun k hk W hb => (flowing1_any W y[k]).mono fun _ _ ⟨he, hw⟩ => ⟨he, hw ▸ Below.refl _ _⟩) (enters_of Tryz.func177 (by kernel_rfl) rfl)
 have HW : Hid (flowingB len y = (decide (y.length = len) && y.all fun v => inR v 0 1000000000)) := hidE rfl
 obtain ⟨r, hr⟩ : ∃ r, (y.all fun v => inR v 0 1000000000) = r := ⟨_, rfl⟩
 rw [hr] at hq HW
 have HQ := hidE hq
 clear hq hr h
 by_cases h1 : y.length = len
 ·have h1b : (y.length == len) = true := by simpa using h1
  have h1c : ((y.length : Int) == (len : Int)) = true := by simp; omega
  have h1d : decide (y.length = len) = true := by simpa using h1
  have HV : Hid (flowingB len y = r) := hidE (by rw [HW.out]; simp [h1])
  clear h1 HW
  go_enter Tryz.func124, Tryz.ntmps124
  go_wp2_with fail
  refine HQ.out.mono ?_
  rintro e w1 ⟨rfl, hb1⟩
  go_wp2_with fail
  go_ret
  exact ⟨by rw [HV.out]; rfl, ((Below.refl _ _).alloc (Nat.le_refl _) _).trans (hb1.mono (by simp))⟩
 ·have h1b : (y.length == len) = false := by simpa using h1
  have h1c : ((y.length : Int) == (len : Int)) = false := by simp; omega
  have h1d : decide (y.length = len) = false := by simpa using h1
  have HV : Hid (flowingB len y = false) := hidE (by rw [HW.out]; simp [h1])
  clear h1 HW
  go_enter Tryz.func124, Tryz.ntmps124
  go_wp2_with fail
  go_ret
  exact ⟨by rw [HV.out]; rfl, by go_grown⟩
theorem sumN_succ (f : Nat → Int) (n : Nat) : sumN f (n + 1) = sumN f n + f n := rfl
set_option maxHeartbeats 1000000 in
theorem form_any (w : World) (a : Option Addr) (cap : Nat) (x : List Int) (a2 : Option Addr) (cap2 : Nat) (y : List Int) (hx : x.length ≤ 128) (hl : x.length ≤ y.length) (h : IntsAt w a x) (h2 : IntsAt w a2 y)
 (bx : ∀ v ∈ x, -1000000 ≤ v ∧ v ≤ 1000000) (by_ : ∀ v ∈ y, -400000000 ≤ v ∧ v ≤ 400000000) :
 Calls Tryz.prog 107 #[.slice a x.length cap, .slice a2 y.length cap2] w fun e w' => e = .returned (.int .i64 (formP x y)) ∧ w = w' := by
 have hp : ∀ i, i < x.length → -400000000000000 ≤ x.getD i 0 * y.getD i 0 ∧ x.getD i 0 * y.getD i 0 ≤ 400000000000000 := by
  intro i hi
  have h1 := bx (x.getD i 0) (by rw [getD_get x 0 hi]; exact List.getElem_mem hi)
  have h3 := by_ (y.getD i 0) (by rw [getD_get y 0 (show i < y.length by omega)]; exact List.getElem_mem _)
  have := mul_bd (A := 1000000) (B := 400000000) h1.1 h1.2 h3.1 h3.2
  omega
 have hs : ∀ k, k ≤ x.length → -51200000000000000 ≤ sumN (fun i => x.getD i 0 * y.getD i 0) k ∧ sumN (fun i => x.getD i 0 * y.getD i 0) k ≤ 51200000000000000 := by
  intro k hk
  have := sumN_bd (f := fun i => x.getD i 0 * y.getD i 0) (c := 400000000000000) (n := k) fun i hi => hp i (by omega)
  omega
 have HP := hidE hp
 have HS := hidE hs
 have H := hidE h
 have H2 := hidE h2
 clear hp hs h h2 bx by_
 unfold formP
 go_enter Tryz.func107, Tryz.ntmps107
 go_wp2_with fail
 go_loop [5, 10] (fun n i => ∃ k : Nat, k ≤ x.length ∧ i = .int .i64 k ∧ n = .int .i64 (sumN (fun i => x.getD i 0 * y.getD i 0) k)) (fun _ i => x.length - (intOf i).toNat)
 case atStart => exact ⟨0, Nat.zero_le _, rfl, rfl⟩
 case round =>
  obtain ⟨k, hk, rfl, rfl⟩ := hrel
  have s0 := HS.out k hk
  by_cases hlt : k < x.length
  ·obtain ⟨b, off, rfl, hbl, hc⟩ := H.out.at hlt
   have hky : k < y.length := by omega
   obtain ⟨b2, off2, rfl, hbl2, hc2⟩ := H2.out.at hky
   have p0 := HP.out k hlt
   have hN := hidE (sumN_succ (fun i => x.getD i 0 * y.getD i 0) k)
   rw [← getD_get x 0 hlt] at hc
   rw [← getD_get y 0 hky] at hc2
   obtain ⟨u, hu⟩ : ∃ u, x.getD k 0 = u := ⟨_, rfl⟩
   obtain ⟨v, hv⟩ : ∃ v, y.getD k 0 = v := ⟨_, rfl⟩
   obtain ⟨s, hse⟩ : ∃ s, sumN (fun i => x.getD i 0 * y.getD i 0) k = s := ⟨_, rfl⟩
   rw [hse] at s0 hN ⊢
   simp only [hu, hv] at hc hc2 p0 hN
   clear hu hv hse
   go_wp2_with fail
   go_round
   case rel => exact ⟨k + 1, by omega, by go_num, by rw [hN.out]⟩
   case measure => simp [intOf]; omega
  ·obtain rfl : k = x.length := by omega
   go_wp2_with fail
   go_ret
   exact ⟨rfl, rfl⟩
theorem map_take_rep (f : Int → Int) (l : List Int) {k : Nat} (hk : k < l.length) :
 ((l.take k).map f ++ List.replicate (l.length - k) (0 : Int)).set k (f l[k]) = (l.take (k + 1)).map f ++ List.replicate (l.length - (k + 1)) 0 := by
 have e : l.length - k = (l.length - (k + 1)) + 1 := by omega
 rw [e, List.replicate_succ, List.set_append_right _ _ (by simp; omega), List.take_succ_eq_append_getElem hk]
 simp only [List.length_map, List.length_take, List.map_append, List.map_cons, List.map_nil]
 rw [Nat.min_eq_left (by omega), Nat.sub_self, List.set_cons_zero]
 simp
set_option maxHeartbeats 1000000 in
theorem opposite_any (w : World) (a : Option Addr) (cap : Nat) (x : List Int) (hl : x.length ≤ 4000) (h : IntsAt w a x) (bx : ∀ v ∈ x, -1000000 ≤ v ∧ v ≤ 1000000) :
 Calls Tryz.prog 79 #[.slice a x.length cap] w fun e w' => e = .returned (.slice (some ⟨w.heap.size, 0, none⟩) x.length x.length) ∧ w'.heap[w.heap.size]? = some (.cells (rowA (x.map (-·))) 3 (0,0)) ∧ Below w.heap.size w w' := by
 have H := hidE h
 have HB := hidE bx
 clear h bx
 have hmk3 := fun W => run_make_row' (P := Tryz.prog) 25 3 (.int .i64 0) 8 Tryz.underlying25 Tryz.info3' rfl .i64 .i64 x.length (by omega) (by omega) W
 go_enter Tryz.func79, Tryz.ntmps79
 go_wp2_with fail
 go_loopw [11] (fun i wr => ∃ k : Nat, k ≤ x.length ∧ i = .int .i64 k ∧ Hid (wr.heap[w.heap.size]? = some (.cells (rowA ((x.take k).map (-·) ++ List.replicate (x.length - k) 0)) 3 (0,0))) ∧ Below w.heap.size w wr)
  (fun i _ => x.length - (intOf i).toNat)
 case atStart => exact ⟨0, Nat.zero_le _, rfl, hidE (by rw [heap_alloc_new, madeInts]; rfl), by go_grown⟩
 case round =>
  obtain ⟨k, hk, rfl, HC, hb⟩ := hrel
  have hsz := lt_of_block HC.out
  by_cases hlt : k < x.length
  ·obtain ⟨b, off, rfl, hbl, hc⟩ := H.out.at hlt
   rw [← hb.cell hbl] at hc
   have hv := HB.out _ (List.getElem_mem hlt)
   have fd : wr.frozen? ⟨w.heap.size, k, none⟩ = false := frozen_of_row _ _ _ _ _ HC.out
   have cd : wr.cell? ⟨w.heap.size, k, none⟩ = some (.int .i64 (((x.take k).map (-·) ++ List.replicate (x.length - k) 0).getD k 0)) := by rw [cell_of_row _ _ _ _ _ _ HC.out, rowA_get (by simp; omega)]
   have HS := hidE (map_take_rep (-·) x hlt)
   obtain ⟨q, hq⟩ : ∃ q, x[k] = q := ⟨_, rfl⟩
   rw [hq] at hc HS hv
   clear hq
   obtain ⟨z, hz⟩ : ∃ z, ((x.take k).map (-·) ++ List.replicate (x.length - k) 0).getD k 0 = z := ⟨_, rfl⟩
   rw [hz] at cd
   clear hz
   go_wp2_with fail
   go_roundw
   case rel => exact ⟨k + 1, by omega, by go_num, hidE (by rw [heap_setCell_same _ _ _ _ _ _ HC.out, rowA_set, HS.out]), by go_grown⟩
   case measure => simp [intOf]; omega
  ·obtain rfl : k = x.length := by omega
   go_wp2_with fail
   go_ret
   exact ⟨rfl, by rw [HC.out, List.take_length]; simp, hb⟩
def orP : List Int → Int
 | [] => 0
 | x :: l => if x = 0 then orP l else x
theorem orP_skip : ∀ {l : List Int} {k : Nat} (hk : k < l.length), orP (l.drop k) = if l[k] = 0 then orP (l.drop (k + 1)) else l[k]
 | [], k, h => by simp at h
 | x :: l, 0, _ => by simp [orP]
 | x :: l, k + 1, h => by simpa using orP_skip (l := l) (k := k) (by simpa using h)
set_option maxHeartbeats 400000 in
theorem or_any (w : World) (a : Option Addr) (cap : Nat) (x : List Int) (hl : x.length ≤ 4000) (h : IntsAt w a x) :
 Calls Tryz.prog 182 #[.slice a x.length cap] w fun e w' => e = .returned (.int .i64 (orP x)) ∧ w = w' := by
 have H := hidE h
 clear h
 go_enter Tryz.func182, Tryz.ntmps182
 go_wp2_with fail
 go_loop [8] (fun i => ∃ k : Nat, k ≤ x.length ∧ i = .int .i64 k ∧ Hid (orP (x.drop k) = orP x)) (fun i => x.length - (intOf i).toNat)
 case atStart => exact ⟨0, Nat.zero_le _, rfl, hidE rfl⟩
 case round =>
  obtain ⟨k, hk, rfl, HO⟩ := hrel
  by_cases hlt : k < x.length
  ·obtain ⟨b, off, rfl, hbl, hc⟩ := H.out.at hlt
   have HS := hidE (orP_skip hlt)
   obtain ⟨q, hq⟩ : ∃ q, x[k] = q := ⟨_, rfl⟩
   rw [hq] at hc HS
   clear hq
   by_cases h0 : q = 0
   ·have h0b : (q != 0) = false := by simpa using h0
    have HS := hidE (HS.out.trans (if_pos h0))
    go_wp2_with fail
    go_round
    case rel => exact ⟨k + 1, by omega, by go_num, hidE (HS.out.symm.trans HO.out)⟩
    case measure => simp [intOf]; omega
   ·have h0b : (q != 0) = true := by simpa using h0
    have HS := hidE (HS.out.trans (if_neg h0))
    go_wp2_with fail
    go_ret
    exact ⟨by rw [← HO.out, HS.out]; rfl, rfl⟩
  ·obtain rfl : k = x.length := by omega
   go_wp2_with fail
   go_ret
   exact ⟨by rw [← HO.out, List.drop_length]; rfl, rfl⟩
def consP (N : Int) (bs : List Bd) : Int := if (consistentE N bs).2 ≠ 0 then (consistentE N bs).2 else if (consistentE N bs).1 then 0 else 10
set_option maxHeartbeats 400000 in
theorem consistentA_any (w : World) (N : Int) (a : Option Addr) (cap : Nat) (bs : List Bd) (hN : i64ok N) (hl : bs.length ≤ 9223372036854775807) (h : BoundsAt w a bs) :
 Calls Tryz.prog 133 #[.agg #[.int .i64 N, .slice a bs.length cap]] w fun e w' => e = .returned (.int .i64 (consP N bs)) ∧ Below w.heap.size w w' := by
 have hc := consistent_any (w.alloc (.cells #[.int .i64 N, .slice a bs.length cap] 24)) N a cap bs hN hl (h.alloc _)
 have b0 : Below w.heap.size w (w.alloc (.cells #[.int .i64 N, .slice a bs.length cap] 24)) := (Below.refl _ _).alloc (Nat.le_refl _) _
 obtain ⟨P, hP⟩ : ∃ x, consP N bs = x := ⟨_, rfl⟩
 rw [hP]
 unfold consP at hP
 obtain ⟨e1, h1⟩ : ∃ x, (consistentE N bs).1 = x := ⟨_, rfl⟩
 obtain ⟨e2, h2⟩ : ∃ x, (consistentE N bs).2 = x := ⟨_, rfl⟩
 rw [h1, h2] at hc hP
 have HC := hidE hc
 have B0 := hidE b0
 have HN := hidE hN
 clear hc h1 h2 h b0 hN
 have HO := fun (W : World) (x : Int) => or_any (W.alloc (.cells #[.int .i64 x, .int .i64 10] 28)) (some ⟨W.heap.size, 0, none⟩) 2 [x, 10] (by simp) (.inr ⟨W.heap.size, 0, rfl, by simp, fun i hi => by
  rw [cell_of_row _ _ _ _ _ _ (heap_alloc_new W _)]
  match i, hi with
  | 0, _ => rfl
  | 1, _ => rfl⟩)
 have HO := hidE HO
 by_cases z2 : e2 = 0
 ·subst z2
  cases e1 with
  | true =>
    obtain rfl : (0 : Int) = P := by simpa using hP
    go_enter Tryz.func133, Tryz.ntmps133
    go_wp2_with fail
    refine HC.out.mono ?_
    rintro e w1 ⟨rfl, hb1⟩
    go_wp2_with fail
    go_ret
    exact ⟨rfl, B0.out.trans (hb1.mono (by simp))⟩
  | false =>
    obtain rfl : (10 : Int) = P := by simpa using hP
    go_enter Tryz.func133, Tryz.ntmps133
    go_wp2_with fail
    refine HC.out.mono ?_
    rintro e w1 ⟨rfl, hb1⟩
    have B1 := hidE (B0.out.trans (hb1.mono (by simp)))
    clear hb1
    go_wp2_with fail
    refine (HO.out w1 0).mono ?_
    rintro e w2 ⟨rfl, rfl⟩
    go_wp2_with fail
    go_ret
    exact ⟨rfl, B1.out.alloc B1.out.size _⟩
 ·have z2b : (e2 != 0) = true := by simpa using z2
  have HZ : Hid (orP [e2, 10] = e2) := hidE (by simp [orP, z2])
  obtain rfl : e2 = P := by rw [if_pos z2] at hP; exact hP
  clear z2 hP
  go_enter Tryz.func133, Tryz.ntmps133
  go_wp2_with fail
  refine HC.out.mono ?_
  rintro e w1 ⟨rfl, hb1⟩
  have B1 := hidE (B0.out.trans (hb1.mono (by simp)))
  clear hb1
  go_wp2_with fail
  refine (HO.out w1 e2).mono ?_
  rintro e w2 ⟨rfl, rfl⟩
  go_wp2_with fail
  go_ret
  exact ⟨congrArg (fun x => Ending.returned (.int .i64 x)) HZ.out, B1.out.alloc B1.out.size _⟩
def askedA (N : Int) (bs : List Bd) (w : List Int) : Int := if checkP N bs ≠ 0 then checkP N bs else if weighedB N w = false then 1 else consP N bs
set_option maxHeartbeats 1000000 in
theorem askedA_any (w : World) (N : Int) (a : Option Addr) (cap : Nat) (bs : List Bd) (a2 : Option Addr) (cap2 : Nat) (y : List Int) (hN : i64ok N) (hl : bs.length ≤ 9223372036854775807) (hl2 : y.length ≤ 9223372036854775807) (h : BoundsAt w a bs) (h2 : IntsAt w a2 y) :
 Calls Tryz.prog 74 #[.agg #[.int .i64 N, .slice a bs.length cap], .slice a2 y.length cap2] w fun e w' => e = .returned (.int .i64 (askedA N bs y)) ∧ Below w.heap.size w w' := by
 have b0 : Below w.heap.size w (w.alloc (.cells #[.int .i64 N, .slice a bs.length cap] 24)) := (Below.refl _ _).alloc (Nat.le_refl _) _
 have hch := check_any (w.alloc (.cells #[.int .i64 N, .slice a bs.length cap] 24)) N a cap bs hN hl (h.alloc _)
 have hwe := fun W hy => weighed_any W N a2 cap2 y hl2 hy
 have hco := fun W hy => consistentA_any W N a cap bs hN hl hy
 obtain ⟨P, hP⟩ : ∃ x, askedA N bs y = x := ⟨_, rfl⟩
 rw [hP]
 unfold askedA at hP
 obtain ⟨c, hc⟩ : ∃ x, checkP N bs = x := ⟨_, rfl⟩
 obtain ⟨q, hq⟩ : ∃ x, weighedB N y = x := ⟨_, rfl⟩
 obtain ⟨r, hr⟩ : ∃ x, consP N bs = x := ⟨_, rfl⟩
 rw [hc] at hch
 rw [hq] at hwe
 rw [hr] at hco
 rw [hc, hq, hr] at hP
 have B0 := hidE b0
 have H := hidE h
 have H2 := hidE h2
 have HCH := hidE hch
 have HWE := hidE hwe
 have HCO := hidE hco
 clear b0 hch hwe hco hc hq hr h h2 hN
 by_cases z : c = 0
 ·subst z
  have HP := hidE hP
  clear hP
  go_enter Tryz.func74, Tryz.ntmps74
  go_wp2_with fail
  refine HCH.out.mono ?_
  rintro e w1 ⟨rfl, hb1⟩
  have x1 := blk_below hb1 (by simp) (heap_alloc_new w (.cells #[.int .i64 N, .slice a bs.length cap] 24))
  have e0 : w1.cell? ⟨w.heap.size, 0, none⟩ = some (.int .i64 N) := c_e x1 rfl
  have B1 := hidE (B0.out.trans (hb1.mono B0.out.size))
  have X1 := hidE x1
  have l1 := lt_of_block x1
  clear x1 hb1
  go_wp2_with fail
  refine (HWE.out _ (H2.out.below B1.out (Nat.le_refl _))).mono ?_
  rintro e w2 ⟨rfl, hb2⟩
  have x2 := blk_below hb2 l1 X1.out
  have f0 : w2.cell? ⟨w.heap.size, 0, none⟩ = some (.int .i64 N) := c_e x2 rfl
  have f1 : w2.cell? ⟨w.heap.size, 1, none⟩ = some (.slice a bs.length cap) := c_e x2 rfl
  have B2 := hidE (B1.out.trans (hb2.mono B1.out.size))
  clear x2 hb2 e0
  cases q with
  | false =>
    obtain rfl : (1 : Int) = P := by simpa using HP.out
    go_wp2_with fail
    go_ret
    exact ⟨rfl, B2.out⟩
  | true =>
    obtain rfl : r = P := by simpa using HP.out
    go_wp2_with fail
    refine (HCO.out _ (H.out.below B2.out (Nat.le_refl _))).mono ?_
    rintro e w3 ⟨rfl, hb3⟩
    have B3 := hidE (B2.out.trans (hb3.mono B2.out.size))
    clear hb3 f0 f1
    go_wp2_with fail
    go_ret
    exact ⟨rfl, B3.out⟩
 ·have zb : (c != 0) = true := by simpa using z
  obtain rfl : c = P := by rw [if_pos z] at hP; exact hP
  clear z hP
  go_enter Tryz.func74, Tryz.ntmps74
  go_wp2_with fail
  refine HCH.out.mono ?_
  rintro e w1 ⟨rfl, hb1⟩
  have B1 := hidE (B0.out.trans (hb1.mono B0.out.size))
  clear hb1
  go_wp2_with fail
  go_ret
  exact ⟨rfl, B1.out⟩
end Go.Proofs.YthjmkmjojlfejaaGreat
namespace Go.Proofs.YthjmkmjojlfejaaGreat
structure Arc where
 bd : Nat
 back : Bool
 src : Int
 dst : Int
 cost : Int
def Arc.bnd (a : Arc) : Bd := ⟨a.src, a.dst, a.cost, 0⟩
def arc0 : Arc := ⟨0, false, 0, 0, 0⟩
def fwdArc (i : Nat) (b : Bd) : Arc := ⟨i, false, b.src, b.dst, b.most⟩
def bwdArc (i : Nat) (b : Bd) : Arc := ⟨i, true, b.dst, b.src, -b.most⟩
def arcsAt (flow : List Int) (i : Nat) (b : Bd) : List Arc := fwdArc i b :: (if 0 < flow.getD i 0 then [bwdArc i b] else [])
def arcsFrom (flow : List Int) : Nat → List Bd → List Arc
 | _, [] => []
 | i, b :: bs => arcsAt flow i b ++ arcsFrom flow (i + 1) bs
def arcsP (bs : List Bd) (flow : List Int) : List Arc := arcsFrom flow 0 bs
def getK (l : List Bool) (i : Int) : Bool := l.getD i.toNat false
def getA (l : List Arc) (i : Int) : Arc := l.getD i.toNat arc0
structure Sh where
 c : List Int
 k : List Bool
 by_ : List Arc
def shorter (s : Sh) (a : Arc) : Bool := getK s.k a.src && !(getK s.k a.dst && decide (getI s.c a.dst ≤ getI s.c a.src + a.cost))
def Sh.upd (s : Sh) (a : Arc) : Sh := ⟨s.c.set a.dst.toNat (getI s.c a.src + a.cost), s.k.set a.dst.toNat true, s.by_.set a.dst.toNat a⟩
def relaxA (s : Sh × Bool) (a : Arc) : Sh × Bool := if shorter s.1 a then (s.1.upd a, true) else s
def passA (arcs : List Arc) (s : Sh) : Sh × Bool := arcs.foldl relaxA (s, false)
def shortGo (arcs : List Arc) : Nat → Sh → Option Sh
 | 0, _ => none
 | f + 1, s => if (passA arcs s).2 then shortGo arcs f (passA arcs s).1 else some (passA arcs s).1
inductive MidA (arcs : List Arc) (s0 : Sh) : Sh → Prop
 | start : MidA arcs s0 s0
 | step {s : Sh} {a : Arc} : MidA arcs s0 s → a ∈ arcs → shorter s a = true → MidA arcs s0 (s.upd a)
structure Fl where
 flow : List Int
 need : List Int
def shOne (p : Int) : Sh := ⟨List.replicate 128 0, (List.replicate 128 false).set p.toNat true, List.replicate 128 arc0⟩
def shAll (N : Nat) : Sh := ⟨List.replicate 128 0, List.replicate N true ++ List.replicate (128 - N) false, List.replicate 128 arc0⟩
def wants (s : Sh) (need : List Int) (q : Nat) : Bool := getK s.k q && decide (0 < getI need q)
def firstQ (N : Nat) (s : Sh) (need : List Int) : Option Nat := (List.range N).find? (wants s need)
def wayGo (by_ : List Arc) (p : Int) : Nat → Int → Option (List Arc)
 | 0, _ => none
 | f + 1, v => if v = p then some [] else (wayGo by_ p f (getA by_ v).src).map fun l => getA by_ v :: l
def less1 (flow : List Int) (m : Int) (a : Arc) : Int := if a.back then min m (flow.getD a.bd 0) else m
def muchP (flow : List Int) (way : List Arc) (m : Int) : Int := way.foldl (less1 flow) m
def move1 (much : Int) (flow : List Int) (a : Arc) : List Int := flow.set a.bd (if a.back then flow.getD a.bd 0 - much else flow.getD a.bd 0 + much)
def moveP (much : Int) (way : List Arc) (flow : List Int) : List Int := way.foldl (move1 much) flow
def addAt (l : List Int) (p : Nat) (d : Int) : List Int := l.set p (l.getD p 0 + d)
def pushP (N : Nat) (bs : List Bd) (F : Fl) (p : Nat) : Option (Option Fl) :=
 match shortGo (arcsP bs F.flow) 1000 (shOne p) with
 | none => none
 | some s =>
   match firstQ N s F.need with
   | none => some none
   | some q =>
     match wayGo s.by_ p 1000 q with
     | none => none
     | some way => some (some ⟨moveP (muchP F.flow way (min (-getI F.need p) (getI F.need q))) way F.flow, addAt (addAt F.need p (muchP F.flow way (min (-getI F.need p) (getI F.need q)))) q (-muchP F.flow way (min (-getI F.need p) (getI F.need q)))⟩)
def firstP (N : Nat) (need : List Int) : Option Nat := (List.range N).find? fun p => decide (getI need p < 0)
def need0 (N : Nat) (w : List Int) : List Int :=
 (List.range (N - 1)).foldl (fun l i => addAt (l.set (i + 1) (w.getD (i + 1) 0)) 0 (-w.getD (i + 1) 0)) (List.replicate 128 0)
def valsOf (N : Nat) (s : Sh) : List Int := (List.range N).map fun p => getI s.c (p : Nat) - getI s.c 0
structure BestR where
 n : Int
 y : List Int
 flow : List Int
def resid (A : List Arc) : List Bd := A.map Arc.bnd
theorem mem_resid {A : List Arc} {a : Arc} (h : a ∈ A) : a.bnd ∈ resid A := List.mem_map.2 ⟨a, h, rfl⟩
theorem getK_set (h : List Bool) (j i : Int) (v : Bool) : getK (h.set j.toNat v) i = if i.toNat = j.toNat ∧ j.toNat < h.length then v else getK h i := by
 unfold getK
 simp only [List.getD_eq_getElem?_getD, List.getElem?_set]
 by_cases e : j.toNat = i.toNat
 ·by_cases hl : j.toNat < h.length
  ·simp [e, show i.toNat < h.length by omega]
  ·simp [e, show ¬ i.toNat < h.length by omega]
 ·simp [e, Ne.symm e]
theorem getA_set (h : List Arc) (j i : Int) (v : Arc) : getA (h.set j.toNat v) i = if i.toNat = j.toNat ∧ j.toNat < h.length then v else getA h i := by
 unfold getA
 simp only [List.getD_eq_getElem?_getD, List.getElem?_set]
 by_cases e : j.toNat = i.toNat
 ·by_cases hl : j.toNat < h.length
  ·simp [e, show i.toNat < h.length by omega]
  ·simp [e, show ¬ i.toNat < h.length by omega]
 ·simp [e, Ne.symm e]
def Sh.whole (s : Sh) : Prop := s.c.length = 128 ∧ s.k.length = 128 ∧ s.by_.length = 128
theorem Sh.upd_whole {s : Sh} (h : s.whole) (a : Arc) : (s.upd a).whole := by
 obtain ⟨h1, h2, h3⟩ := h
 exact ⟨by simp [Sh.upd, h1], by simp [Sh.upd, h2], by simp [Sh.upd, h3]⟩
theorem upd_c {s : Sh} (h : s.whole) {N : Nat} (hN : N ≤ 128) {a : Arc} (hv : a.bnd.valid N) {v : Int} (v0 : 0 ≤ v) : getI (s.upd a).c v = if v = a.dst then getI s.c a.src + a.cost else getI s.c v := by
 obtain ⟨_, _, h3, h4, _⟩ := hv
 simp only [Arc.bnd] at h3 h4
 show getI (s.c.set a.dst.toNat _) v = _
 rw [getI_set]
 by_cases e : v = a.dst
 ·rw [if_pos e, if_pos ⟨by rw [e], by rw [h.1]; omega⟩]
 ·rw [if_neg e, if_neg (by omega)]
theorem upd_k {s : Sh} (h : s.whole) {N : Nat} (hN : N ≤ 128) {a : Arc} (hv : a.bnd.valid N) {v : Int} (v0 : 0 ≤ v) : getK (s.upd a).k v = if v = a.dst then true else getK s.k v := by
 obtain ⟨_, _, h3, h4, _⟩ := hv
 simp only [Arc.bnd] at h3 h4
 show getK (s.k.set a.dst.toNat _) v = _
 rw [getK_set]
 by_cases e : v = a.dst
 ·rw [if_pos e, if_pos ⟨by rw [e], by rw [h.2.1]; omega⟩]
 ·rw [if_neg e, if_neg (by omega)]
theorem upd_by {s : Sh} (h : s.whole) {N : Nat} (hN : N ≤ 128) {a : Arc} (hv : a.bnd.valid N) {v : Int} (v0 : 0 ≤ v) : getA (s.upd a).by_ v = if v = a.dst then a else getA s.by_ v := by
 obtain ⟨_, _, h3, h4, _⟩ := hv
 simp only [Arc.bnd] at h3 h4
 show getA (s.by_.set a.dst.toNat _) v = _
 rw [getA_set]
 by_cases e : v = a.dst
 ·rw [if_pos e, if_pos ⟨by rw [e], by rw [h.2.2]; omega⟩]
 ·rw [if_neg e, if_neg (by omega)]
theorem shorter_src {s : Sh} {a : Arc} (h : shorter s a = true) : getK s.k a.src = true := by
 unfold shorter at h; simp only [Bool.and_eq_true] at h; exact h.1
theorem shorter_lt {s : Sh} {a : Arc} (h : shorter s a = true) (hk : getK s.k a.dst = true) : getI s.c a.src + a.cost < getI s.c a.dst := by
 unfold shorter at h; simp [hk] at h; exact h.2
theorem not_shorter {s : Sh} {a : Arc} (h : shorter s a = false) (hk : getK s.k a.src = true) : getK s.k a.dst = true ∧ getI s.c a.dst ≤ getI s.c a.src + a.cost := by
 unfold shorter at h; simp [hk] at h; exact h
structure ShInv (N : Nat) (A : List Arc) (Sr : Int → Prop) (s : Sh) : Prop where
 whole : s.whole
 reach : ∀ v : Int, 0 ≤ v → v < N → getK s.k v = true → ∃ a l, Sr a ∧ 0 ≤ a ∧ a < N ∧ Walk a v l ∧ Over (resid A) l ∧ wsum l = getI s.c v
 srck : ∀ v, Sr v → getK s.k v = true ∧ getI s.c v ≤ 0
 few : ∀ v : Int, 0 ≤ v → v < N → getK s.k v = true → getI s.c v ≤ 1000000 * (s.k.count true : Nat)
theorem count_set_true : ∀ (l : List Bool) (i : Nat), i < l.length → l.getD i false = false → (l.set i true).count true = l.count true + 1
 | [], i, h, _ => by simp at h
 | b :: l, 0, _, h => by simp at h; subst h; simp
 | b :: l, i + 1, h, h2 => by
   have := count_set_true l i (by simpa using h) (by simpa using h2)
   simp only [List.set_cons_succ, List.count_cons, this]; omega
theorem count_set_same : ∀ (l : List Bool) (i : Nat), l.getD i false = true → (l.set i true) = l
 | [], i, h => by simp at h
 | b :: l, 0, h => by simp at h; subst h; rfl
 | b :: l, i + 1, h => by simp only [List.set_cons_succ]; rw [count_set_same l i (by simpa using h)]
theorem ShInv.step {N : Nat} {A : List Arc} {Sr : Int → Prop} {s : Sh} (hN : N ≤ 128) (hv : AllValid N (resid A)) (H : ShInv N A Sr s) {a : Arc} (ha : a ∈ A) (hs : shorter s a = true) : ShInv N A Sr (s.upd a) := by
 have hva := hv _ (mem_resid ha)
 obtain ⟨v1, v2, v3, v4, v5, v6⟩ := hva
 simp only [Arc.bnd] at v1 v2 v3 v4 v5 v6
 have ksrc := shorter_src hs
 have hcnt : (s.k.count true : Nat) ≤ ((s.upd a).k.count true : Nat) ∧ (getK s.k a.dst = false → ((s.upd a).k.count true : Nat) = s.k.count true + 1) := by
  show _ ≤ (s.k.set a.dst.toNat true).count true ∧ (_ → (s.k.set a.dst.toNat true).count true = _)
  by_cases hk : getK s.k a.dst = true
  ·rw [count_set_same _ _ hk]; exact ⟨Nat.le_refl _, fun h => by rw [hk] at h; cases h⟩
  ·have hk' : getK s.k a.dst = false := by simpa using hk
   rw [count_set_true _ _ (by rw [H.whole.2.1]; omega) hk']
   exact ⟨by omega, fun _ => rfl⟩
 refine ⟨Sh.upd_whole H.whole a, ?_, ?_, ?_⟩
 ·intro v h0 h1 hk
  rw [upd_k H.whole hN (hv _ (mem_resid ha)) h0] at hk
  rw [upd_c H.whole hN (hv _ (mem_resid ha)) h0]
  by_cases e : v = a.dst
  ·subst e
   obtain ⟨x, l, sx, x0, x1, hw, ho, hsum⟩ := H.reach a.src v1 v2 ksrc
   refine ⟨x, l ++ [a.bnd], sx, x0, x1, hw.trans ⟨rfl, rfl⟩, ho.append (Over.one (mem_resid ha)), ?_⟩
   rw [wsum_append, hsum, if_pos rfl]; simp [wsum, Arc.bnd]
  ·rw [if_neg e] at hk ⊢
   exact H.reach v h0 h1 hk
 ·intro v hsv
  obtain ⟨k1, c1⟩ := H.srck v hsv
  by_cases h0 : 0 ≤ v
  ·rw [upd_k H.whole hN (hv _ (mem_resid ha)) h0, upd_c H.whole hN (hv _ (mem_resid ha)) h0]
   by_cases e : v = a.dst
   ·subst e
    rw [if_pos rfl, if_pos rfl]
    have := shorter_lt hs k1
    exact ⟨rfl, by omega⟩
   ·rw [if_neg e, if_neg e]; exact ⟨k1, c1⟩
  ·have e0 : v.toNat = 0 := by omega
   have ek : getK (s.upd a).k v = getK (s.upd a).k 0 := by unfold getK; rw [e0]; rfl
   have ec : getI (s.upd a).c v = getI (s.upd a).c 0 := by unfold getI; rw [e0]; rfl
   have ek2 : getK s.k v = getK s.k 0 := by unfold getK; rw [e0]; rfl
   have ec2 : getI s.c v = getI s.c 0 := by unfold getI; rw [e0]; rfl
   rw [ek, ec, upd_k H.whole hN (hv _ (mem_resid ha)) (Int.le_refl 0), upd_c H.whole hN (hv _ (mem_resid ha)) (Int.le_refl 0)]
   rw [ek2] at k1; rw [ec2] at c1
   by_cases e : (0 : Int) = a.dst
   ·rw [if_pos e, if_pos e]
    have := shorter_lt hs (by rw [← e]; exact k1)
    rw [← e] at this
    exact ⟨rfl, by omega⟩
   ·rw [if_neg e, if_neg e]; exact ⟨k1, c1⟩
 ·intro v h0 h1 hk
  rw [upd_k H.whole hN (hv _ (mem_resid ha)) h0] at hk
  rw [upd_c H.whole hN (hv _ (mem_resid ha)) h0]
  by_cases e : v = a.dst
  ·subst e
   rw [if_pos rfl]
   by_cases hkd : getK s.k a.dst = true
   ·have h2 := shorter_lt hs hkd
    have h3 := H.few a.dst h0 h1 hkd
    have := hcnt.1
    omega
   ·have h3 := H.few a.src v1 v2 ksrc
    have := hcnt.2 (by simpa using hkd)
    omega
  ·rw [if_neg e] at hk ⊢
   have h3 := H.few v h0 h1 hk
   have := hcnt.1
   omega
theorem ShInv.mid {N : Nat} {A : List Arc} {Sr : Int → Prop} {s0 s : Sh} (hN : N ≤ 128) (hv : AllValid N (resid A)) (H : ShInv N A Sr s0) (h : MidA A s0 s) : ShInv N A Sr s := by
 induction h with
 | start => exact H
 | step _ ha hs ih => exact ih.step hN hv ha hs
theorem wsum_low : ∀ {N : Nat} {bs l : List Bd}, AllValid N bs → Over bs l → -(1000000 * (l.length : Int)) ≤ wsum l
 | _, _, [], _, _ => by simp [wsum]
 | N, bs, x :: l, hv, ho => by
   have h1 := wsum_low hv ho.tail
   obtain ⟨_, _, _, _, h2, _⟩ := hv x ho.head
   simp only [wsum, List.length_cons]
   omega
theorem walk_low {N : Nat} {bs l : List Bd} {a b : Int} (hN : N ≤ 128) (hv : AllValid N bs) (hn : NoNeg bs) (h0 : 0 ≤ a) (h1 : a < N) (hw : Walk a b l) (ho : Over bs l) : -127000000 ≤ wsum l := by
 obtain ⟨l', g1, g2, g3, g4⟩ := walk_short hv hn l.length (Nat.le_refl _) h0 h1 hw ho
 have := wsum_low hv g2
 omega
theorem ShInv.bounds {N : Nat} {A : List Arc} {Sr : Int → Prop} {s : Sh} (hN : N ≤ 128) (hv : AllValid N (resid A)) (hn : NoNeg (resid A)) (H : ShInv N A Sr s) {v : Int} (h0 : 0 ≤ v) (h1 : v < N) (hk : getK s.k v = true) :
 -127000000 ≤ getI s.c v ∧ getI s.c v ≤ 128000000 := by
 obtain ⟨a, l, sx, x0, x1, hw, ho, hsum⟩ := H.reach v h0 h1 hk
 have := walk_low hN hv hn x0 x1 hw ho
 have h2 := H.few v h0 h1 hk
 have h3 : s.k.count true ≤ s.k.length := List.count_le_length
 have h4 := H.whole.2.1
 omega
theorem relaxA_mid {A : List Arc} {s0 : Sh} {s : Sh × Bool} (h : MidA A s0 s.1) {a : Arc} (ha : a ∈ A) : MidA A s0 (relaxA s a).1 := by
 unfold relaxA
 cases hs : shorter s.1 a with
 | true => simp only [if_true]; exact h.step ha hs
 | false => simpa using h
theorem fold_mid {A : List Arc} {s0 : Sh} : ∀ (l : List Arc) (s : Sh × Bool), (∀ a ∈ l, a ∈ A) → MidA A s0 s.1 → MidA A s0 (l.foldl relaxA s).1
 | [], _, _, h => h
 | a :: l, _, hl, h => fold_mid l _ (fun x hx => hl x (List.mem_cons_of_mem _ hx)) (relaxA_mid h (hl a (List.mem_cons_self ..)))
theorem pass_mid {A : List Arc} {s0 s : Sh} (h : MidA A s0 s) : MidA A s0 (passA A s).1 := fold_mid A (s, false) (fun _ h => h) h
theorem short_mid {A : List Arc} {s0 : Sh} : ∀ (f : Nat) (s s' : Sh), MidA A s0 s → shortGo A f s = some s' → MidA A s0 s'
 | 0, _, _, _, e => by cases e
 | f + 1, s, s', h, e => by
   simp only [shortGo] at e
   split at e
   ·exact short_mid f _ _ (pass_mid h) e
   ·cases e; exact pass_mid h
theorem relaxA_flag {s : Sh × Bool} (h : s.2 = true) (a : Arc) : (relaxA s a).2 = true := by unfold relaxA; split <;> first | rfl | exact h
theorem foldA_flag : ∀ (l : List Arc) (s : Sh × Bool), s.2 = true → (l.foldl relaxA s).2 = true
 | [], _, h => h
 | a :: l, _, h => foldA_flag l _ (relaxA_flag h a)
theorem foldA_still : ∀ (l : List Arc) (s : Sh × Bool), (l.foldl relaxA s).2 = false → (l.foldl relaxA s).1 = s.1 ∧ ∀ a ∈ l, shorter s.1 a = false
 | [], _, _ => ⟨rfl, fun _ h => by cases h⟩
 | a :: l, s, h => by
   rw [List.foldl_cons] at h ⊢
   cases hs : shorter s.1 a with
   | true =>
     have : (relaxA s a).2 = true := by unfold relaxA; rw [hs]; rfl
     rw [foldA_flag l _ this] at h; cases h
   | false =>
     have e : relaxA s a = s := by unfold relaxA; rw [hs]; rfl
     rw [e] at h ⊢
     obtain ⟨h1, h2⟩ := foldA_still l s h
     exact ⟨h1, fun x hx => (List.mem_cons.1 hx).elim (fun e => by rw [e]; exact hs) (h2 x)⟩
theorem short_fix {A : List Arc} : ∀ (f : Nat) (s s' : Sh), shortGo A f s = some s' → ∀ a ∈ A, shorter s' a = false
 | 0, _, _, e => by cases e
 | f + 1, s, s', e => by
   simp only [shortGo] at e
   split at e
   ·exact short_fix f _ _ e
   ·rename_i hf
    cases e
    obtain ⟨h1, h2⟩ := foldA_still A (s, false) (by simpa [passA] using hf)
    intro a ha
    show shorter (A.foldl relaxA (s, false)).1 a = false
    rw [h1]; exact h2 a ha
def LowK (N : Nat) (A : List Arc) (Sr : Int → Prop) (k : Nat) (s : Sh) : Prop := ∀ a v l, Sr a → 0 ≤ a → a < (N : Int) → Walk a v l → Over (resid A) l → l.length ≤ k → getK s.k v = true ∧ getI s.c v ≤ wsum l
theorem getK_rep (n : Nat) (v : Int) : getK (List.replicate n false) v = false := by
 unfold getK
 simp only [List.getD_eq_getElem?_getD, List.getElem?_replicate]
 split <;> rfl
theorem shOne_inv {N : Nat} {A : List Arc} {p : Nat} (hN : N ≤ 128) (hp : p < N) : ShInv N A (fun v => v = (p : Int)) (shOne p) ∧ LowK N A (fun v => v = (p : Int)) 0 (shOne p) := by
 have hk : ∀ v : Int, 0 ≤ v → (getK (shOne p).k v = true ↔ v = p) := by
  intro v h0
  show getK ((List.replicate 128 false).set (p : Int).toNat true) v = true ↔ _
  rw [getK_set, getK_rep]
  by_cases e : v = p
  ·rw [if_pos ⟨by rw [e], by simp; omega⟩]; simp [e]
  ·rw [if_neg (by omega)]; simp [e]
 have hc : ∀ v, getI (shOne p).c v = 0 := fun v => getI_rep0 v
 refine ⟨⟨⟨by simp [shOne], by simp [shOne], by simp [shOne]⟩, ?_, ?_, ?_⟩, ?_⟩
 ·intro v h0 h1 h
  have := (hk v h0).1 h
  exact ⟨v, [], this, h0, h1, rfl, Over.nil, by rw [hc]; rfl⟩
 ·intro v e
  rw [hc]
  exact ⟨(hk v (by omega)).2 e, Int.le_refl _⟩
 ·intro v _ _ _
  rw [hc]; omega
 ·intro a v l e h0 h1 hw ho hlen
  have : l = [] := List.length_eq_zero_iff.1 (by omega)
  subst this
  simp only [Walk] at hw
  subst hw
  exact ⟨(hk a h0).2 e, by rw [hc]; simp [wsum]⟩
theorem shAll_inv {N : Nat} {A : List Arc} (hN : N ≤ 128) : ShInv N A (fun v => 0 ≤ v ∧ v < (N : Int)) (shAll N) ∧ LowK N A (fun v => 0 ≤ v ∧ v < (N : Int)) 0 (shAll N) := by
 have hk : ∀ v : Int, 0 ≤ v → v < N → getK (shAll N).k v = true := by
  intro v h0 h1
  show (List.replicate N true ++ List.replicate (128 - N) false).getD v.toNat false = true
  rw [List.getD_eq_getElem?_getD, List.getElem?_append_left (by rw [List.length_replicate]; omega), List.getElem?_replicate, if_pos (by omega)]
  rfl
 have hc : ∀ v, getI (shAll N).c v = 0 := fun v => getI_rep0 v
 refine ⟨⟨⟨by simp [shAll], by simp [shAll]; omega, by simp [shAll]⟩, ?_, ?_, ?_⟩, ?_⟩
 ·intro v h0 h1 h
  exact ⟨v, [], ⟨h0, h1⟩, h0, h1, rfl, Over.nil, by rw [hc]; rfl⟩
 ·intro v e
  rw [hc]
  exact ⟨hk v e.1 e.2, Int.le_refl _⟩
 ·intro v _ _ _
  rw [hc]; omega
 ·intro a v l e h0 h1 hw ho hlen
  have : l = [] := List.length_eq_zero_iff.1 (by omega)
  subst this
  simp only [Walk] at hw
  subst hw
  exact ⟨hk a e.1 e.2, by rw [hc]; simp [wsum]⟩
inductive Up (by_ : List Arc) (p : Int) : Nat → Int → Prop
 | root : Up by_ p 0 p
 | step {n : Nat} {v : Int} : v ≠ p → Up by_ p n (getA by_ v).src → Up by_ p (n + 1) v
theorem Up.det {by_ : List Arc} {p : Int} : ∀ {n m : Nat} {v : Int}, Up by_ p n v → Up by_ p m v → n = m
 | 0, 0, _, _, _ => rfl
 | 0, m + 1, _, h1, h2 => by cases h1; cases h2; rename_i h _; exact absurd rfl h
 | n + 1, 0, _, h1, h2 => by cases h2; cases h1; rename_i h _; exact absurd rfl h
 | n + 1, m + 1, _, h1, h2 => by
   cases h1; cases h2
   rename_i _ a _ b
   rw [Up.det a b]
structure ByInv (N : Nat) (A : List Arc) (p : Int) (s : Sh) : Prop where
 arc : ∀ v, 0 ≤ v → v < (N : Int) → getK s.k v = true → v ≠ p → getA s.by_ v ∈ A ∧ (getA s.by_ v).dst = v ∧ getK s.k (getA s.by_ v).src = true ∧ getI s.c (getA s.by_ v).src + (getA s.by_ v).cost ≤ getI s.c v
 up : ∀ v, 0 ≤ v → v < (N : Int) → getK s.k v = true → ∃ n, Up s.by_ p n v
theorem ByInv.step {N : Nat} {A : List Arc} {p : Int} {s : Sh} (hN : N ≤ 128) (hv : AllValid N (resid A)) (hn : NoNeg (resid A)) (hp0 : 0 ≤ p) (HR : ShInv N A (fun v => v = p) s) (H : ByInv N A p s) {a : Arc} (ha : a ∈ A) (hs : shorter s a = true) : ByInv N A p (s.upd a) := by
 obtain ⟨v1, v2, v3, v4, _⟩ := hv _ (mem_resid ha)
 simp only [Arc.bnd] at v1 v2 v3 v4
 have ksrc := shorter_src hs
 have hwh := HR.whole
 have ec := fun {v : Int} (h0 : 0 ≤ v) => upd_c hwh hN (hv _ (mem_resid ha)) h0
 have ek := fun {v : Int} (h0 : 0 ≤ v) => upd_k hwh hN (hv _ (mem_resid ha)) h0
 have eb := fun {v : Int} (h0 : 0 ≤ v) => upd_by hwh hN (hv _ (mem_resid ha)) h0
 have closed : ∀ l, Walk a.dst a.src l → Over (resid A) l → 0 ≤ wsum l + a.cost := by
  intro l hw ho
  have := hn a.dst (l ++ [a.bnd]) (hw.trans ⟨rfl, rfl⟩) (ho.append (Over.one (mem_resid ha)))
  rw [wsum_append] at this
  simpa [wsum, Arc.bnd] using this
 have hvp : a.dst ≠ p := by
  intro e
  obtain ⟨k1, c1⟩ := HR.srck p rfl
  obtain ⟨x, l, sx, x0, x1, hw, ho, hsum⟩ := HR.reach a.src v1 v2 ksrc
  subst sx
  have h1 := shorter_lt hs (by rw [e]; exact k1)
  have h2 := closed l (by rw [e]; exact hw) ho
  rw [e] at h1
  omega
 have huv : a.src ≠ a.dst := by
  intro e
  have h1 := shorter_lt hs (by rw [← e]; exact ksrc)
  have h2 := closed [] (by rw [e]; rfl) Over.nil
  rw [← e] at h1
  simp [wsum] at h2
  omega
 have fall : ∀ x, 0 ≤ x → x < (N : Int) → getK s.k x = true → getI (s.upd a).c x ≤ getI s.c x := by
  intro x h0 h1 hk
  rw [ec h0]
  by_cases e : x = a.dst
  ·subst e; rw [if_pos rfl]; have := shorter_lt hs hk; omega
  ·rw [if_neg e]; exact Int.le_refl _
 have hu : ∀ (n : Nat) (y : Int), Up s.by_ p n y → 0 ≤ y → y < (N : Int) → getK s.k y = true → (∃ l, Walk y a.src l ∧ Over (resid A) l ∧ wsum l ≤ getI s.c a.src - getI s.c y) → Up (s.upd a).by_ p n y := by
  intro n y h
  induction h with
  | root => intro _ _ _ _; exact Up.root
  | @step n y hyp hup ih =>
    intro y0 y1 hk ⟨l, hw, ho, hsum⟩
    have hyv : y ≠ a.dst := by
     intro e
     subst e
     have h1 := shorter_lt hs hk
     have h2 := closed l hw ho
     omega
    obtain ⟨b1, b2, b3, b4⟩ := H.arc y y0 y1 hk hyp
    obtain ⟨z1, z2, _⟩ := hv _ (mem_resid b1)
    simp only [Arc.bnd] at z1 z2
    refine Up.step hyp ?_
    rw [eb y0, if_neg hyv]
    refine ih z1 z2 b3 ⟨(getA s.by_ y).bnd :: l, ⟨rfl, by show Walk (getA s.by_ y).dst _ _; rw [b2]; exact hw⟩, (Over.one (mem_resid b1)).append ho, ?_⟩
    simp only [wsum, Arc.bnd]
    omega
 obtain ⟨m0, hm0⟩ := H.up a.src v1 v2 ksrc
 have hm := hu m0 a.src hm0 v1 v2 ksrc ⟨[], rfl, Over.nil, by simp [wsum]⟩
 have hall : ∀ (n : Nat) (x : Int), Up s.by_ p n x → 0 ≤ x → x < (N : Int) → getK s.k x = true → ∃ n', Up (s.upd a).by_ p n' x := by
  intro n x h
  induction h with
  | root => intro _ _ _; exact ⟨0, Up.root⟩
  | @step n x hxp hup ih =>
    intro x0 x1 hk
    by_cases e : x = a.dst
    ·subst e
     exact ⟨m0 + 1, Up.step hxp (by rw [eb x0, if_pos rfl]; exact hm)⟩
    ·obtain ⟨b1, b2, b3, b4⟩ := H.arc x x0 x1 hk hxp
     obtain ⟨z1, z2, _⟩ := hv _ (mem_resid b1)
     simp only [Arc.bnd] at z1 z2
     obtain ⟨n', hn'⟩ := ih z1 z2 b3
     exact ⟨n' + 1, Up.step hxp (by rw [eb x0, if_neg e]; exact hn')⟩
 refine ⟨fun x x0 x1 hk hxp => ?_, fun x x0 x1 hk => ?_⟩
 ·rw [ek x0] at hk
  rw [eb x0, ec x0]
  by_cases e : x = a.dst
  ·subst e
   rw [if_pos rfl, if_pos rfl, ek v1, if_neg huv, ec v1, if_neg huv]
   exact ⟨ha, rfl, ksrc, Int.le_refl _⟩
  ·rw [if_neg e] at hk ⊢
   rw [if_neg e]
   obtain ⟨b1, b2, b3, b4⟩ := H.arc x x0 x1 hk hxp
   obtain ⟨z1, z2, _⟩ := hv _ (mem_resid b1)
   simp only [Arc.bnd] at z1 z2
   refine ⟨b1, b2, ?_, ?_⟩
   ·rw [ek z1]; split <;> first | rfl | exact b3
   ·have := fall _ z1 z2 b3; omega
 ·rw [ek x0] at hk
  by_cases e : x = a.dst
  ·subst e
   exact ⟨m0 + 1, Up.step hvp (by rw [eb x0, if_pos rfl]; exact hm)⟩
  ·rw [if_neg e] at hk
   obtain ⟨n, hn1⟩ := H.up x x0 x1 hk
   exact hall n x hn1 x0 x1 hk
theorem ByInv.start {N : Nat} {A : List Arc} {p : Nat} (_hp : p < N) (_hN : N ≤ 128) : ByInv N A p (shOne p) := by
 have hk : ∀ v : Int, 0 ≤ v → getK (shOne p).k v = true → v = p := by
  intro v h0 h
  have h' : getK ((List.replicate 128 false).set (p : Int).toNat true) v = true := h
  rw [getK_set, getK_rep] at h'
  by_cases e : v = p
  ·exact e
  ·rw [if_neg (by omega)] at h'; cases h'
 exact ⟨fun v h0 _ h hne => absurd (hk v h0 h) hne, fun v h0 _ h => by rw [hk v h0 h]; exact ⟨0, Up.root⟩⟩
theorem ByInv.mid {N : Nat} {A : List Arc} {p : Int} {s0 s : Sh} (hN : N ≤ 128) (hv : AllValid N (resid A)) (hn : NoNeg (resid A)) (hp0 : 0 ≤ p) (HR : ShInv N A (fun v => v = p) s0) (H : ByInv N A p s0) (h : MidA A s0 s) : ByInv N A p s := by
 induction h with
 | start => exact H
 | step h1 ha hs ih => exact ih.step hN hv hn hp0 (HR.mid hN hv h1) ha hs
def anc (by_ : List Arc) (v : Int) : Nat → Int
 | 0 => v
 | k + 1 => (getA by_ (anc by_ v k)).src
theorem Up.anc {by_ : List Arc} {p : Int} {n : Nat} {v : Int} (h : Up by_ p n v) : ∀ k, k ≤ n → Up by_ p (n - k) (anc by_ v k)
 | 0, _ => h
 | k + 1, hk => by
   have h1 := Up.anc h k (by omega)
   have e : n - k = (n - (k + 1)) + 1 := by omega
   rw [e] at h1
   cases h1
   rename_i _ h2
   exact h2
theorem ByInv.anc_range {N : Nat} {A : List Arc} {p : Int} {s : Sh} (hv : AllValid N (resid A)) (H : ByInv N A p s) {v : Int} {n : Nat} (h0 : 0 ≤ v) (h1 : v < N) (hk : getK s.k v = true) (h : Up s.by_ p n v) : ∀ k, k ≤ n → 0 ≤ anc s.by_ v k ∧ anc s.by_ v k < N ∧ getK s.k (anc s.by_ v k) = true
 | 0, _ => ⟨h0, h1, hk⟩
 | k + 1, hkn => by
   obtain ⟨g0, g1, g2⟩ := ByInv.anc_range hv H h0 h1 hk h k (by omega)
   have hu := h.anc k (by omega)
   have e : n - k = (n - (k + 1)) + 1 := by omega
   rw [e] at hu
   cases hu
   rename_i hne _
   obtain ⟨b1, b2, b3, b4⟩ := H.arc _ g0 g1 g2 hne
   obtain ⟨z1, z2, _⟩ := hv _ (mem_resid b1)
   exact ⟨z1, z2, b3⟩
theorem ByInv.depth {N : Nat} {A : List Arc} {p : Int} {s : Sh} (hv : AllValid N (resid A)) (H : ByInv N A p s) {v : Int} {n : Nat} (h0 : 0 ≤ v) (h1 : v < N) (hk : getK s.k v = true) (h : Up s.by_ p n v) : n < N := by
 apply Classical.byContradiction
 intro hge
 obtain ⟨i, j, hij, hj, e⟩ := pigeon N (fun k => (anc s.by_ v k).toNat) (fun k hkN => by
  have := ByInv.anc_range hv H h0 h1 hk h k (by omega)
  show (anc s.by_ v k).toNat < N
  omega)
 have ri := ByInv.anc_range hv H h0 h1 hk h i (by omega)
 have rj := ByInv.anc_range hv H h0 h1 hk h j (by omega)
 have e2 : anc s.by_ v i = anc s.by_ v j := by
  have e' : (anc s.by_ v i).toNat = (anc s.by_ v j).toNat := e
  omega
 have ui := h.anc i (by omega)
 have uj := h.anc j (by omega)
 rw [e2] at ui
 have := ui.det uj
 omega
inductive Way (N : Nat) (A : List Arc) (p : Int) (s : Sh) : Nat → Int → List Arc → Prop
 | nil : Way N A p s 0 p []
 | cons {n : Nat} {v : Int} {l : List Arc} : v ≠ p → 0 ≤ v → v < N → getK s.k v = true → getA s.by_ v ∈ A → (getA s.by_ v).dst = v → getI s.c v = getI s.c (getA s.by_ v).src + (getA s.by_ v).cost →
  Up s.by_ p (n + 1) v → Way N A p s n (getA s.by_ v).src l → Way N A p s (n + 1) v (getA s.by_ v :: l)
theorem way_of {N : Nat} {A : List Arc} {p : Int} {s : Sh} (hv : AllValid N (resid A)) (H : ByInv N A p s) (hfix : ∀ a ∈ A, shorter s a = false) : ∀ (n : Nat) (v : Int), Up s.by_ p n v → 0 ≤ v → v < N → getK s.k v = true → ∀ f, n < f →
 ∃ l, wayGo s.by_ p f v = some l ∧ Way N A p s n v l := by
 intro n v h
 induction h with
 | root =>
   intro _ _ _ f hf
   obtain ⟨f', rfl⟩ : ∃ f', f = f' + 1 := ⟨f - 1, by omega⟩
   exact ⟨[], by simp [wayGo], Way.nil⟩
 | @step n v hvp hup ih =>
   intro h0 h1 hk f hf
   obtain ⟨f', rfl⟩ : ∃ f', f = f' + 1 := ⟨f - 1, by omega⟩
   obtain ⟨b1, b2, b3, b4⟩ := H.arc v h0 h1 hk hvp
   obtain ⟨z1, z2, _⟩ := hv _ (mem_resid b1)
   obtain ⟨l, e, hw⟩ := ih z1 z2 b3 f' (by omega)
   have ht := (not_shorter (hfix _ b1) b3).2
   rw [b2] at ht
   exact ⟨getA s.by_ v :: l, by simp [wayGo, hvp, e], Way.cons hvp h0 h1 hk b1 b2 (by omega) (Up.step hvp hup) hw⟩
theorem Way.depths {N : Nat} {A : List Arc} {p : Int} {s : Sh} {n : Nat} {v : Int} {l : List Arc} (h : Way N A p s n v l) : ∀ a ∈ l, a ∈ A ∧ ∃ k, k < n ∧ Up s.by_ p (k + 1) a.dst ∧ Up s.by_ p k a.src := by
 induction h with
 | nil => intro a ha; cases ha
 | @cons n v l hvp h0 h1 hk hA hd ht hup hw ih =>
   intro a ha
   rcases List.mem_cons.1 ha with rfl | ha
   ·refine ⟨hA, n, by omega, by rw [hd]; exact hup, ?_⟩
    cases hup
    rename_i _ h
    exact h
   ·obtain ⟨h2, k, hk2, h3, h4⟩ := ih a ha
    exact ⟨h2, k, by omega, h3, h4⟩
theorem getD_set_at (l : List Int) (i j : Nat) (x : Int) : (l.set i x).getD j 0 = if i = j ∧ i < l.length then x else l.getD j 0 := by
 simp only [List.getD_eq_getElem?_getD, List.getElem?_set]
 by_cases e : i = j
 ·subst e
  by_cases h : i < l.length
  ·simp [h]
  ·simp [h]
 ·simp [e]
theorem mem_arcsFrom {flow : List Int} {a : Arc} : ∀ {i : Nat} {bs : List Bd}, a ∈ arcsFrom flow i bs ↔ ∃ j, ∃ h : j < bs.length, a = fwdArc (i + j) bs[j] ∨ (a = bwdArc (i + j) bs[j] ∧ 0 < flow.getD (i + j) 0)
 | _, [] => by simp [arcsFrom]
 | i, b :: bs => by
   simp only [arcsFrom, arcsAt, List.mem_append, List.mem_cons, mem_arcsFrom (i := i + 1) (bs := bs)]
   constructor
   ·rintro ((rfl | h) | ⟨j, hj, h⟩)
    ·exact ⟨0, by simp, .inl rfl⟩
    ·split at h
     ·rename_i hp
      simp only [List.mem_singleton] at h
      subst h
      exact ⟨0, by simp, .inr ⟨rfl, by simpa using hp⟩⟩
     ·cases h
    ·refine ⟨j + 1, by simpa using hj, ?_⟩
     rw [show i + (j + 1) = i + 1 + j from by omega]
     simpa using h
   ·rintro ⟨j, hj, h⟩
    cases j with
    | zero =>
      left
      simp only [List.getElem_cons_zero, Nat.add_zero] at h
      rcases h with rfl | ⟨rfl, hp⟩
      ·exact .inl rfl
      ·right; rw [if_pos hp]; exact List.mem_singleton.2 rfl
    | succ j =>
      right
      refine ⟨j, by simpa using hj, ?_⟩
      rw [show i + (j + 1) = i + 1 + j from by omega] at h
      simpa using h
theorem mem_arcsP {bs : List Bd} {flow : List Int} {a : Arc} : a ∈ arcsP bs flow ↔ ∃ j, ∃ h : j < bs.length, a = fwdArc j bs[j] ∨ (a = bwdArc j bs[j] ∧ 0 < flow.getD j 0) := by
 unfold arcsP
 rw [mem_arcsFrom]
 simp
theorem arcs_valid {N : Nat} {bs : List Bd} (flow : List Int) (hv : AllValid N bs) : AllValid N (resid (arcsP bs flow)) := by
 intro x hx
 obtain ⟨a, ha, rfl⟩ := List.mem_map.1 hx
 obtain ⟨j, hj, h⟩ := mem_arcsP.1 ha
 obtain ⟨v1, v2, v3, v4, v5, v6⟩ := hv _ (List.getElem_mem hj)
 rcases h with rfl | ⟨rfl, _⟩
 ·exact ⟨v1, v2, v3, v4, v5, v6⟩
 ·refine ⟨v3, v4, v1, v2, ?_, ?_⟩ <;> simp only [Arc.bnd, bwdArc] <;> omega
end Go.Proofs.YthjmkmjojlfejaaGreat
namespace Go.Proofs.YthjmkmjojlfejaaGreat
open Go Go.RowKit Go.Shelf
theorem zc153 : Tryz.zeroCells153 = rowA (rep128 0) := by kernel_rfl
def bnd0 : Bd := ⟨0, 0, 0, 0⟩
def bnd (bs : List Bd) (i : Nat) : Bd := bs.getD i bnd0
theorem bnd_get {bs : List Bd} {i : Nat} (h : i < bs.length) : bnd bs i = bs[i] := by simp [bnd, h]
theorem step_op_append {P : Program} {ops : Array Oper} {o : Oper} {a : Act} {w : World} {K : Act → World → Prop} {Q : Exit → Act → World → Prop} {E : Prop} (hgd : o.guard = none) {w' : World} {s x : Operand} {t : TypeId} {vs vx v : Value}
 (hop : o.op = Op.call { callee := Callee.builtin Builtin.append, args := #[s, x], argTypes := #[t, t] }) (hs : a.eval s = vs) (hx : a.eval x = vx) (hrun : (Builtin.append_ #[t, t] o.type #[vs, vx]).run P w = .ok v w')
 (h : K (a.put o.dst v) w') : if Region.wanted o (yielded ops a.tmps) = true then Oper.wp P o a w K Q else E := by
 have hw : Region.wanted o (yielded ops a.tmps) = true := by simp [Region.wanted, hgd]
 rw [if_pos hw]
 unfold Oper.wp
 rw [run_op_append hop hs hx hrun]
 exact h
section
variable {P : Program} {ops : Array Oper} {Q : Exit → Act → World → Prop} {md : Region.Mode} {S : World → Prop} {last : Nat}
theorem wpAnyF_step {fuel : Nat} {listed : Array Bool} {a : Act} {w : World} (i : Nat) {o : Oper} (ho : ops[i]? = some o) (hr : Region.ready md ops listed = [i])
 (h : ∀ K' : Act → World → Prop, Shut (∀ a w, (i = last ∨ S w) → wpAnyF P md ops Q S last fuel (listed.setIfInBounds i true) a w → K' a w) → if Region.wanted o (yielded ops a.tmps) = true then Oper.wp P o a w K' Q else K' (a.put o.dst undef) w) :
 wpAnyF P md ops Q S last (fuel + 1) listed a w :=
 wpAnyF_one i hr (wpOp_step ho fun K' hK => h K' fun a w h1 h2 => hK a w ⟨h1, h2⟩)
end
def TestsStrs (P : Program) (f : FuncId) (caps : Array Value) (w : World) (xs : List ByteArray) (p : ByteArray → Bool) : Prop :=
 ∀ k (_ : k < xs.length) (W : World), Below w.heap.size w W → Calls P f (#[.string xs[k]] ++ caps) W fun e W' => e = .returned (.bool (p xs[k])) ∧ Below W.heap.size W W'
set_option maxHeartbeats 1000000 in
theorem indexFuncStrs_any (w : World) (a : Option Addr) (cap : Nat) (xs : List ByteArray) (f : FuncId) (caps : Array Value) (p : ByteArray → Bool) (hl : xs.length ≤ 9223372036854775807) (h : StrsAt w a xs)
 (hf : TestsStrs Tryz.prog f caps w xs p) (eg : Enters Tryz.prog f) :
 Calls Tryz.prog 230 #[.slice a xs.length cap, .func (.func f) #[] caps] w fun e w' => e = .returned (.int .i64 (idxOf p xs)) ∧ Below w.heap.size w w' := by
 have H := hidE h
 have HF := hidE hf
 unfold Enters at eg
 clear h hf
 go_enter Tryz.func230, Tryz.ntmps230
 go_wp2
 go_loopw [8] (fun i wr => ∃ k : Nat, k ≤ xs.length ∧ i = .int .i64 k ∧ Hid ((xs.take k).any p = false) ∧ Below w.heap.size w wr)
  (fun i _ => xs.length - (intOf i).toNat)
 case atStart => exact ⟨0, by omega, rfl, hidE rfl, by go_grown⟩
 case round =>
  obtain ⟨k, hk, rfl, HA, hb⟩ := hrel
  by_cases hlt : k < xs.length
  ·obtain ⟨b, off, rfl, hbl, hc⟩ := RecsAt.at H.out hlt
   have hcall := HF.out k hlt wr hb
   obtain ⟨x, hx⟩ : ∃ x, xs[k] = x := ⟨_, rfl⟩
   rw [hx] at hc hcall
   have c0 := hc 0 (by omega)
   rw [← hb.cell hbl, Nat.mul_one, Nat.add_zero] at c0
   simp only [strCells, List.getElem?_cons_zero] at c0
   clear hc
   have HX := hidE hx
   clear hx
   cases hq : p x with
   | true =>
     rw [hq] at hcall
     go_wp2_with (go_at_fn f; refine hcall.mono ?_; rintro e w' ⟨rfl, hb'⟩)
     go_ret
     exact ⟨by rw [idxOf_found hlt HA.out (by rw [HX.out]; exact hq)]; rfl, hb.trans (hb'.mono hb.size)⟩
   | false =>
     rw [hq] at hcall
     go_wp2_with (go_at_fn f; refine hcall.mono ?_; rintro e w' ⟨rfl, hb'⟩)
     go_roundw
     case rel => exact ⟨k + 1, by omega, by go_num, hidE (take_any_succ hlt HA.out (by rw [HX.out]; exact hq)), hb.trans (hb'.mono hb.size)⟩
     case measure => simp [intOf]; omega
  ·go_wp2_with fail
   go_ret
   exact ⟨by rw [idxOf_none (any_of_take (by omega) HA.out)]; rfl, hb⟩
theorem containsFuncStrs_any (w : World) (a : Option Addr) (cap : Nat) (xs : List ByteArray) (f : FuncId) (caps : Array Value) (p : ByteArray → Bool) (hl : xs.length ≤ 9223372036854775807) (h : StrsAt w a xs)
 (hf : TestsStrs Tryz.prog f caps w xs p) (eg : Enters Tryz.prog f) :
 Calls Tryz.prog 203 #[.slice a xs.length cap, .func (.func f) #[] caps] w fun e w' => e = .returned (.bool (xs.any p)) ∧ Below w.heap.size w w' := by
 have H := hidE h
 have HF := hidE hf
 have E := hidE eg
 clear h hf eg
 go_enter Tryz.func203, Tryz.ntmps203
 go_wp2_with (go_at_call 230; refine (indexFuncStrs_any _ a cap xs f caps p hl H.out HF.out E.out).mono ?_; rintro e w' ⟨rfl, hb⟩)
 all_goals go_ret
 refine ⟨?_, hb⟩
 have := idxOf_neg (p := p) xs
 cases hq : xs.any p with
 | true => rw [hq] at this; simp at this; simp [this]
 | false => rw [hq] at this; simp at this; simp [this]
def TestsPars (P : Program) (f : FuncId) (caps : Array Value) (w : World) (xs : List Par) (p : Par → Bool) : Prop :=
 ∀ k (_ : k < xs.length) (W : World), Below w.heap.size w W → Calls P f (#[xs[k].val] ++ caps) W fun e W' => e = .returned (.bool (p xs[k])) ∧ Below W.heap.size W W'
set_option maxHeartbeats 1000000 in
theorem indexFuncPars_any (w : World) (a : Option Addr) (cap : Nat) (xs : List Par) (f : FuncId) (caps : Array Value) (p : Par → Bool) (hl : xs.length ≤ 9223372036854775807) (h : ParsAt w a xs)
 (hf : TestsPars Tryz.prog f caps w xs p) (eg : Enters Tryz.prog f) :
 Calls Tryz.prog 232 #[.slice a xs.length cap, .func (.func f) #[] caps] w fun e w' => e = .returned (.int .i64 (idxOf p xs)) ∧ Below w.heap.size w w' := by
 have H := hidE h
 have HF := hidE hf
 unfold Enters at eg
 clear h hf
 go_enter Tryz.func232, Tryz.ntmps232
 go_wp2
 go_loopw [8] (fun i wr => ∃ k : Nat, k ≤ xs.length ∧ i = .int .i64 k ∧ Hid ((xs.take k).any p = false) ∧ Below w.heap.size w wr)
  (fun i _ => xs.length - (intOf i).toNat)
 case atStart => exact ⟨0, by omega, rfl, hidE rfl, by go_grown⟩
 case round =>
  obtain ⟨k, hk, rfl, HA, hb⟩ := hrel
  by_cases hlt : k < xs.length
  ·obtain ⟨b, off, rfl, hbl, hc⟩ := RecsAt.at H.out hlt
   have hcall := HF.out k hlt wr hb
   obtain ⟨x, hx⟩ : ∃ x, xs[k] = x := ⟨_, rfl⟩
   rw [hx] at hc hcall
   have c0 := hc 0 (by omega)
   have c1 := hc 1 (by omega)
   have c2 := hc 2 (by omega)
   have c3 := hc 3 (by omega)
   rw [← hb.cell hbl, Nat.add_zero] at c0
   rw [← hb.cell hbl] at c1 c2 c3
   simp only [Par.cells, List.getElem?_cons_zero, List.getElem?_cons_succ] at c0 c1 c2 c3
   dsimp only [Par.val] at hcall
   clear hc
   have HX := hidE hx
   clear hx
   cases hq : p x with
   | true =>
     rw [hq] at hcall
     go_wp2_with (go_at_fn f; refine hcall.mono ?_; rintro e w' ⟨rfl, hb'⟩)
     go_ret
     exact ⟨by rw [idxOf_found hlt HA.out (by rw [HX.out]; exact hq)]; rfl, hb.trans (hb'.mono hb.size)⟩
   | false =>
     rw [hq] at hcall
     go_wp2_with (go_at_fn f; refine hcall.mono ?_; rintro e w' ⟨rfl, hb'⟩)
     go_roundw
     case rel => exact ⟨k + 1, by omega, by go_num, hidE (take_any_succ hlt HA.out (by rw [HX.out]; exact hq)), hb.trans (hb'.mono hb.size)⟩
     case measure => simp [intOf]; omega
  ·go_wp2_with fail
   go_ret
   exact ⟨by rw [idxOf_none (any_of_take (by omega) HA.out)]; rfl, hb⟩
theorem containsFuncPars_any (w : World) (a : Option Addr) (cap : Nat) (xs : List Par) (f : FuncId) (caps : Array Value) (p : Par → Bool) (hl : xs.length ≤ 9223372036854775807) (h : ParsAt w a xs)
 (hf : TestsPars Tryz.prog f caps w xs p) (eg : Enters Tryz.prog f) :
 Calls Tryz.prog 210 #[.slice a xs.length cap, .func (.func f) #[] caps] w fun e w' => e = .returned (.bool (xs.any p)) ∧ Below w.heap.size w w' := by
 have H := hidE h
 have HF := hidE hf
 have E := hidE eg
 clear h hf eg
 go_enter Tryz.func210, Tryz.ntmps210
 go_wp2_with (go_at_call 232; refine (indexFuncPars_any _ a cap xs f caps p hl H.out HF.out E.out).mono ?_; rintro e w' ⟨rfl, hb⟩)
 all_goals go_ret
 refine ⟨?_, hb⟩
 have := idxOf_neg (p := p) xs
 cases hq : xs.any p with
 | true => rw [hq] at this; simp at this; simp [this]
 | false => rw [hq] at this; simp at this; simp [this]
theorem nameSta_any (w : World) (s : Sta) : Calls Tryz.prog 227 #[s.val] w fun e w' => e = .returned (.string s.name) ∧ Below w.heap.size w w' := by
 unfold Sta.val
 go_enter Tryz.func227, Tryz.ntmps227
 go_wp2_with fail
 go_ret
 exact ⟨rfl, by go_grown⟩
set_option maxRecDepth 100000 in
set_option maxHeartbeats 2000000 in
theorem namedSta_any (w : World) (a : Option Addr) (cap : Nat) (l : List Sta) (hl : l.length ≤ 4000) (h : RecsAt 2 Sta.cells w a l) :
 Calls Tryz.prog 226 #[.slice a l.length cap, .func (.func 227) #[] #[]] w fun e w' => ∃ v, e = .returned v ∧ w'.ownsRow w.heap.size 9 1 v l.length ((l.map Sta.name).flatMap strCells) ∧ Below w.heap.size w w' := by
 have H := hidE h
 have eg : Enters Tryz.prog 227 := enters_of Tryz.func227 (by kernel_rfl) rfl
 unfold Enters at eg
 clear h
 go_enter Tryz.func226, Tryz.ntmps226
 go_wp2_with fail
 go_loopw [5, 10] (fun v i wr => ∃ k : Nat, k ≤ l.length ∧ i = .int .i64 k ∧ Hid (wr.ownsRow w.heap.size 9 1 v k (((l.take k).map Sta.name).flatMap strCells)) ∧ Below w.heap.size w wr)
  (fun _ i _ => l.length - (intOf i).toNat)
 case atStart => exact ⟨0, Nat.zero_le _, rfl, hidE (World.ownsRow_nil _ _ _ _), by go_grown⟩
 case round =>
  obtain ⟨k, hk, rfl, hown, hb⟩ := hrel
  by_cases hlt : k < l.length
  ·obtain ⟨b, off, rfl, hbl, hc⟩ := RecsAt.at H.out hlt
   have HTK : Hid (((l.take (k + 1)).map Sta.name).flatMap strCells = ((l.take k).map Sta.name).flatMap strCells ++ [.string (l[k]).name]) := hidE (by rw [List.take_succ_eq_append_getElem hlt, List.map_append, List.flatMap_append]; rfl)
   obtain ⟨x, hx⟩ : ∃ x, l[k] = x := ⟨_, rfl⟩
   rw [hx] at hc HTK
   have c0 := hc 0 (by omega)
   have c1 := hc 1 (by omega)
   rw [← hb.cell hbl, Nat.add_zero] at c0
   rw [← hb.cell hbl] at c1
   simp only [Sta.cells, List.getElem?_cons_zero, List.getElem?_cons_succ] at c0 c1
   clear hc
   have hcl := fun W => nameSta_any W x
   dsimp only [Sta.val] at hcl
   have HCL := hidE hcl
   clear hx hcl
   have b1 := hb.alloc hb.size (.cells #[.string x.name, .int .i64 x.x] 55)
   have HOWN := hidE (hown.out.alloc (.cells #[.string x.name, .int .i64 x.x] 55))
   have HB1 := hidE b1
   clear b1 hown
   go_wp2_with fail
   refine (HCL.out _).mono ?_
   rintro e w2 ⟨rfl, hb2⟩
   have B2 := hidE (HB1.out.trans (hb2.mono HB1.out.size))
   have own2 := ownsRow_of_block HOWN.out (fun g hg => hb2.block g (owns_lt HOWN.out hg).1)
   have own3 := own2.alloc (.cells #[.string x.name] 9)
   obtain ⟨v', wa, hrun, hown', hbl2, _⟩ := append_rec (w := w2.alloc (.cells #[.string x.name] 9)) (tS := 42) Tryz.underlying42 info9 rfl (by decide) (by decide) own3 (b := w2.heap.size) (news := [.string x.name]) rfl (heap_alloc_new _ _) (by intro u hu; simp at hu; subst hu; rfl) (by omega) (by have := B2.out.size; simp; omega) 42
   have HRUN := hidE hrun
   have HOW := hidE hown'
   have HBL := hidE ((B2.out.alloc B2.out.size _).trans hbl2)
   clear hrun hown' hbl2 own2 own3 hb2
   go_wp2_with (at_builtin; refine wpList_op_append rfl (s := .tmp 14) (x := .tmp 18) (t := 42) rfl rfl rfl HRUN.out ?_)
   go_roundw
   case rel => exact ⟨k + 1, by omega, by go_num, hidE (by rw [HTK.out]; exact HOW.out), HBL.out⟩
   case measure => simp [intOf]; omega
  ·obtain rfl : k = l.length := by omega
   have hall : l.take l.length = l := List.take_length
   rw [hall] at hown
   clear hall
   go_wp2_with fail
   go_ret
   exact ⟨_, rfl, hown.out, hb⟩
theorem namePar_any (w : World) (s : Par) : Calls Tryz.prog 229 #[s.val] w fun e w' => e = .returned (.string s.name) ∧ Below w.heap.size w w' := by
 unfold Par.val
 go_enter Tryz.func229, Tryz.ntmps229
 go_wp2_with fail
 go_ret
 exact ⟨rfl, by go_grown⟩
set_option maxRecDepth 100000 in
set_option maxHeartbeats 2000000 in
theorem namedPar_any (w : World) (a : Option Addr) (cap : Nat) (l : List Par) (hl : l.length ≤ 4000) (h : RecsAt 4 Par.cells w a l) :
 Calls Tryz.prog 228 #[.slice a l.length cap, .func (.func 229) #[] #[]] w fun e w' => ∃ v, e = .returned v ∧ w'.ownsRow w.heap.size 9 1 v l.length ((l.map Par.name).flatMap strCells) ∧ Below w.heap.size w w' := by
 have H := hidE h
 have eg : Enters Tryz.prog 229 := enters_of Tryz.func229 (by kernel_rfl) rfl
 unfold Enters at eg
 clear h
 go_enter Tryz.func228, Tryz.ntmps228
 go_wp2_with fail
 go_loopw [5, 10] (fun v i wr => ∃ k : Nat, k ≤ l.length ∧ i = .int .i64 k ∧ Hid (wr.ownsRow w.heap.size 9 1 v k (((l.take k).map Par.name).flatMap strCells)) ∧ Below w.heap.size w wr)
  (fun _ i _ => l.length - (intOf i).toNat)
 case atStart => exact ⟨0, Nat.zero_le _, rfl, hidE (World.ownsRow_nil _ _ _ _), by go_grown⟩
 case round =>
  obtain ⟨k, hk, rfl, hown, hb⟩ := hrel
  by_cases hlt : k < l.length
  ·obtain ⟨b, off, rfl, hbl, hc⟩ := RecsAt.at H.out hlt
   have HTK : Hid (((l.take (k + 1)).map Par.name).flatMap strCells = ((l.take k).map Par.name).flatMap strCells ++ [.string (l[k]).name]) := hidE (by rw [List.take_succ_eq_append_getElem hlt, List.map_append, List.flatMap_append]; rfl)
   obtain ⟨x, hx⟩ : ∃ x, l[k] = x := ⟨_, rfl⟩
   rw [hx] at hc HTK
   have c0 := hc 0 (by omega)
   have c1 := hc 1 (by omega)
   have c2 := hc 2 (by omega)
   have c3 := hc 3 (by omega)
   rw [← hb.cell hbl, Nat.add_zero] at c0
   rw [← hb.cell hbl] at c1 c2 c3
   simp only [Par.cells, List.getElem?_cons_zero, List.getElem?_cons_succ] at c0 c1 c2 c3
   clear hc
   have hcl := fun W => namePar_any W x
   dsimp only [Par.val] at hcl
   have HCL := hidE hcl
   clear hx hcl
   have b1 := hb.alloc hb.size (.cells #[.string x.name, .int .i64 x.south, .int .i64 x.wst, .int .i64 x.est] 53)
   have HOWN := hidE (hown.out.alloc (.cells #[.string x.name, .int .i64 x.south, .int .i64 x.wst, .int .i64 x.est] 53))
   have HB1 := hidE b1
   clear b1 hown
   go_wp2_with fail
   refine (HCL.out _).mono ?_
   rintro e w2 ⟨rfl, hb2⟩
   have B2 := hidE (HB1.out.trans (hb2.mono HB1.out.size))
   have own2 := ownsRow_of_block HOWN.out (fun g hg => hb2.block g (owns_lt HOWN.out hg).1)
   have own3 := own2.alloc (.cells #[.string x.name] 9)
   obtain ⟨v', wa, hrun, hown', hbl2, _⟩ := append_rec (w := w2.alloc (.cells #[.string x.name] 9)) (tS := 42) Tryz.underlying42 info9 rfl (by decide) (by decide) own3 (b := w2.heap.size) (news := [.string x.name]) rfl (heap_alloc_new _ _) (by intro u hu; simp at hu; subst hu; rfl) (by omega) (by have := B2.out.size; simp; omega) 42
   have HRUN := hidE hrun
   have HOW := hidE hown'
   have HBL := hidE ((B2.out.alloc B2.out.size _).trans hbl2)
   clear hrun hown' hbl2 own2 own3 hb2
   go_wp2_with (at_builtin; refine wpList_op_append rfl (s := .tmp 14) (x := .tmp 18) (t := 42) rfl rfl rfl HRUN.out ?_)
   go_roundw
   case rel => exact ⟨k + 1, by omega, by go_num, hidE (by rw [HTK.out]; exact HOW.out), HBL.out⟩
   case measure => simp [intOf]; omega
  ·obtain rfl : k = l.length := by omega
   have hall : l.take l.length = l := List.take_length
   rw [hall] at hown
   clear hall
   go_wp2_with fail
   go_ret
   exact ⟨_, rfl, hown.out, hb⟩
structure FV where
 aS : Option Addr
 cS : Nat
 aL : Option Addr
 cL : Nat
 aP : Option Addr
 cP : Nat
 aV : Option Addr
 cV : Nat
def FV.arr (x : FV) (F : Fld) : Array Value := #[.slice x.aS F.sts.length x.cS, .slice x.aL F.lms.length x.cL, .slice x.aP F.prs.length x.cP, .slice x.aV F.vrs.length x.cV]
def FV.val (x : FV) (F : Fld) : Value := .agg (x.arr F)
structure FldAt (w : World) (x : FV) (F : Fld) : Prop where
 st : StasAt w x.aS F.sts
 lm : StrsAt w x.aL F.lms
 pr : ParsAt w x.aP F.prs
 vr : VrnsAt w x.aV F.vrs
 ls : F.sts.length ≤ x.cS ∧ x.cS ≤ 9223372036854775807
 ll : F.lms.length ≤ x.cL ∧ x.cL ≤ 9223372036854775807
 lp : F.prs.length ≤ x.cP ∧ x.cP ≤ 9223372036854775807
 lv : F.vrs.length ≤ x.cV ∧ x.cV ≤ 9223372036854775807
 nm : ∀ l ∈ F.names, ∀ s ∈ l, s.size ≤ 9223372036854775807
 sx : ∀ s ∈ F.sts, i64ok s.x
 px : ∀ p ∈ F.prs, i64ok p.south ∧ i64ok p.wst ∧ i64ok p.est
 vx : ∀ v ∈ F.vrs, i64ok v.year ∧ i64ok v.east
theorem FldAt.below {w w' : World} {x : FV} {F : Fld} (h : FldAt w x F) (hb : Below w.heap.size w w') : FldAt w' x F :=
 ⟨h.st.below hb (Nat.le_refl _), h.lm.below hb (Nat.le_refl _), h.pr.below hb (Nat.le_refl _), h.vr.below hb (Nat.le_refl _), h.ls, h.ll, h.lp, h.lv, h.nm, h.sx, h.px, h.vx⟩
theorem FldAt.alloc {w : World} {x : FV} {F : Fld} (h : FldAt w x F) (o : Obj) : FldAt (w.alloc o) x F := h.below ((Below.refl w.heap.size w).alloc (Nat.le_refl _) o)
def NamesPost (x : FV) (F : Fld) (e : Ending) (w' : World) : Prop :=
 ∃ o0 c0 o2 c2, e = .returned (.agg #[.slice o0 F.sts.length c0, .slice x.aL F.lms.length x.cL, .slice o2 F.prs.length c2]) ∧ StrsAt w' o0 (F.sts.map Sta.name) ∧ (F.sts.length ≤ c0 ∧ c0 ≤ 9223372036854775807) ∧ StrsAt w' o2 (F.prs.map Par.name) ∧ F.prs.length ≤ c2 ∧ c2 ≤ 9223372036854775807
set_option maxRecDepth 100000 in
set_option maxHeartbeats 2000000 in
theorem names_any (w : World) (x : FV) (F : Fld) (h1 : F.sts.length ≤ 4000) (h2 : F.prs.length ≤ 4000) (h : FldAt w x F) :
 Calls Tryz.prog 202 #[x.val F] w fun e w' => NamesPost x F e w' ∧ Below w.heap.size w w' := by
 have H := hidE h
 clear h
 unfold FV.val FV.arr
 obtain ⟨aS, cS, aL, cL, aP, cP, aV, cV⟩ := x
 obtain ⟨st, lm, pr, vr⟩ := F
 dsimp only at h1 h2 ⊢
 obtain ⟨W0, hW0⟩ : ∃ W0, W0 = (w.alloc (.cells #[.slice aS st.length cS, .slice aL lm.length cL, .slice aP pr.length cP, .slice aV vr.length cV] 46)).alloc (.cells #[.slice none 0 0, .slice none 0 0, .slice none 0 0] 203) := ⟨_, rfl⟩
 have hb0 : Below w.heap.size w W0 := by rw [hW0]; exact ((Below.refl _ _).alloc (Nat.le_refl _) _).alloc (by simp) _
 have x0 : W0.heap[w.heap.size]? = some (.cells #[.slice aS st.length cS, .slice aL lm.length cL, .slice aP pr.length cP, .slice aV vr.length cV] 46 (0,0)) := by rw [hW0]; exact heap_alloc2_old _ _ _
 have x1 : W0.heap[w.heap.size + 1]? = some (.cells #[.slice none 0 0, .slice none 0 0, .slice none 0 0] 203 (0,0)) := by rw [hW0, heap_alloc2_new]
 have c0 : W0.cell? ⟨w.heap.size, 0, none⟩ = some (.slice aS st.length cS) := c_e x0 rfl
 have c1 : W0.cell? ⟨w.heap.size, 1, none⟩ = some (.slice aL lm.length cL) := c_e x0 rfl
 have c2 : W0.cell? ⟨w.heap.size, 2, none⟩ = some (.slice aP pr.length cP) := c_e x0 rfl
 have HS := hidE (fun (W : World) (hb : Below w.heap.size w W) => namedSta_any W aS cS st h1 (H.out.st.below hb (Nat.le_refl _)))
 have HP := hidE (fun (W : World) (hb : Below w.heap.size w W) => namedPar_any W aP cP pr h2 (H.out.pr.below hb (Nat.le_refl _)))
 have l0 : w.heap.size + 1 < W0.heap.size := lt_of_block x1
 have l0' : w.heap.size < W0.heap.size := by omega
 have B0 := hidE hb0
 have X1 := hidE x1
 go_enter Tryz.func202, Tryz.ntmps202
 go_upto_region 1 with fail
 rw [← hW0]
 clear hW0 hb0 x0 x1
 refine wp_region_F (S := fun V => V.cell? ⟨w.heap.size, 0, none⟩ = some (.slice aS st.length cS) ∧ V.cell? ⟨w.heap.size, 1, none⟩ = some (.slice aL lm.length cL) ∧ V.cell? ⟨w.heap.size, 2, none⟩ = some (.slice aP pr.length cP)) (last := 9) (by kernel_rfl) ?_
 have hS0 : W0.drew.cell? ⟨w.heap.size, 0, none⟩ = some (.slice aS st.length cS) ∧ W0.drew.cell? ⟨w.heap.size, 1, none⟩ = some (.slice aL lm.length cL) ∧ W0.drew.cell? ⟨w.heap.size, 2, none⟩ = some (.slice aP pr.length cP) := ⟨c0, c1, c2⟩
 refine wpAnyF_take (i := 0) (v := .pointer (some ⟨w.heap.size, 0, none⟩)) (by kernel_rfl) (by decide) rfl (by kernel_rfl) (by kernel_rfl) (by kernel_rfl) (fun _ _ _ h => h) (.inl ⟨rfl, fun V hV => ?_⟩) hS0 ?_
 ·simp [go_sem, execOp]
 try simp only [Act.put, List.setIfInBounds_toArray]
 refine wpAnyF_take (i := 1) (v := .slice aS st.length cS) (by kernel_rfl) (by decide) rfl (by kernel_rfl) (by kernel_rfl) (by kernel_rfl) (fun _ _ _ h => h) (.inl ⟨rfl, fun V hV => ?_⟩) hS0 ?_
 ·obtain ⟨z0, z1, z2⟩ := hV
  simp [go_sem, execOp, z0]
 try simp only [Act.put]
 refine wpAnyF_take (i := 3) (v := .pointer (some ⟨w.heap.size, 1, none⟩)) (by kernel_rfl) (by decide) rfl (by kernel_rfl) (by kernel_rfl) (by kernel_rfl) (fun _ _ _ h => h) (.inl ⟨rfl, fun V hV => ?_⟩) hS0 ?_
 ·simp [go_sem, execOp]
 try simp only [Act.put]
 refine wpAnyF_take (i := 4) (v := .slice aL lm.length cL) (by kernel_rfl) (by decide) rfl (by kernel_rfl) (by kernel_rfl) (by kernel_rfl) (fun _ _ _ h => h) (.inl ⟨rfl, fun V hV => ?_⟩) hS0 ?_
 ·obtain ⟨z0, z1, z2⟩ := hV
  simp [go_sem, execOp, z1]
 try simp only [Act.put]
 refine wpAnyF_take (i := 5) (v := .pointer (some ⟨w.heap.size, 2, none⟩)) (by kernel_rfl) (by decide) rfl (by kernel_rfl) (by kernel_rfl) (by kernel_rfl) (fun _ _ _ h => h) (.inl ⟨rfl, fun V hV => ?_⟩) hS0 ?_
 ·simp [go_sem, execOp]
 try simp only [Act.put]
 refine wpAnyF_take (i := 6) (v := .slice aP pr.length cP) (by kernel_rfl) (by decide) rfl (by kernel_rfl) (by kernel_rfl) (by kernel_rfl) (fun _ _ _ h => h) (.inl ⟨rfl, fun V hV => ?_⟩) hS0 ?_
 ·obtain ⟨z0, z1, z2⟩ := hV
  simp [go_sem, execOp, z2]
 try simp only [Act.put]
 refine wpAnyF_step 2 rfl (by kernel_rfl) (fun K hK => ?_)
 go_simp
 go_at_call 226
 refine (HS.out _ B0.out.drew).mono ?_
 rintro e w1 ⟨v0, rfl, o0, hb1⟩
 have k0 := (hb1.cell (p := ⟨w.heap.size, 0, none⟩) (by simpa using l0')).trans c0
 have k1 := (hb1.cell (p := ⟨w.heap.size, 1, none⟩) (by simpa using l0')).trans c1
 have k2 := (hb1.cell (p := ⟨w.heap.size, 2, none⟩) (by simpa using l0')).trans c2
 have B1 := hidE (B0.out.drew.trans (hb1.mono B0.out.drew.size))
 have X2 := hidE (blk_below hb1 (by simpa using l0) (show W0.drew.heap[w.heap.size + 1]? = _ from X1.out))
 obtain ⟨p0, q0, rfl, r0, s0, t0, g0⟩ := recsAt_of_owns (f := strCells) (fun _ => rfl) (l := st.map Sta.name) (by rw [List.length_map]; exact o0)
 rw [List.length_map] at s0
 simp only [List.length_map]
 have O0 := hidE r0
 have G0 := hidE g0
 clear hb1 o0 r0 g0
 go_wp2_with fail
 refine hK.out _ _ (.inr ⟨k0, k1, k2⟩) ?_
 clear hK K
 try simp only [Act.put, s_a, s_b, s_c]
 refine wpAnyF_step 7 rfl (by kernel_rfl) (fun K hK => ?_)
 go_simp
 go_at_call 228
 refine (HP.out _ B1.out).mono ?_
 rintro e w2 ⟨v2, rfl, o2, hb2⟩
 have l1 := lt_of_block X2.out
 have m0 := (hb2.cell (p := ⟨w.heap.size, 0, none⟩) (by show w.heap.size < w1.heap.size; omega)).trans k0
 have m1 := (hb2.cell (p := ⟨w.heap.size, 1, none⟩) (by show w.heap.size < w1.heap.size; omega)).trans k1
 have m2 := (hb2.cell (p := ⟨w.heap.size, 2, none⟩) (by show w.heap.size < w1.heap.size; omega)).trans k2
 have B2 := hidE (B1.out.trans (hb2.mono B1.out.size))
 have X3 := hidE (blk_below hb2 l1 X2.out)
 have O1 := hidE (O0.out.below hb2 (Nat.le_refl _))
 obtain ⟨p2, q2, rfl, r2, s2, t2, g2⟩ := recsAt_of_owns (f := strCells) (fun _ => rfl) (l := pr.map Par.name) (by rw [List.length_map]; exact o2)
 rw [List.length_map] at s2
 simp only [List.length_map]
 have O2 := hidE r2
 have G2 := hidE g2
 clear hb2 o2 r2 g2 k0 k1 k2 c0 c1 c2
 go_wp2_with fail
 refine hK.out _ _ (.inr ⟨m0, m1, m2⟩) ?_
 clear hK K
 try simp only [Act.put, s_a, s_b, s_c]
 refine wpAnyF_step 8 rfl (by kernel_rfl) (fun K hK => ?_)
 go_simp
 refine hK.out _ _ (.inr ⟨m0, m1, m2⟩) ?_
 clear hK K
 try simp only [Act.put, s_a, s_b, s_c]
 have f0 : w2.frozen? ⟨w.heap.size + 1, 0, none⟩ = false := frozen_of_row _ _ _ _ _ X3.out
 have f1 : w2.frozen? ⟨w.heap.size + 1, 1, none⟩ = false := frozen_of_row _ _ _ _ _ X3.out
 have f2 : w2.frozen? ⟨w.heap.size + 1, 2, none⟩ = false := frozen_of_row _ _ _ _ _ X3.out
 have d0 : w2.cell? ⟨w.heap.size + 1, 0, none⟩ = some (.slice none 0 0) := c_e X3.out rfl
 have d1 : w2.cell? ⟨w.heap.size + 1, 1, none⟩ = some (.slice none 0 0) := c_e X3.out rfl
 have d2 : w2.cell? ⟨w.heap.size + 1, 2, none⟩ = some (.slice none 0 0) := c_e X3.out rfl
 refine wpAnyF_step 9 rfl (by kernel_rfl) (fun K hK => ?_)
 go_simp
 refine hK.out _ _ (.inl rfl) ?_
 clear hK K
 refine wpAnyF_done (by kernel_rfl) ?_ _
 obtain ⟨W5, hW5⟩ : ∃ X, X = ((w2.setCell ⟨w.heap.size + 1, 0, none⟩ (.slice p0 st.length q0)).setCell ⟨w.heap.size + 1, 1, none⟩ (.slice aL lm.length cL)).setCell ⟨w.heap.size + 1, 2, none⟩ (.slice p2 pr.length q2) := ⟨_, rfl⟩
 rw [← hW5]
 have x5 : W5.heap[w.heap.size + 1]? = some (.cells #[.slice p0 st.length q0, .slice aL lm.length cL, .slice p2 pr.length q2] 203 (0,0)) := by
  rw [hW5]
  exact heap_setCell_same _ _ _ _ _ _ (heap_setCell_same _ _ _ _ _ _ (heap_setCell_same _ _ _ _ _ _ X3.out))
 have hb5 : Below w.heap.size w W5 := by rw [hW5]; exact ((B2.out.setCell (by simp) _).setCell (by simp) _).setCell (by simp) _
 have n0 : ∀ q, p0 = some q → q.block ≠ w.heap.size + 1 := fun q e => by have := G0.out q e; simp at this; omega
 have n2 : ∀ q, p2 = some q → q.block ≠ w.heap.size + 1 := fun q e => by have := G2.out q e; omega
 have y0 : StrsAt W5 p0 (st.map Sta.name) := by rw [hW5]; exact ((O1.out.set n0 _).set n0 _).set n0 _
 have y2 : StrsAt W5 p2 (pr.map Par.name) := by rw [hW5]; exact ((O2.out.set n2 _).set n2 _).set n2 _
 have r0 : W5.cell? ⟨w.heap.size + 1, 0, none⟩ = some (.slice p0 st.length q0) := c_e x5 rfl
 have r1 : W5.cell? ⟨w.heap.size + 1, 1, none⟩ = some (.slice aL lm.length cL) := c_e x5 rfl
 have r2 : W5.cell? ⟨w.heap.size + 1, 2, none⟩ = some (.slice p2 pr.length q2) := c_e x5 rfl
 go_wp2_with fail
 refine bodyPost_ret (v := .agg #[.slice p0 st.length q0, .slice aL lm.length cL, .slice p2 pr.length q2]) (by simp [results, Tryz.results202, go_sem, r0, r1, r2]) rfl ⟨⟨p0, q0, p2, q2, rfl, y0, ⟨s0, t0⟩, y2, s2, t2⟩, hb5⟩
theorem isNot_any (s : ByteArray) (w : World) (hs : s.size ≤ 9223372036854775807) : Calls Tryz.prog 204 #[.string s] w fun e w' => e = .returned (.bool (!isNameB s)) ∧ w = w' := by
 have h := fun W => isName_any s W hs
 obtain ⟨q, hq⟩ : ∃ q, isNameB s = q := ⟨_, rfl⟩
 rw [hq] at h ⊢
 have H := hidE h
 clear h hq
 go_enter Tryz.func204, Tryz.ntmps204
 go_wp2_with fail
 refine (H.out _).mono ?_
 rintro e w1 ⟨rfl, rfl⟩
 go_wp2_with fail
 go_ret
 exact ⟨rfl, rfl⟩
def Par.small (p : Par) : Prop := (-1000000 ≤ p.south ∧ p.south ≤ 1000000) ∧ (-1000000 ≤ p.wst ∧ p.wst ≤ 1000000) ∧ (-1000000 ≤ p.est ∧ p.est ≤ 1000000)
set_option maxHeartbeats 1000000 in
theorem common_any (p q : Par) (w : World) (hp : p.small) (hq : q.small) : Calls Tryz.prog 209 #[p.val, q.val] w fun e w' => e = .returned (.int .i64 (min p.est q.est - max p.wst q.wst)) ∧ Below w.heap.size w w' := by
 obtain ⟨_, ⟨p1, p2⟩, p3, p4⟩ := hp
 obtain ⟨_, ⟨q1, q2⟩, q3, q4⟩ := hq
 unfold Par.val
 have hm1 : -1000000 ≤ min p.est q.est := by omega
 have hm2 : min p.est q.est ≤ 1000000 := by omega
 have hm3 : -1000000 ≤ max p.wst q.wst := by omega
 have hm4 : max p.wst q.wst ≤ 1000000 := by omega
 go_enter Tryz.func209, Tryz.ntmps209
 go_wp2_with fail
 go_ret
 exact ⟨rfl, by go_grown⟩
set_option maxHeartbeats 1000000 in
theorem over_any (p q : Par) (w : World) (b : Nat) (hp : p.small) (hq : q.small) (hb : w.heap[b]? = some (.cells p.cells.toArray 53 (0,0))) :
 Calls Tryz.prog 208 #[q.val, .pointer (some ⟨b, 0, none⟩)] w fun e w' => e = .returned (.bool (overB p q)) ∧ Below w.heap.size w w' := by
 have c0 : w.cell? ⟨b, 0, none⟩ = some (.string p.name) := c_e hb rfl
 have c1 : w.cell? ⟨b, 1, none⟩ = some (.int .i64 p.south) := c_e hb rfl
 have c2 : w.cell? ⟨b, 2, none⟩ = some (.int .i64 p.wst) := c_e hb rfl
 have c3 : w.cell? ⟨b, 3, none⟩ = some (.int .i64 p.est) := c_e hb rfl
 have hbl := lt_of_block hb
 have hc := fun W => common_any p q W hp hq
 obtain ⟨P, hP⟩ : ∃ P, overB p q = P := ⟨_, rfl⟩
 rw [hP]
 unfold overB at hP
 obtain ⟨m, hm⟩ : ∃ m, min p.est q.est - max p.wst q.wst = m := ⟨_, rfl⟩
 rw [hm] at hc hP
 unfold Par.val at hc ⊢
 have HC := hidE hc
 clear hc hm hp hq hb
 by_cases he : p.south = q.south
 ·have heb : (p.south == q.south) = true := by simpa using he
  rw [heb] at hP
  by_cases h0 : 0 < m
  ·have h0b : decide (m > 0) = true := by simpa using h0
   obtain rfl : true = P := by rw [← hP]; simp [h0]
   clear hP he h0
   go_enter Tryz.func208, Tryz.ntmps208
   go_wp2_with fail
   refine (HC.out _).mono ?_
   rintro e w1 ⟨rfl, hb1⟩
   go_wp2_with fail
   go_ret
   exact ⟨rfl, ((Below.refl _ _).alloc (Nat.le_refl _) _).trans (hb1.mono (by simp))⟩
  ·have h0b : decide (m > 0) = false := by simpa using h0
   obtain rfl : false = P := by rw [← hP]; simp [h0]
   clear hP he h0
   go_enter Tryz.func208, Tryz.ntmps208
   go_wp2_with fail
   refine (HC.out _).mono ?_
   rintro e w1 ⟨rfl, hb1⟩
   go_wp2_with fail
   go_ret
   exact ⟨rfl, ((Below.refl _ _).alloc (Nat.le_refl _) _).trans (hb1.mono (by simp))⟩
 ·have heb : (p.south == q.south) = false := by simpa using he
  obtain rfl : false = P := by rw [← hP, heb]; rfl
  clear hP he
  go_enter Tryz.func208, Tryz.ntmps208
  go_wp2_with fail
  go_ret
  exact ⟨rfl, by go_grown⟩
end Go.Proofs.YthjmkmjojlfejaaGreat
