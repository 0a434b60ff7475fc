/- Merged text 9 of the base: C1, C2, C3, C4, C5, C6, C7, C8, Lm1, Lm2, Lm3, Lm4. No conditions beyond those stated. -/
import Derived.Test.YtkhemfnlflbniaaGreatDoorB01
import Derived.Test.YtkhemfnlflbniaaGreatDoorB08
import Derived.Deep.Cut
import Derived.Laws.CopyOwn
import Derived.Test.YtkhemfnlflbniaaGreatDoorB06
import Derived.Test.YtkhemfnlflbniaaGreatDoorB04
import Derived.Deep.QuietTactic
namespace Go.Proofs.YtkhemfnlflbniaaGreatDoor
open Go Go.RowKit Go.Shelf
theorem norm_any (d : Int) (_h0 : -1000000 ≤ d) (_h1 : d ≤ 1000000) (w : World) : Calls Tryz.prog 345 #[.int .i64 d] w fun e w' => e = .returned (.int .i64 (normP d)) ∧ w = w' := by
 have hb := normP_bd d
 unfold normP at *
 have e1 : (d.tmod 360 + 360).tmod 360 = (d.tmod 360 + 360) % 360 := Int.tmod_eq_emod_of_nonneg (by have := Int.lt_tmod_of_pos d (b := 360) (by omega); omega)
 rw [e1] at *
 clear e1
 have t1 : -360 < d.tmod 360 ∧ d.tmod 360 < 360 := ⟨by have := Int.lt_tmod_of_pos d (b := 360) (by omega); omega, Int.tmod_lt_of_pos d (by omega)⟩
 go_enter Tryz.func345, Tryz.ntmps345
 go_wp2_with fail
 go_ret
 exact ⟨rfl, rfl⟩
theorem rightC_any (b : Bool) (w : World) : Calls Tryz.prog 341 #[.bool b] w fun e w' => e = .returned (.int .i64 (if b = true then 0 else 1)) ∧ w = w' := by
 cases b
 all_goals
  go_enter Tryz.func341, Tryz.ntmps341
  go_wp2_with fail
  go_ret
  exact ⟨rfl, rfl⟩
theorem floor_any (a b : Int) (w : World) (ha : -4000000000000000000 ≤ a ∧ a ≤ 4000000000000000000) (hb0 : 0 < b) (hb : b ≤ 1000000000) : Calls Tryz.prog 357 #[.int .i64 a, .int .i64 b] w fun e w' => e = .returned (.int .i64 (floorP a b)) ∧ w = w' := by
 unfold floorP
 have t1 : -b < a.tmod b ∧ a.tmod b < b := ⟨by have := Int.lt_tmod_of_pos a hb0; omega, Int.tmod_lt_of_pos a hb0⟩
 have t2 : -4000000000000000000 ≤ a.tdiv b ∧ a.tdiv b ≤ 4000000000000000000 := by
  have e1 := Int.natAbs_tdiv_le_natAbs a b
  omega
 have hbz : (b == 0) = false := by simp; omega
 have hbz2 : b ≠ 0 := by omega
 go_enter Tryz.func357, Tryz.ntmps357
 go_wp2_with fail
 all_goals go_ret
 all_goals simp_all
theorem ceil_any (a b : Int) (w : World) (ha : -4000000000000000000 ≤ a ∧ a ≤ 4000000000000000000) (hb0 : 0 < b) (hb : b ≤ 1000000000) : Calls Tryz.prog 361 #[.int .i64 a, .int .i64 b] w fun e w' => e = .returned (.int .i64 (ceilP a b)) ∧ w = w' := by
 have H := hidE (fun W => floor_any (-a) b W (by omega) hb0 hb)
 have hq : -4000000000000000001 ≤ floorP (-a) b ∧ floorP (-a) b ≤ 4000000000000000001 := by
  unfold floorP
  have e1 := Int.natAbs_tdiv_le_natAbs (-a) b
  split <;> omega
 unfold ceilP
 obtain ⟨q, hq2⟩ : ∃ q, floorP (-a) b = q := ⟨_, rfl⟩
 rw [hq2] at H hq ⊢
 clear hq2
 go_enter Tryz.func361, Tryz.ntmps361
 go_wp2_with fail
 refine (H.out _).mono ?_
 rintro e w1 ⟨rfl, rfl⟩
 go_wp2_with fail
 go_ret
 exact ⟨rfl, rfl⟩
def sinA : Array Value := (sinT.map (Value.int .i64)).toArray
theorem wpList_buildTo {P : Program} {ops : Array Oper} {rest : List Oper} {o : Oper} {a : Act} {w : World} {Q : Exit → Act → World → Prop} (hg : o.guard = none) (t : TypeId) (parts : Array (Nat × Operand)) (ho : o.op = .build t parts) (v : Array Value)
 (hf : P.built t (parts.map fun (i, x) => (i, a.eval x)).toList = some v)
 (h : wpList P ops Q rest (a.put o.dst (.agg v)) w) : wpList P ops Q (o :: rest) a w :=
 wpList_build hg t parts ho (by rw [hf]; rfl) (by rw [hf]; exact h)
theorem results_cell_one {P : Program} {fn : Func} {p : Tmp} {ty : TypeId} (h : fn.results = #[.cell p ty]) (tmps : Array Value) (w : World) (g : Nat) (t : TypeId) (cs : Array Value) (fr : Nat × Nat) (d : TypeDesc)
 (hp : tmps.getD p undef = .pointer (some ⟨g, 0, none⟩)) (hg : w.heap[g]? = some (.cells cs t fr))
 (hu : P.underlying ty = some d) (hd : (match d with | .struct _ | .array _ _ => true | _ => false) = true) (hi : (P.info? ty).map (·.size) = some cs.size) :
 (results fn tmps).run P w = .ok (.agg cs) w := by
 have hp' : tmps[p]?.getD undef = .pointer (some ⟨g, 0, none⟩) := by simpa using hp
 simp [results, h, hp', asAddr, run_loadVar_row w g t ty cs fr d hg hu hd hi]
set_option maxRecDepth 100000 in
theorem sines_any (w : World) : Calls Tryz.prog 371 #[] w fun e w' => e = .returned (.agg sinA) ∧ Below w.heap.size w w' := by
 have hz := heap_alloc_new w (.cells (Array.replicate 91 (.int .i64 0)) 370)
 go_enter Tryz.func371, Tryz.ntmps371
 go_upto_region 1 with fail
 refine wp_region_list ?_
 refine wpList_buildTo rfl _ _ rfl sinA (by kernel_rfl) ?_
 refine wpList_store_row rfl 370 _ _ rfl w.heap.size sinA rfl rfl 370 _ (heap_alloc_new _ _) (by kernel_rfl) (by kernel_rfl) (by kernel_rfl) ?_
 go_wp2_with fail
 refine bodyPost_ret (v := .agg sinA) (results_cell_one Tryz.results371 _ _ w.heap.size 370 sinA (0,0) _ rfl (setRow_heap _ _ _ _ _ _ (heap_alloc_new _ _)) Tryz.underlying370 rfl (by kernel_rfl)) rfl ⟨rfl, below_setRow ((Below.refl _ _).alloc (Nat.le_refl _) _) (Nat.le_refl _) _⟩
theorem sinA_get (n : Nat) (h : n ≤ 90) : sinA[n]? = some (.int .i64 (sinT.getD n 0)) := by
 have : n < sinT.length := by show n < 91; omega
 simp [sinA, List.getD_eq_getElem?_getD, this]
theorem index385 (A : Array Value) (n : Nat) (i v : Int) (hi : i = n) (hn : n ≤ 90) (hg : A[n]? = some (.int .i64 v)) (w : World) : (Instr.index 370 (.agg A) (.int .i64 i)).run Tryz.prog w = .ok (.int .i64 v) w := by
 have h1 : n < A.size := by
  apply Classical.byContradiction; intro h
  rw [Array.getElem?_eq_none (by omega)] at hg; cases hg
 have h2 : (0:Int) ≤ i ∧ i < (91 : Nat) := by omega
 have h3 : i.toNat = n := by omega
 simp [Instr.index, asIntOf, run_underlying Tryz.underlying370, go_sem, h2, h3, hg, part]
 intro h; omega
set_option maxHeartbeats 1000000 in
theorem sinLow_any (d : Int) (h0 : -1000000 ≤ d) (h1 : d ≤ 1000000) (hn : normP d ≤ 180) (w : World) : Calls Tryz.prog 360 #[.int .i64 d] w fun e w' => e = .returned (.int .i64 (sin0 (normP d))) ∧ Below w.heap.size w w' := by
 have HN := hidE (fun W => norm_any d h0 h1 W)
 have hb := normP_bd d
 obtain ⟨n, hnn⟩ : ∃ n : Nat, normP d = n := ⟨(normP d).toNat, by omega⟩
 rw [hnn] at hb hn HN ⊢
 have HS := hidE (fun W => sines_any W)
 by_cases h90 : (n : Int) ≤ 90
 ·have hg := sinA_get n (by omega)
  have hs : sin0 (n : Int) = sinT.getD n 0 := by unfold sin0; rw [if_pos h90]; rfl
  rw [hs]
  obtain ⟨v, hv⟩ : ∃ v, sinT.getD n 0 = v := ⟨_, rfl⟩
  rw [hv] at hg ⊢
  have h90b : decide ((n : Int) ≤ 90) = true := by simpa using h90
  have X := index385 sinA n n v rfl (by omega) hg
  obtain ⟨A, hA⟩ : ∃ A, sinA = A := ⟨_, rfl⟩
  rw [hA] at HS X
  clear hA hg hs hv h90 hnn hb hn
  go_enter Tryz.func360, Tryz.ntmps360
  go_wp2_with fail
  refine (HN.out _).mono ?_
  rintro e w1 ⟨rfl, rfl⟩
  go_wp2_with fail
  refine (HS.out _).mono ?_
  rintro e w1 ⟨rfl, hb1⟩
  go_wp2_with fail
  go_ret
  exact ⟨rfl, hb1⟩
 ·have hg := sinA_get (180 - n) (by omega)
  have hs : sin0 (n : Int) = sinT.getD (180 - n) 0 := by unfold sin0; rw [if_neg h90]; congr 1; omega
  rw [hs]
  obtain ⟨v, hv⟩ : ∃ v, sinT.getD (180 - n) 0 = v := ⟨_, rfl⟩
  rw [hv] at hg ⊢
  have h90b : decide ((n : Int) ≤ 90) = false := by simpa using h90
  have h180b : decide ((n : Int) ≤ 180) = true := by simpa using hn
  have X := index385 sinA (180 - n) (180 - (n : Int)) v (by omega) (by omega) hg
  obtain ⟨A, hA⟩ : ∃ A, sinA = A := ⟨_, rfl⟩
  rw [hA] at HS X
  clear hA hg hs hv h90 hnn hn
  go_enter Tryz.func360, Tryz.ntmps360
  go_wp2_with fail
  refine (HN.out _).mono ?_
  rintro e w1 ⟨rfl, rfl⟩
  go_wp2_with fail
  refine (HS.out _).mono ?_
  rintro e w1 ⟨rfl, hb1⟩
  go_wp2_with fail
  go_ret
  exact ⟨rfl, hb1⟩
set_option maxHeartbeats 1000000 in
theorem sin_any (d : Int) (h0 : -1000000 ≤ d) (h1 : d ≤ 1000000) (w : World) : Calls Tryz.prog 360 #[.int .i64 d] w fun e w' => e = .returned (.int .i64 (sinP d)) ∧ Below w.heap.size w w' := by
 by_cases hn : normP d ≤ 180
 ·have := sinLow_any d h0 h1 hn w
  unfold sinP
  rw [if_pos hn]
  exact this
 ·have HN := hidE (fun W => norm_any d h0 h1 W)
  have hb := normP_bd d
  have hsb := sinP_bd d
  unfold sinP at hsb ⊢
  rw [if_neg hn] at hsb ⊢
  have hnn : normP (normP d - 180) = normP d - 180 := by rw [normP_eq (normP d - 180)]; omega
  have HL := hidE (fun W => sinLow_any (normP d - 180) (by omega) (by omega) (by omega) W)
  rw [hnn] at HL
  clear hnn
  obtain ⟨n, hnn⟩ : ∃ n, normP d = n := ⟨_, rfl⟩
  rw [hnn] at hb hn HN HL hsb ⊢
  obtain ⟨v, hv⟩ : ∃ v, sin0 (n - 180) = v := ⟨_, rfl⟩
  rw [hv] at HL hsb ⊢
  have h90b : decide ((n : Int) ≤ 90) = false := by simp; omega
  have h180b : decide ((n : Int) ≤ 180) = false := by simp; omega
  clear hv hnn
  go_enter Tryz.func360, Tryz.ntmps360
  go_wp2_with fail
  refine (HN.out _).mono ?_
  rintro e w1 ⟨rfl, rfl⟩
  go_wp2_with fail
  refine (HL.out _).mono ?_
  rintro e w1 ⟨rfl, hb1⟩
  go_wp2_with fail
  go_ret
  exact ⟨rfl, hb1⟩
theorem cos_any (d : Int) (h0 : -1000000 ≤ d) (h1 : d ≤ 1000000) (w : World) : Calls Tryz.prog 359 #[.int .i64 d] w fun e w' => e = .returned (.int .i64 (cosP d)) ∧ Below w.heap.size w w' := by
 have HN := hidE (fun W => norm_any d h0 h1 W)
 have hb := normP_bd d
 have HS := hidE (fun W => sin_any (normP d + 90) (by omega) (by omega) W)
 unfold cosP
 obtain ⟨n, hnn⟩ : ∃ n, normP d = n := ⟨_, rfl⟩
 rw [hnn] at hb HN HS ⊢
 clear hnn
 go_enter Tryz.func359, Tryz.ntmps359
 go_wp2_with fail
 refine (HN.out _).mono ?_
 rintro e w1 ⟨rfl, rfl⟩
 go_wp2_with fail
 refine (HS.out _).mono ?_
 rintro e w1 ⟨rfl, hb1⟩
 go_wp2_with fail
 go_ret
 exact ⟨rfl, hb1⟩
def Crs.vals (c : Crs) : Array Value := #[.int .i64 c.bearing, .int .i64 c.needle, .int .i64 c.links, .int .i64 c.year, .int .i64 c.wear, .int .i64 c.slack]
def Crs.val (c : Crs) : Value := .agg c.vals
theorem checkChain_any (a b : Int) (w : World) : Calls Tryz.prog 342 #[.agg #[.int .i64 a, .int .i64 b]] w fun e w' => e = .returned (.int .i64 (if (inR a (-500) 500 && inR b 0 200) = true then 0 else 1)) ∧ Below w.heap.size w w' := by
 have H1 := hidE (fun W => inC_any a (-500) 500 W)
 have H2 := hidE (fun W => inC_any b 0 200 W)
 obtain ⟨p, hp⟩ : ∃ p, inR a (-500) 500 = p := ⟨_, rfl⟩
 obtain ⟨q, hq⟩ : ∃ q, inR b 0 200 = q := ⟨_, rfl⟩
 rw [hp] at H1 ⊢
 rw [hq] at H2 ⊢
 clear hp hq
 cases p
 rotate_left
 cases q
 rotate_left
 all_goals
  go_enter Tryz.func342, Tryz.ntmps342
  go_wp2_with (first | (go_at_call 255; (first | with_reducible refine (H1.out _).mono ?_ | with_reducible refine (H2.out _).mono ?_); rintro e w1 ⟨rfl, rfl⟩) | (go_at_call 341; refine (rightC_any _ _).mono ?_; rintro e w1 ⟨rfl, rfl⟩))
  go_ret
  exact ⟨rfl, by go_grown⟩
set_option maxHeartbeats 1000000 in
theorem checkCourse_any (c : Crs) (w : World) : Calls Tryz.prog 320 #[c.val] w fun e w' => e = .returned (.int .i64 (if c.ok = true then 0 else 1)) ∧ Below w.heap.size w w' := by
 obtain ⟨c1, c2, c3, c4, c5, c6⟩ := c
 unfold Crs.val Crs.vals Crs.ok
 dsimp only
 have H1 := hidE (fun W => inC_any c1 0 359 W)
 have H2 := hidE (fun W => inC_any c2 0 30 W)
 have H3 := hidE (fun W => inC_any c3 1 100000 W)
 have H4 := hidE (fun W => inC_any c4 1 3000 W)
 have H5 := hidE (fun W => checkChain_any c5 c6 W)
 rw [Bool.and_assoc _ (inR c5 _ _)]
 obtain ⟨p1, hp1⟩ : ∃ p, inR c1 0 359 = p := ⟨_, rfl⟩
 obtain ⟨p2, hp2⟩ : ∃ p, inR c2 0 30 = p := ⟨_, rfl⟩
 obtain ⟨p3, hp3⟩ : ∃ p, inR c3 1 100000 = p := ⟨_, rfl⟩
 obtain ⟨p4, hp4⟩ : ∃ p, inR c4 1 3000 = p := ⟨_, rfl⟩
 obtain ⟨p5, hp5⟩ : ∃ p, (inR c5 (-500) 500 && inR c6 0 200) = p := ⟨_, rfl⟩
 rw [hp1] at H1 ⊢
 rw [hp2] at H2 ⊢
 rw [hp3] at H3 ⊢
 rw [hp4] at H4 ⊢
 rw [hp5] at H5 ⊢
 clear hp1 hp2 hp3 hp4 hp5
 cases p1
 rotate_left
 cases p2
 rotate_left
 cases p3
 rotate_left
 cases p4
 rotate_left
 cases p5
 rotate_left
 all_goals
  go_enter Tryz.func320, Tryz.ntmps320
  go_wp2_with (first | (go_at_call 255; (first | with_reducible refine (H1.out _).mono ?_ | with_reducible refine (H2.out _).mono ?_ | with_reducible refine (H3.out _).mono ?_ | with_reducible refine (H4.out _).mono ?_); rintro e w1 ⟨rfl, rfl⟩) | (go_at_call 342; refine (H5.out _).mono ?_; rintro e w1 ⟨rfl, hb1⟩) | (go_at_call 341; refine (rightC_any _ _).mono ?_; rintro e w1 ⟨rfl, rfl⟩))
  go_ret
  exact ⟨rfl, by first | (go_grown; done) | exact ((Below.refl _ _).alloc (Nat.le_refl _) _).trans (hb1.mono (by simp))⟩
theorem rightC_f (w : World) : Calls Tryz.prog 341 #[.bool false] w fun e w' => e = .returned (.int .i64 1) ∧ w = w' := rightC_any false w
theorem rightC_t (w : World) : Calls Tryz.prog 341 #[.bool true] w fun e w' => e = .returned (.int .i64 0) ∧ w = w' := rightC_any true w
set_option maxHeartbeats 1000000 in
theorem root_any (n : Int) (hn : n ≤ 9223372030926249000) (h0 : -9000000000000000000 ≤ n) (w : World) : Calls Tryz.prog 358 #[.int .i64 n] w fun e w' => e = .returned (.int .i64 (rootP n)) ∧ w = w' := by
 have HR := hidE (rootP_is hn)
 go_enter Tryz.func358, Tryz.ntmps358
 go_wp2_with fail
 go_loopw [3, 4] (fun x y wr => ∃ lo hi : Int, x = .int .i64 lo ∧ y = .int .i64 hi ∧ 0 ≤ lo ∧ lo ≤ hi ∧ hi ≤ 3037000499 ∧ Hid (lo = 0 ∨ lo * lo ≤ n) ∧ Hid (n < (hi + 1) * (hi + 1)) ∧ w = wr) (fun x y _ => (intOf y - intOf x).toNat)
 case atStart => exact ⟨0, 3037000499, rfl, rfl, by omega, by omega, by omega, hidE (.inl rfl), hidE (by omega), rfl⟩
 case round =>
  obtain ⟨lo, hi, rfl, rfl, l0, l1, l2, H1, H2, rfl⟩ := hrel
  by_cases hlt : lo < hi
  ·obtain ⟨m, hm⟩ : ∃ m, lo + (hi - lo + 1) / 2 = m := ⟨_, rfl⟩
   have m1 : lo < m ∧ m ≤ hi := by omega
   obtain ⟨p, hp⟩ : ∃ p, m * m = p := ⟨_, rfl⟩
   have p1 : 0 ≤ p ∧ p ≤ 9223372030926249001 := by
    rw [← hp]
    exact ⟨Int.mul_nonneg (by omega) (by omega), Int.mul_le_mul (a := m) (c := 3037000499) (b := m) (d := 3037000499) (by omega) (by omega) (by omega) (by omega)⟩
   by_cases hq : p ≤ n
   ·go_wp2_with fail
    go_roundw
    case rel => exact ⟨m, hi, rfl, rfl, by omega, by omega, by omega, hidE (.inr (by rw [hp]; exact hq)), H2, trivial⟩
    case measure => simp [intOf]; omega
   ·go_wp2_with fail
    go_roundw
    case rel => exact ⟨lo, m - 1, rfl, rfl, by omega, by omega, by omega, H1, hidE (by rw [show m - 1 + 1 = m by omega, hp]; omega), trivial⟩
    case measure => simp [intOf]; omega
  ·obtain rfl : lo = hi := by omega
   obtain rfl : lo = rootP n := isRoot_unique ⟨l0, H1.out, H2.out⟩ HR.out
   go_wp2_with fail
   go_ret
   exact ⟨rfl, rfl⟩
theorem rootUp_any (n : Int) (hn : n ≤ 9223372030926249000) (h0 : -9000000000000000000 ≤ n) (w : World) : Calls Tryz.prog 362 #[.int .i64 n] w fun e w' => e = .returned (.int .i64 (rootUpP n)) ∧ w = w' := by
 have HR := rootP_is hn
 have H := hidE (fun W => root_any n hn h0 W)
 unfold rootUpP
 obtain ⟨r, hr⟩ : ∃ r, rootP n = r := ⟨_, rfl⟩
 rw [hr] at HR H ⊢
 have r1 : 0 ≤ r ∧ r ≤ 3037000499 := by
  refine ⟨HR.1, ?_⟩
  apply Classical.byContradiction
  intro hc
  have := HR.2.1
  have : 3037000500 * 3037000500 ≤ r * r := Int.mul_le_mul (by omega) (by omega) (by omega) (by omega)
  omega
 obtain ⟨p, hp⟩ : ∃ p, r * r = p := ⟨_, rfl⟩
 have p1 : 0 ≤ p ∧ p ≤ 9223372030926249001 := by
  rw [← hp]
  exact ⟨Int.mul_nonneg (by omega) (by omega), Int.mul_le_mul (a := r) (c := 3037000499) (b := r) (d := 3037000499) (by omega) (by omega) (by omega) (by omega)⟩
 rw [hp]
 clear HR hr
 by_cases hq : p < n
 all_goals
  first | rw [if_pos hq] | rw [if_neg hq]
  go_enter Tryz.func362, Tryz.ntmps362
  go_wp2_with (go_at_call 358; refine (H.out _).mono ?_; rintro e w1 ⟨rfl, rfl⟩)
  go_ret
  exact ⟨rfl, rfl⟩
theorem stepC_any (dx dy : Int) (w : World) : Calls Tryz.prog 324 #[.int .i64 dx, .int .i64 dy] w fun e w' => e = .returned (.int .i64 (if dx = 0 ∨ inR dx (-100000) 100000 = false ∨ inR dy (-100000) 100000 = false then 1 else 0)) ∧ w = w' := by
 have H1 := hidE (fun W => inC_any dx (-100000) 100000 W)
 have H2 := hidE (fun W => inC_any dy (-100000) 100000 W)
 obtain ⟨p, hp⟩ : ∃ p, inR dx (-100000) 100000 = p := ⟨_, rfl⟩
 obtain ⟨q, hq⟩ : ∃ q, inR dy (-100000) 100000 = q := ⟨_, rfl⟩
 rw [hp] at H1 ⊢
 rw [hq] at H2 ⊢
 clear hp hq
 by_cases hz : dx = 0
 ·rw [if_pos (.inl hz)]
  subst hz
  go_enter Tryz.func324, Tryz.ntmps324
  go_wp2_with (go_at_call 341; refine (rightC_f _).mono ?_; rintro e w1 ⟨rfl, rfl⟩)
  go_ret
  exact ⟨rfl, rfl⟩
 ·have hzb : (dx != 0) = true := by simpa using hz
  cases p
  rotate_left
  cases q
  rotate_left
  all_goals
   simp only [hz, or_false, or_true, true_or, reduceCtorEq, ↓reduceIte]
   clear hz
   go_enter Tryz.func324, Tryz.ntmps324
   go_wp2_with (first | (go_at_call 255; (first | with_reducible refine (H1.out _).mono ?_ | with_reducible refine (H2.out _).mono ?_); rintro e w1 ⟨rfl, rfl⟩) | (go_at_call 341; (first | with_reducible refine (rightC_f _).mono ?_ | with_reducible refine (rightC_t _).mono ?_); rintro e w1 ⟨rfl, rfl⟩))
   go_ret
   exact ⟨rfl, rfl⟩
theorem back_any (c : Crs) (hc : -1000 ≤ c.bearing ∧ c.bearing ≤ 1000) (w : World) : Calls Tryz.prog 354 #[c.val] w fun e w' => e = .returned c.back.val ∧ Below w.heap.size w w' := by
 have H := hidE (fun W => norm_any (c.bearing + 180) (by omega) (by omega) W)
 have hb := normP_bd (c.bearing + 180)
 unfold Crs.back
 obtain ⟨v, hv⟩ : ∃ v, normP (c.bearing + 180) = v := ⟨_, rfl⟩
 rw [hv] at H hb ⊢
 obtain ⟨c1, c2, c3, c4, c5, c6⟩ := c
 unfold Crs.val Crs.vals
 dsimp only at *
 clear hv
 go_enter Tryz.func354, Tryz.ntmps354
 go_wp2_with (go_at_call 345; refine (H.out _).mono ?_; rintro e w1 ⟨rfl, rfl⟩)
 refine bodyPost_ret (v := _) (results_cell_one Tryz.results354 _ _ (w.heap.size + 1) 46 #[.int .i64 v, .int .i64 c2, .int .i64 c3, .int .i64 c4, .int .i64 c5, .int .i64 c6] (0,0) _ rfl ?_ Tryz.underlying46 rfl (by kernel_rfl)) rfl ⟨rfl, by go_grown⟩
 have := heap_alloc_new (w.alloc (.cells #[.int .i64 v, .int .i64 c2, .int .i64 c3, .int .i64 c4, .int .i64 c5, .int .i64 c6] 46)) (.cells #[.int .i64 v, .int .i64 c2, .int .i64 c3, .int .i64 c4, .int .i64 c5, .int .i64 c6] 46)
 simpa using this
theorem lengths_any (a b n : Int) (ha : -500 ≤ a ∧ a ≤ 500) (hb : 0 ≤ b ∧ b ≤ 200) (hn : 1 ≤ n ∧ n ≤ 100000) (w : World) : Calls Tryz.prog 356 #[.agg #[.int .i64 a, .int .i64 b], .int .i64 n] w fun e w' => e = .returned (.tuple #[.int .i64 (n * (10000 + a - b)), .int .i64 (n * (10000 + a + b))]) ∧ Below w.heap.size w w' := by
 have b1 : 0 ≤ n * (10000 + a - b) ∧ n * (10000 + a - b) ≤ 1070000000 := ⟨Int.mul_nonneg (by omega) (by omega), Int.le_trans (Int.mul_le_mul (c := 100000) (d := 10700) (by omega) (by omega) (by omega) (by omega)) (by omega)⟩
 have b2 : 0 ≤ n * (10000 + a + b) ∧ n * (10000 + a + b) ≤ 1070000000 := ⟨Int.mul_nonneg (by omega) (by omega), Int.le_trans (Int.mul_le_mul (c := 100000) (d := 10700) (by omega) (by omega) (by omega) (by omega)) (by omega)⟩
 have w1 : IntKind.i64.wrap (10000 + a) = 10000 + a := IntWalk.i64_in _ (by omega)
 have w2 : IntKind.i64.wrap (10000 + a - b) = 10000 + a - b := IntWalk.i64_in _ (by omega)
 have w3 : IntKind.i64.wrap (10000 + a + b) = 10000 + a + b := IntWalk.i64_in _ (by omega)
 have w4 : IntKind.i64.wrap (n * (10000 + a - b)) = n * (10000 + a - b) := IntWalk.i64_in _ (by omega)
 have w5 : IntKind.i64.wrap (n * (10000 + a + b)) = n * (10000 + a + b) := IntWalk.i64_in _ (by omega)
 go_enter Tryz.func356, Tryz.ntmps356
 go_wp2_with fail
 go_quiet (fail)
 go_wp2_with fail
 go_ret2
 exact ⟨rfl, ((Below.refl _ _).alloc (Nat.le_refl _) _).trans (below_drewN' _ _)⟩
def declV : Option Int → Value
 | none => .tuple #[.int .i64 0, .bool false]
 | some e => .tuple #[.int .i64 e, .bool true]
theorem declGo_drop {l : List Vrn} {k : Nat} (hk : k < l.length) (y : Int) (r : Option Int) : declGo y (l.drop k) r = declGo y (l.drop (k + 1)) (if l[k].year ≤ y then some l[k].east else r) := by
 rw [List.drop_eq_getElem_cons hk]; rfl
set_option maxHeartbeats 1000000 in
theorem decl_any (w : World) (a : Option Addr) (cap : Nat) (l : List Vrn) (year : Int) (hl : l.length ≤ 9223372036854775807) (h : VrnsAt w a l) :
 Calls Tryz.prog 270 #[.slice a l.length cap, .int .i64 year] w fun e w' => e = .returned (declV (declP l year)) ∧ Below w.heap.size w w' := by
 obtain ⟨R, hR⟩ : ∃ R, declP l year = R := ⟨_, rfl⟩
 rw [hR]
 unfold declP at hR
 have HC := hidE (checkVrns_any w a cap l hl h)
 obtain ⟨z, hz⟩ : ∃ z, checkVrns l = z := ⟨_, rfl⟩
 rw [hz] at HC hR
 by_cases h0 : z = 0
 ·subst h0
  rw [if_neg (by omega)] at hR
  have HV := hidE hR
  have H := hidE h
  clear hR hz h
  go_enter Tryz.func270, Tryz.ntmps270
  go_wp2_with (go_at_call 205; refine HC.out.mono ?_; rintro e w1 ⟨rfl, hb1⟩)
  go_loopw [6, 7, 15] (fun y i j wr => ∃ (k : Nat) (r : Option Int), k ≤ l.length ∧ j = .int .i64 k ∧ y = .int .i64 (r.getD 0) ∧ i = .bool r.isSome ∧ Hid (declGo year (l.drop k) r = R) ∧ Below w.heap.size w wr) (fun _ _ j _ => l.length - (intOf j).toNat)
  case atStart => exact ⟨0, none, Nat.zero_le _, rfl, rfl, rfl, HV, hb1⟩
  case round =>
   obtain ⟨k, r, hk, rfl, rfl, rfl, HG, hb⟩ := hrel
   by_cases hlt : k < l.length
   ·obtain ⟨b, off, rfl, hbl, hc⟩ := RecsAt.at H.out hlt
    have c0 := hc 0 (by omega)
    have c1 := hc 1 (by omega)
    rw [← hb.cell hbl, Nat.add_zero] at c0
    rw [← hb.cell hbl] at c1
    have HS := hidE (declGo_drop hlt year r)
    obtain ⟨x, hx⟩ : ∃ x, l[k] = x := ⟨_, rfl⟩
    rw [hx] at c0 c1 HS
    obtain ⟨xy, xe⟩ := x
    simp only [Vrn.cells, List.getElem?_cons_zero, List.getElem?_cons_succ] at c0 c1
    simp only at HS
    clear hx hc
    have B := hidE hb
    have l1 := B.out.size
    clear hb
    by_cases hq : xy ≤ year
    ·rw [if_pos hq] at HS
     go_wp2_with fail
     go_roundw
     case rel => exact ⟨k + 1, some xe, by omega, by go_num, rfl, rfl, hidE (by rw [← HS.out]; exact HG.out), B.out.alloc B.out.size _⟩
     case measure => simp [intOf]; omega
    ·rw [if_neg hq] at HS
     go_wp2_with fail
     go_roundw
     case rel => exact ⟨k + 1, r, by omega, by go_num, rfl, rfl, hidE (by rw [← HS.out]; exact HG.out), B.out.alloc B.out.size _⟩
     case measure => simp [intOf]; omega
   ·obtain rfl : k = l.length := by omega
    obtain rfl : r = R := by rw [← HG.out, List.drop_length]; rfl
    go_wp2_with fail
    go_ret2
    exact ⟨by cases r <;> rfl, hb⟩
 ·have hzb : (z != 0) = true := by simpa using h0
  rw [if_pos h0] at hR
  subst hR
  clear hz h0 h
  go_enter Tryz.func270, Tryz.ntmps270
  go_wp2_with (go_at_call 205; refine HC.out.mono ?_; rintro e w1 ⟨rfl, hb1⟩)
  go_ret2
  exact ⟨rfl, hb1⟩
theorem VrnsAt.next {W W' : World} {a : Option Addr} {l : List Vrn} (h : VrnsAt W a l) (hb : Below W.heap.size W W') : VrnsAt W' a l := h.below hb (Nat.le_refl _)
set_option maxHeartbeats 1000000 in
theorem sector_any (w : World) (a : Option Addr) (cap : Nat) (l : List Vrn) (c : Crs) (e : Int) (hc : c.ok = true) (he : declP l c.year = some e) (hl : l.length ≤ 9223372036854775807) (h : VrnsAt w a l) :
 Calls Tryz.prog 355 #[.slice a l.length cap, c.val] w fun r w' => r = .returned (.tuple #[.int .i64 (midP c e - c.needle), .int .i64 (midP c e + c.needle)]) ∧ Below w.heap.size w w' := by
 have hcb := Crs.ok_iff.1 hc
 have heb := decl_bd he
 have HD := hidE (fun W (hW : VrnsAt W a l) => decl_any W a cap l c.year hl hW)
 rw [he] at HD
 have HN := hidE (fun W => norm_any (c.bearing + e + 90) (by omega) (by omega) W)
 have hm := midP_bd c e
 have hnb := normP_bd (c.bearing + e + 90)
 unfold midP at hm ⊢
 obtain ⟨v, hv⟩ : ∃ v, normP (c.bearing + e + 90) = v := ⟨_, rfl⟩
 rw [hv] at HN hm hnb ⊢
 obtain ⟨w0, hw0⟩ : ∃ W, W = w.alloc (.cells c.vals 46) := ⟨_, rfl⟩
 have hv0 := hidE (show VrnsAt w0 a l by rw [hw0]; exact h.alloc _)
 have hb0 := hidE (show Below w.heap.size w w0 by rw [hw0]; exact (Below.refl _ _).alloc (Nat.le_refl _) _)
 have hx0 := hidE (show Kb [(w.heap.size, .cells c.vals 46)] w0 by rw [hw0]; exact Kb.alloc trivial)
 obtain ⟨c1, c2, c3, c4, c5, c6⟩ := c
 unfold Crs.val Crs.vals at *
 unfold declV at HD
 dsimp only at *
 have k0 := ce (i := 3) hx0.out.1 rfl
 clear hc he h hv
 go_enter Tryz.func355, Tryz.ntmps355
 go_upto_region 1 with fail
 rw [← hw0]
 clear hw0
 go_wp2_with fail
 refine (HD.out _ hv0.out).mono ?_
 rintro e w1 ⟨rfl, hb1⟩
 have hx1 := hidE (hx0.out.next hb1)
 have B1 := hidE (hb0.out.trans (hb1.mono hb0.out.size))
 have k1 := ce (i := 0) hx1.out.1 rfl
 have k2 := ce (i := 1) hx1.out.1 rfl
 clear k0 hb1 hb0 hx0 hv0 HD
 go_wp2_with (go_at_call 345; refine (HN.out _).mono ?_; rintro e w2 ⟨rfl, rfl⟩)
 go_quiet (fail)
 go_wp2_with fail
 go_ret2
 exact ⟨rfl, B1.out.trans (below_drewN' _ _)⟩
def qV (lo hi dx near far : Int) : Array Value := #[.int .i64 lo, .int .i64 hi, .int .i64 dx, .int .i64 near, .int .i64 far]
set_option maxHeartbeats 2000000 in
theorem askedC_any (w : World) (a : Option Addr) (cap : Nat) (l : List Vrn) (c : Crs) (e dx : Int) (hc : c.ok = true) (he : declP l c.year = some e) (hl : l.length ≤ 9223372036854775807) (h : VrnsAt w a l) :
 Calls Tryz.prog 347 #[.slice a l.length cap, c.val, .int .i64 dx] w fun r w' => r = .returned (.agg (qV (midP c e - c.needle) (midP c e + c.needle) dx c.near c.far)) ∧ Below w.heap.size w w' := by
 have hcb := Crs.ok_iff.1 hc
 have HS := hidE (fun W (hW : VrnsAt W a l) => sector_any W a cap l c e hc he hl hW)
 have HL := hidE (fun W => lengths_any c.wear c.slack c.links (by omega) (by omega) (by omega) W)
 obtain ⟨lo, hlo⟩ : ∃ v, midP c e - c.needle = v := ⟨_, rfl⟩
 obtain ⟨hi, hhi⟩ : ∃ v, midP c e + c.needle = v := ⟨_, rfl⟩
 unfold Crs.near Crs.far
 rw [hlo, hhi] at HS ⊢
 obtain ⟨nr, hnr⟩ : ∃ v, c.links * (10000 + c.wear - c.slack) = v := ⟨_, rfl⟩
 obtain ⟨fr, hfr⟩ : ∃ v, c.links * (10000 + c.wear + c.slack) = v := ⟨_, rfl⟩
 rw [hnr, hfr] at HL ⊢
 obtain ⟨w0, hw0⟩ : ∃ W, W = ((w.alloc (.cells c.vals 46)).alloc (.cells (qV 0 0 0 0 0) 341)).alloc (.cells (qV 0 0 dx 0 0) 341) := ⟨_, rfl⟩
 have hv0 := hidE (show VrnsAt w0 a l by rw [hw0]; exact ((h.alloc _).alloc _).alloc _)
 have hb0 := hidE (show Below w.heap.size w w0 by rw [hw0]; exact (((Below.refl _ _).alloc (Nat.le_refl _) _).alloc (by simp) _).alloc (by simp; omega) _)
 have hx0 := hidE (show Kb [(w.heap.size + 1 + 1, .cells (qV 0 0 dx 0 0) 341), (w.heap.size + 1, .cells (qV 0 0 0 0 0) 341), (w.heap.size, .cells c.vals 46)] w0 by
  rw [hw0]
  have := Kb.alloc (o := .cells (qV 0 0 dx 0 0) 341) (Kb.alloc (o := .cells (qV 0 0 0 0 0) 341) (Kb.alloc (W := w) (o := .cells c.vals 46) (L := []) trivial))
  simpa using this)
 unfold qV at *
 obtain ⟨c1, c2, c3, c4, c5, c6⟩ := c
 unfold Crs.val Crs.vals at *
 dsimp only at *
 have k0 := ce (i := 0) hx0.out.2.2.1 rfl
 have k1 := ce (i := 1) hx0.out.2.2.1 rfl
 have k2 := ce (i := 2) hx0.out.2.2.1 rfl
 have k3 := ce (i := 3) hx0.out.2.2.1 rfl
 have k4 := ce (i := 4) hx0.out.2.2.1 rfl
 have k5 := ce (i := 5) hx0.out.2.2.1 rfl
 clear hc he h hlo hhi hnr hfr
 go_enter Tryz.func347, Tryz.ntmps347
 go_upto_region 2 with fail
 rw [← hw0]
 clear hw0
 go_wp2_with fail
 refine (HS.out _ hv0.out).mono ?_
 rintro e w1 ⟨rfl, hb1⟩
 have hx1 := hidE (hx0.out.next hb1)
 have B1 := hidE (hb0.out.trans (hb1.mono hb0.out.size))
 clear hb1 hb0 hx0 hv0 HS k0 k1 k2 k3 k4 k5
 have z0 := ce (i := 0) hx1.out.1 rfl
 have z1 := ce (i := 1) hx1.out.1 rfl
 have y0 := cf (i := 0) hx1.out.1
 have y1 := cf (i := 1) hx1.out.1
 have k2 := ce (i := 2) hx1.out.2.2.1 rfl
 have k4 := ce (i := 4) hx1.out.2.2.1 rfl
 have k5 := ce (i := 5) hx1.out.2.2.1 rfl
 go_wp2_with fail
 refine (HL.out _).mono ?_
 rintro e w3 ⟨rfl, hb3⟩
 have hx3 := hidE (((hx1.out.set (i := 0) (by simp; omega) (.int .i64 lo)).set (i := 1) (by simp; omega) (.int .i64 hi)).next hb3)
 have B3 := hidE ((show Below w.heap.size w ((w1.setCell ⟨w.heap.size + 1 + 1, 0, none⟩ (.int .i64 lo)).setCell ⟨w.heap.size + 1 + 1, 1, none⟩ (.int .i64 hi)) from (B1.out.setCell (by dsimp only; omega) _).setCell (by dsimp only; omega) _).trans (hb3.mono (by have := B1.out.size; simpa using this)))
 clear hb3 hx1 B1 z0 z1 y0 y1 k2 k4 k5
 simp only [List.setIfInBounds_toArray, List.set_cons_zero, List.set_cons_succ] at hx3
 have z0 := ce (i := 0) hx3.out.1 rfl
 have z1 := ce (i := 1) hx3.out.1 rfl
 have z2 := ce (i := 2) hx3.out.1 rfl
 have z3 := ce (i := 3) hx3.out.1 rfl
 have z4 := ce (i := 4) hx3.out.1 rfl
 have y3 := cf (i := 3) hx3.out.1
 have y4 := cf (i := 4) hx3.out.1
 go_upto_region 4 with fail
 obtain ⟨w4, hw4⟩ : ∃ W, W = ((w3.setCell ⟨w.heap.size + 1 + 1, 3, none⟩ (.int .i64 nr)).setCell ⟨w.heap.size + 1 + 1, 4, none⟩ (.int .i64 fr)) := ⟨_, rfl⟩
 have hx4 := (hx3.out.set (i := 3) (by simp; omega) (.int .i64 nr)).set (i := 4) (by simp; omega) (.int .i64 fr)
 have B4 := hidE ((show Below w.heap.size w ((w3.setCell ⟨w.heap.size + 1 + 1, 3, none⟩ (.int .i64 nr)).setCell ⟨w.heap.size + 1 + 1, 4, none⟩ (.int .i64 fr)) from (B3.out.setCell (by dsimp only; omega) _).setCell (by dsimp only; omega) _))
 rw [← hw4] at hx4 B4 ⊢
 simp only [List.setIfInBounds_toArray, List.set_cons_zero, List.set_cons_succ] at hx4
 have hx5 := hidE (show Kb [(w.heap.size + 1, .cells #[.int .i64 0, .int .i64 0, .int .i64 0, .int .i64 0, .int .i64 0] 341)] w4 from ⟨hx4.2.1, trivial⟩)
 clear hw4 z0 z1 z2 z3 z4 y3 y4 hx3 B3
 have z0 := ce (i := 0) hx4.1 rfl
 have z1 := ce (i := 1) hx4.1 rfl
 have z2 := ce (i := 2) hx4.1 rfl
 have z3 := ce (i := 3) hx4.1 rfl
 have z4 := ce (i := 4) hx4.1 rfl
 clear hx4
 refine wp_region_list ?_
 refine wpList_val rfl _ _ rfl (by simp [go_sem, z0, z1, z2, z3, z4]; exact ⟨rfl, rfl⟩) ?_
 refine wpList_store_row rfl 341 _ _ rfl (w.heap.size + 1) #[.int .i64 lo, .int .i64 hi, .int .i64 dx, .int .i64 nr, .int .i64 fr] rfl rfl 341 _ hx5.out.1 (by kernel_rfl) rfl (by simp [Value.oneCell']) ?_
 go_wp2_with fail
 refine bodyPost_ret (results_cell_one Tryz.results347 _ _ (w.heap.size + 1) 341 _ (0,0) _ rfl (setRow_heap _ _ _ _ _ _ hx5.out.1) Tryz.underlying341 rfl (by kernel_rfl)) rfl ⟨rfl, below_setRow B4.out (by omega) _⟩
def fitQ (lo hi dx near far : Int) : Option (Int × Int) :=
 if hi ≤ 0 ∨ 180 ≤ lo then none else
 let most := floorP (far * far) 100000000 - dx * dx
 if most < 0 then none else
 let r := min (rootP most) 100000
 let h1 := if 0 < lo then min r (floorP (dx * cosP lo) (sinP lo)) else r
 let l1 := if hi < 180 then max (-r) (ceilP (dx * cosP hi) (sinP hi)) else -r
 let least := rootUpP (ceilP (near * near) 100000000 - dx * dx)
 let l2 := if hi ≤ 90 then max l1 least else l1
 let h2 := if hi ≤ 90 then h1 else if 90 ≤ lo then min h1 (-least) else h1
 if h2 < l2 then none else some (l2, h2)
theorem fit_q (c : Crs) (e dx : Int) : fitP c e dx = fitQ (midP c e - c.needle) (midP c e + c.needle) dx c.near c.far := rfl
def fitV : Option (Int × Int) → Value
 | none => .tuple #[.int .i64 0, .int .i64 0, .bool false]
 | some p => .tuple #[.int .i64 p.1, .int .i64 p.2, .bool true]
theorem floor_bd {a b m : Int} (h1 : -m ≤ a) (h2 : a ≤ m) : -m - 1 ≤ floorP a b ∧ floorP a b ≤ m := by
 unfold floorP
 have e1 := Int.natAbs_tdiv_le_natAbs a b
 split <;> omega
theorem ceil_bd {a b m : Int} (h1 : -m ≤ a) (h2 : a ≤ m) : -m ≤ ceilP a b ∧ ceilP a b ≤ m + 1 := by
 unfold ceilP
 have := floor_bd (a := -a) (b := b) (m := m) (by omega) (by omega)
 omega
theorem sq_bd {a m : Int} (h1 : 0 ≤ a) (h2 : a ≤ m) : 0 ≤ a * a ∧ a * a ≤ m * m := ⟨Int.mul_nonneg h1 h1, Int.mul_le_mul h2 h2 h1 (by omega)⟩
theorem rootP_le {n : Int} (h : n ≤ 9223372030926249000) : 0 ≤ rootP n ∧ rootP n ≤ 3037000499 := by
 have HR := rootP_is h
 refine ⟨HR.1, ?_⟩
 apply Classical.byContradiction
 intro hc
 have h2 := HR.2.1
 have : 3037000500 * 3037000500 ≤ rootP n * rootP n := Int.mul_le_mul (by omega) (by omega) (by omega) (by omega)
 omega
theorem trig_bd {d x : Int} (h1 : -10000 ≤ x) (h2 : x ≤ 10000) (d1 : 0 ≤ d) (d2 : d ≤ 100000) : -1000000000 ≤ d * x ∧ d * x ≤ 1000000000 := by
 have a := Int.mul_le_mul_of_nonneg_left h1 d1
 have b := Int.mul_le_mul_of_nonneg_left h2 d1
 omega
set_option maxRecDepth 100000 in
set_option maxHeartbeats 8000000 in
theorem itvQ_any (lo hi dx near far : Int) (hlo : -1000 ≤ lo ∧ lo ≤ 1000) (hhi : -1000 ≤ hi ∧ hi ≤ 1000) (hdx : 1 ≤ dx ∧ dx ≤ 100000) (hn : 0 ≤ near ∧ near ≤ 1070000000) (hf : 0 ≤ far ∧ far ≤ 1070000000) (w : World) :
 Calls Tryz.prog 348 #[.agg (qV lo hi dx near far)] w fun r w' => r = .returned (fitV (fitQ lo hi dx near far)) ∧ Below w.heap.size w w' := by
 obtain ⟨R, hR⟩ : ∃ R, fitQ lo hi dx near far = R := ⟨_, rfl⟩
 rw [hR]
 unfold fitQ at hR
 simp only at hR
 unfold qV
 by_cases hA : hi ≤ 0 ∨ 180 ≤ lo
 ·rw [if_pos hA] at hR
  subst hR
  by_cases hA1 : hi ≤ 0
  ·clear hA
   go_enter Tryz.func348, Tryz.ntmps348
   go_wp2_with fail
   refine bodyPost_ret (v := fitV none) (by simp [results, Tryz.results348, go_sem, fitV]) rfl ⟨rfl, by go_grown⟩
  ·have hA2 : 180 ≤ lo := by omega
   clear hA
   go_enter Tryz.func348, Tryz.ntmps348
   go_wp2_with fail
   refine bodyPost_ret (v := fitV none) (by simp [results, Tryz.results348, go_sem, fitV]) rfl ⟨rfl, by go_grown⟩
 rw [if_neg hA] at hR
 have hA1 : ¬ hi ≤ 0 := by omega
 have hA2 : ¬ 180 ≤ lo := by omega
 have f2b := sq_bd hf.1 hf.2
 have n2b := sq_bd hn.1 hn.2
 have d2b := sq_bd (by omega : 0 ≤ dx) hdx.2
 obtain ⟨f2, hf2⟩ : ∃ v, far * far = v := ⟨_, rfl⟩
 obtain ⟨n2, hn2⟩ : ∃ v, near * near = v := ⟨_, rfl⟩
 obtain ⟨d2, hd2⟩ : ∃ v, dx * dx = v := ⟨_, rfl⟩
 rw [hf2, hn2, hd2] at hR
 rw [hf2] at f2b
 rw [hn2] at n2b
 rw [hd2] at d2b
 have HFF := hidE (fun W => floor_any f2 100000000 W (by omega) (by omega) (by omega))
 have ffb := floor_bd (a := f2) (b := 100000000) (m := 1144900000000000000) (by omega) (by omega)
 have HCN := hidE (fun W => ceil_any n2 100000000 W (by omega) (by omega) (by omega))
 have ccb := ceil_bd (a := n2) (b := 100000000) (m := 1144900000000000000) (by omega) (by omega)
 obtain ⟨ff, hff⟩ : ∃ v, floorP f2 100000000 = v := ⟨_, rfl⟩
 obtain ⟨cc, hcc⟩ : ∃ v, ceilP n2 100000000 = v := ⟨_, rfl⟩
 rw [hff] at hR HFF ffb
 rw [hcc] at hR HCN ccb
 obtain ⟨most, hmost⟩ : ∃ v, ff - d2 = v := ⟨_, rfl⟩
 obtain ⟨df, hdf⟩ : ∃ v, cc - d2 = v := ⟨_, rfl⟩
 rw [hmost, hdf] at hR
 have hmb : -2000000000000000000 ≤ most ∧ most ≤ 2000000000000000000 := by omega
 have hdb : -2000000000000000000 ≤ df ∧ df ≤ 2000000000000000000 := by omega
 have wf2 : IntKind.i64.wrap (far * far) = f2 := by rw [hf2]; exact IntWalk.i64_in _ (by omega)
 have wd2 : IntKind.i64.wrap (dx * dx) = d2 := by rw [hd2]; exact IntWalk.i64_in _ (by omega)
 have wn2 : IntKind.i64.wrap (near * near) = n2 := by rw [hn2]; exact IntWalk.i64_in _ (by omega)
 have wmo : IntKind.i64.wrap (ff - d2) = most := by rw [hmost]; exact IntWalk.i64_in _ (by omega)
 have wdf : IntKind.i64.wrap (cc - d2) = df := by rw [hdf]; exact IntWalk.i64_in _ (by omega)
 have hR0 := hidE hR
 obtain ⟨w0, hw0⟩ : ∃ W, W = w.alloc (.cells #[.int .i64 lo, .int .i64 hi, .int .i64 dx, .int .i64 near, .int .i64 far] 341) := ⟨_, rfl⟩
 have B0 := hidE (show Below w.heap.size w w0 by rw [hw0]; exact (Below.refl _ _).alloc (Nat.le_refl _) _)
 have X0 := hidE (show Kb [(w.heap.size, .cells #[.int .i64 lo, .int .i64 hi, .int .i64 dx, .int .i64 near, .int .i64 far] 341)] w0 by rw [hw0]; exact Kb.alloc trivial)
 have k0 := ce (i := 0) X0.out.1 rfl
 have k1 := ce (i := 1) X0.out.1 rfl
 clear hR hff hcc hA f2b n2b d2b ffb ccb
 go_enter Tryz.func348, Tryz.ntmps348
 go_upto_region 1 with fail
 rw [← hw0]
 clear hw0
 go_upto_region 3 with fail
 have hS1 := X0.out.drew
 have B1 := hidE (B0.out.trans (Below.refl _ w0).drew)
 refine wp_region_F (S := Kb [(w.heap.size, .cells #[.int .i64 lo, .int .i64 hi, .int .i64 dx, .int .i64 near, .int .i64 far] 341)]) (last := 100) (by kernel_rfl) ?_
 refine tF 0 18 (.pointer (some ⟨w.heap.size, 4, none⟩)) rfl (by kernel_rfl) rfl (fun _ _ _ h => h) (fun V hV => ?_) hS1 ?_
 ·simp [go_sem, execOp]
 try simp only [sA, sB, sC]
 refine tF 1 19 (.int .i64 far) rfl (by kernel_rfl) rfl (fun _ _ _ h => h) (fun V hV => ?_) hS1 ?_
 ·(have z := ce (i := 4) (hV.1) rfl; simp [go_sem, execOp, z])
 try simp only [sA, sB, sC]
 refine tF 2 20 (.pointer (some ⟨w.heap.size, 4, none⟩)) rfl (by kernel_rfl) rfl (fun _ _ _ h => h) (fun V hV => ?_) hS1 ?_
 ·simp [go_sem, execOp]
 try simp only [sA, sB, sC]
 refine tF 3 21 (.int .i64 far) rfl (by kernel_rfl) rfl (fun _ _ _ h => h) (fun V hV => ?_) hS1 ?_
 ·(have z := ce (i := 4) (hV.1) rfl; simp [go_sem, execOp, z])
 try simp only [sA, sB, sC]
 refine tF 4 22 (.int .i64 f2) rfl (by kernel_rfl) rfl (fun _ _ _ h => h) (fun V hV => ?_) hS1 ?_
 ·simp [go_sem, execOp, wf2]
 try simp only [sA, sB, sC]
 refine tF 6 24 (.pointer (some ⟨w.heap.size, 2, none⟩)) rfl (by kernel_rfl) rfl (fun _ _ _ h => h) (fun V hV => ?_) hS1 ?_
 ·simp [go_sem, execOp]
 try simp only [sA, sB, sC]
 refine tF 7 25 (.int .i64 dx) rfl (by kernel_rfl) rfl (fun _ _ _ h => h) (fun V hV => ?_) hS1 ?_
 ·(have z := ce (i := 2) (hV.1) rfl; simp [go_sem, execOp, z])
 try simp only [sA, sB, sC]
 refine tF 8 26 (.pointer (some ⟨w.heap.size, 2, none⟩)) rfl (by kernel_rfl) rfl (fun _ _ _ h => h) (fun V hV => ?_) hS1 ?_
 ·simp [go_sem, execOp]
 try simp only [sA, sB, sC]
 refine tF 9 27 (.int .i64 dx) rfl (by kernel_rfl) rfl (fun _ _ _ h => h) (fun V hV => ?_) hS1 ?_
 ·(have z := ce (i := 2) (hV.1) rfl; simp [go_sem, execOp, z])
 try simp only [sA, sB, sC]
 refine tF 10 28 (.int .i64 d2) rfl (by kernel_rfl) rfl (fun _ _ _ h => h) (fun V hV => ?_) hS1 ?_
 ·simp [go_sem, execOp, wd2]
 try simp only [sA, sB, sC]
 refine wpAnyF_step 5 rfl (by kernel_rfl) (fun K hK => ?_)
 go_simp
 go_at_call 357
 refine (HFF.out _).mono ?_
 rintro e w2 ⟨rfl, rfl⟩
 go_wp2_with fail
 refine hK.out _ _ (.inr hS1) ?_
 clear hK K
 try simp only [Act.put, sA, sB, sC]
 refine tF 11 29 (.int .i64 most) rfl (by kernel_rfl) rfl (fun _ _ _ h => h) (fun V hV => ?_) hS1 ?_
 ·simp [go_sem, execOp, wmo]
 try simp only [sA, sB, sC]
 refine tF 12 5 (.int .i64 most) rfl (by kernel_rfl) rfl (fun _ _ _ h => h) (fun V hV => ?_) hS1 ?_
 ·simp [go_sem, execOp]
 try simp only [sA, sB, sC]
 refine wpAnyF_done (by kernel_rfl) ?_ _
 by_cases hB : most < 0
 ·have hR := hR0.out
  rw [if_pos hB] at hR
  subst hR
  clear hR0
  go_wp2_with fail
  refine bodyPost_ret (v := fitV none) (by simp [results, Tryz.results348, go_sem, fitV]) rfl ⟨rfl, B1.out⟩
 have hR := hR0.out
 rw [if_neg hB] at hR
 clear hR0
 have HRT := hidE (fun W => root_any most (by omega) (by omega) W)
 have rb := rootP_le (n := most) (by omega)
 obtain ⟨rt, hrt⟩ : ∃ v, rootP most = v := ⟨_, rfl⟩
 rw [hrt] at hR HRT rb
 obtain ⟨r, hr⟩ : ∃ v, min rt 100000 = v := ⟨_, rfl⟩
 rw [hr] at hR
 have rrb : 0 ≤ r ∧ r ≤ 100000 := by omega
 have hR1 := hidE hR
 clear hR hrt
 obtain ⟨w1, hw1⟩ : ∃ W : World, W = w0.drew := ⟨_, rfl⟩
 rw [← hw1] at hS1 B1 ⊢
 clear hw1
 have k0 := ce (i := 0) hS1.1 rfl
 have k1 := ce (i := 1) hS1.1 rfl
 go_wp2_with fail
 refine (HRT.out _).mono ?_
 rintro e w2 ⟨rfl, rfl⟩
 go_upto_if 40 with fail
 obtain ⟨h1, hh1⟩ : ∃ v, (if 0 < lo then min r (floorP (dx * cosP lo) (sinP lo)) else r) = v := ⟨_, rfl⟩
 rw [hh1] at hR1
 have h1b : -1000000001 ≤ h1 ∧ h1 ≤ 100000 := by
  rw [← hh1]
  have c := cosP_bd lo
  have := trig_bd c.1 c.2 (by omega : 0 ≤ dx) hdx.2
  have := floor_bd (a := dx * cosP lo) (b := sinP lo) (m := 1000000000) (by omega) (by omega)
  split <;> omega
 have hhh1 := hidE hh1
 clear hh1
 go_cut [8] (fun s wx => s = .int .i64 h1 ∧ Hid (Kb [(w.heap.size, .cells #[.int .i64 lo, .int .i64 hi, .int .i64 dx, .int .i64 near, .int .i64 far] 341)] wx) ∧ Hid (Below w.heap.size w wx))
 case first =>
  by_cases q : 0 < lo
  ·have hh1 := hhh1.out
   rw [if_pos q] at hh1
   have c := cosP_bd lo
   have s := sinP_bd lo
   have sp := sinP_pos (d := lo) (by omega) (by omega)
   have HCL := hidE (fun W => cos_any lo (by omega) (by omega) W)
   have HSL := hidE (fun W => sin_any lo (by omega) (by omega) W)
   obtain ⟨cl, hcl⟩ : ∃ v, cosP lo = v := ⟨_, rfl⟩
   obtain ⟨sl, hsl⟩ : ∃ v, sinP lo = v := ⟨_, rfl⟩
   rw [hcl] at HCL c hh1
   rw [hsl] at HSL s sp hh1
   have pb := trig_bd c.1 c.2 (by omega : 0 ≤ dx) hdx.2
   obtain ⟨pl, hpl⟩ : ∃ v, dx * cl = v := ⟨_, rfl⟩
   have wpl : IntKind.i64.wrap (dx * cl) = pl := by rw [hpl]; exact IntWalk.i64_in _ (by omega)
   rw [hpl] at pb hh1
   have HFL := hidE (fun W => floor_any pl sl W (by omega) (by omega) (by omega))
   obtain ⟨fl, hfl⟩ : ∃ v, floorP pl sl = v := ⟨_, rfl⟩
   rw [hfl] at HFL hh1
   clear hcl hsl hpl hfl c s sp pb hhh1 h1b
   go_wp2_with fail
   have hS2 := hS1.drew
   have B2 := hidE (B1.out.trans (Below.refl _ w1).drew)
   refine wp_region_F (S := Kb [(w.heap.size, .cells #[.int .i64 lo, .int .i64 hi, .int .i64 dx, .int .i64 near, .int .i64 far] 341)]) (last := 100) (by kernel_rfl) ?_
   refine tF 0 41 (.int .i64 r) rfl (by kernel_rfl) rfl (fun _ _ _ h => h) (fun V hV => ?_) hS2 ?_
   ·simp [go_sem, execOp]
   try simp only [sA, sB, sC]
   refine tF 1 42 (.pointer (some ⟨w.heap.size, 2, none⟩)) rfl (by kernel_rfl) rfl (fun _ _ _ h => h) (fun V hV => ?_) hS2 ?_
   ·simp [go_sem, execOp]
   try simp only [sA, sB, sC]
   refine tF 2 43 (.int .i64 dx) rfl (by kernel_rfl) rfl (fun _ _ _ h => h) (fun V hV => ?_) hS2 ?_
   ·(have z := ce (i := 2) (hV.1) rfl; simp [go_sem, execOp, z])
   try simp only [sA, sB, sC]
   refine tF 3 44 (.pointer (some ⟨w.heap.size, 0, none⟩)) rfl (by kernel_rfl) rfl (fun _ _ _ h => h) (fun V hV => ?_) hS2 ?_
   ·simp [go_sem, execOp]
   try simp only [sA, sB, sC]
   refine tF 4 45 (.int .i64 lo) rfl (by kernel_rfl) rfl (fun _ _ _ h => h) (fun V hV => ?_) hS2 ?_
   ·(have z := ce (i := 0) (hV.1) rfl; simp [go_sem, execOp, z])
   try simp only [sA, sB, sC]
   refine tF 7 48 (.pointer (some ⟨w.heap.size, 0, none⟩)) rfl (by kernel_rfl) rfl (fun _ _ _ h => h) (fun V hV => ?_) hS2 ?_
   ·simp [go_sem, execOp]
   try simp only [sA, sB, sC]
   refine tF 8 49 (.int .i64 lo) rfl (by kernel_rfl) rfl (fun _ _ _ h => h) (fun V hV => ?_) hS2 ?_
   ·(have z := ce (i := 0) (hV.1) rfl; simp [go_sem, execOp, z])
   try simp only [sA, sB, sC]
   refine wpAnyF_step 5 rfl (by kernel_rfl) (fun K hK => ?_)
   go_simp
   go_at_call 359
   refine (HCL.out _).mono ?_
   rintro e wq3 ⟨rfl, hbq3⟩
   have hS3 := hS2.next hbq3
   have B3 := hidE (B2.out.trans (hbq3.mono B2.out.size))
   clear hbq3
   go_wp2_with fail
   refine hK.out _ _ (.inr hS3) ?_
   clear hK K
   try simp only [Act.put, sA, sB, sC]
   refine tF 6 47 (.int .i64 pl) rfl (by kernel_rfl) rfl (fun _ _ _ h => h) (fun V hV => ?_) hS3 ?_
   ·simp [go_sem, execOp, wpl]
   try simp only [sA, sB, sC]
   refine wpAnyF_step 9 rfl (by kernel_rfl) (fun K hK => ?_)
   go_simp
   go_at_call 360
   refine (HSL.out _).mono ?_
   rintro e wq4 ⟨rfl, hbq4⟩
   have hS4 := hS3.next hbq4
   have B4 := hidE (B3.out.trans (hbq4.mono B3.out.size))
   clear hbq4
   go_wp2_with fail
   refine hK.out _ _ (.inr hS4) ?_
   clear hK K
   try simp only [Act.put, sA, sB, sC]
   refine wpAnyF_step 10 rfl (by kernel_rfl) (fun K hK => ?_)
   go_simp
   go_at_call 357
   refine (HFL.out _).mono ?_
   rintro e wq ⟨rfl, rfl⟩
   go_wp2_with fail
   refine hK.out _ _ (.inr hS4) ?_
   clear hK K
   try simp only [Act.put, sA, sB, sC]
   refine tF 11 52 (.int .i64 h1) rfl (by kernel_rfl) rfl (fun _ _ _ h => h) (fun V hV => ?_) hS4 ?_
   ·simp [go_sem, execOp, hh1]
   try simp only [sA, sB, sC]
   refine tF 12 8 (.int .i64 h1) rfl (by kernel_rfl) rfl (fun _ _ _ h => h) (fun V hV => ?_) hS4 ?_
   ·simp [go_sem, execOp]
   try simp only [sA, sB, sC]
   refine wpAnyF_done (by kernel_rfl) ?_ _
   go_wp2_with fail
   go_meet
   exact ⟨rfl, hidE hS4, B4⟩
  ·have hh1 := hhh1.out
   rw [if_neg q] at hh1
   subst hh1
   go_wp2_with fail
   go_meet
   exact ⟨rfl, hidE hS1, B1⟩
 case rest =>
 obtain ⟨rfl, HX, HB⟩ := hcut
 obtain ⟨w5, rfl⟩ : ∃ x : World, x = wc := ⟨wc, rfl⟩
 have hS5 := HX.out
 have B5 := HB
 clear HX HB hS1 B1 k0 k1 hhh1
 have k0 := ce (i := 0) hS5.1 rfl
 have k1 := ce (i := 1) hS5.1 rfl
 go_upto_if 55 with fail
 obtain ⟨l1, hl1⟩ : ∃ v, (if hi < 180 then max (-r) (ceilP (dx * cosP hi) (sinP hi)) else -r) = v := ⟨_, rfl⟩
 rw [hl1] at hR1
 have l1b : -100000 ≤ l1 ∧ l1 ≤ 1000000001 := by
  rw [← hl1]
  have c := cosP_bd hi
  have := trig_bd c.1 c.2 (by omega : 0 ≤ dx) hdx.2
  have := ceil_bd (a := dx * cosP hi) (b := sinP hi) (m := 1000000000) (by omega) (by omega)
  split <;> omega
 have hhl1 := hidE hl1
 clear hl1
 go_cut [7] (fun s wx => s = .int .i64 l1 ∧ Hid (Kb [(w.heap.size, .cells #[.int .i64 lo, .int .i64 hi, .int .i64 dx, .int .i64 near, .int .i64 far] 341)] wx) ∧ Hid (Below w.heap.size w wx))
 case first =>
  by_cases q : hi < 180
  ·have hh1 := hhl1.out
   rw [if_pos q] at hh1
   have c := cosP_bd hi
   have s := sinP_bd hi
   have sp := sinP_pos (d := hi) (by omega) (by omega)
   have HCL := hidE (fun W => cos_any hi (by omega) (by omega) W)
   have HSL := hidE (fun W => sin_any hi (by omega) (by omega) W)
   obtain ⟨cl, hcl⟩ : ∃ v, cosP hi = v := ⟨_, rfl⟩
   obtain ⟨sl, hsl⟩ : ∃ v, sinP hi = v := ⟨_, rfl⟩
   rw [hcl] at HCL c hh1
   rw [hsl] at HSL s sp hh1
   have pb := trig_bd c.1 c.2 (by omega : 0 ≤ dx) hdx.2
   obtain ⟨pl, hpl⟩ : ∃ v, dx * cl = v := ⟨_, rfl⟩
   have wpl : IntKind.i64.wrap (dx * cl) = pl := by rw [hpl]; exact IntWalk.i64_in _ (by omega)
   rw [hpl] at pb hh1
   have HFL := hidE (fun W => ceil_any pl sl W (by omega) (by omega) (by omega))
   obtain ⟨fl, hfl⟩ : ∃ v, ceilP pl sl = v := ⟨_, rfl⟩
   rw [hfl] at HFL hh1
   clear hcl hsl hpl hfl c s sp pb hhl1 l1b
   go_wp2_with fail
   have hS2 := hS5.drew
   have B2 := hidE (B5.out.trans (Below.refl _ w5).drew)
   refine wp_region_F (S := Kb [(w.heap.size, .cells #[.int .i64 lo, .int .i64 hi, .int .i64 dx, .int .i64 near, .int .i64 far] 341)]) (last := 100) (by kernel_rfl) ?_
   refine tF 0 56 (.int .i64 ((-r))) rfl (by kernel_rfl) rfl (fun _ _ _ h => h) (fun V hV => ?_) hS2 ?_
   ·simp [go_sem, execOp]
   try simp only [sA, sB, sC]
   refine tF 1 57 (.pointer (some ⟨w.heap.size, 2, none⟩)) rfl (by kernel_rfl) rfl (fun _ _ _ h => h) (fun V hV => ?_) hS2 ?_
   ·simp [go_sem, execOp]
   try simp only [sA, sB, sC]
   refine tF 2 58 (.int .i64 dx) rfl (by kernel_rfl) rfl (fun _ _ _ h => h) (fun V hV => ?_) hS2 ?_
   ·(have z := ce (i := 2) (hV.1) rfl; simp [go_sem, execOp, z])
   try simp only [sA, sB, sC]
   refine tF 3 59 (.pointer (some ⟨w.heap.size, 1, none⟩)) rfl (by kernel_rfl) rfl (fun _ _ _ h => h) (fun V hV => ?_) hS2 ?_
   ·simp [go_sem, execOp]
   try simp only [sA, sB, sC]
   refine tF 4 60 (.int .i64 hi) rfl (by kernel_rfl) rfl (fun _ _ _ h => h) (fun V hV => ?_) hS2 ?_
   ·(have z := ce (i := 1) (hV.1) rfl; simp [go_sem, execOp, z])
   try simp only [sA, sB, sC]
   refine tF 7 63 (.pointer (some ⟨w.heap.size, 1, none⟩)) rfl (by kernel_rfl) rfl (fun _ _ _ h => h) (fun V hV => ?_) hS2 ?_
   ·simp [go_sem, execOp]
   try simp only [sA, sB, sC]
   refine tF 8 64 (.int .i64 hi) rfl (by kernel_rfl) rfl (fun _ _ _ h => h) (fun V hV => ?_) hS2 ?_
   ·(have z := ce (i := 1) (hV.1) rfl; simp [go_sem, execOp, z])
   try simp only [sA, sB, sC]
   refine wpAnyF_step 5 rfl (by kernel_rfl) (fun K hK => ?_)
   go_simp
   go_at_call 359
   refine (HCL.out _).mono ?_
   rintro e wq3 ⟨rfl, hbq3⟩
   have hS3 := hS2.next hbq3
   have B3 := hidE (B2.out.trans (hbq3.mono B2.out.size))
   clear hbq3
   go_wp2_with fail
   refine hK.out _ _ (.inr hS3) ?_
   clear hK K
   try simp only [Act.put, sA, sB, sC]
   refine tF 6 62 (.int .i64 pl) rfl (by kernel_rfl) rfl (fun _ _ _ h => h) (fun V hV => ?_) hS3 ?_
   ·simp [go_sem, execOp, wpl]
   try simp only [sA, sB, sC]
   refine wpAnyF_step 9 rfl (by kernel_rfl) (fun K hK => ?_)
   go_simp
   go_at_call 360
   refine (HSL.out _).mono ?_
   rintro e wq4 ⟨rfl, hbq4⟩
   have hS4 := hS3.next hbq4
   have B4 := hidE (B3.out.trans (hbq4.mono B3.out.size))
   clear hbq4
   go_wp2_with fail
   refine hK.out _ _ (.inr hS4) ?_
   clear hK K
   try simp only [Act.put, sA, sB, sC]
   refine wpAnyF_step 10 rfl (by kernel_rfl) (fun K hK => ?_)
   go_simp
   go_at_call 361
   refine (HFL.out _).mono ?_
   rintro e wq ⟨rfl, rfl⟩
   go_wp2_with fail
   refine hK.out _ _ (.inr hS4) ?_
   clear hK K
   try simp only [Act.put, sA, sB, sC]
   refine tF 11 67 (.int .i64 l1) rfl (by kernel_rfl) rfl (fun _ _ _ h => h) (fun V hV => ?_) hS4 ?_
   ·simp [go_sem, execOp, hh1]
   try simp only [sA, sB, sC]
   refine tF 12 7 (.int .i64 l1) rfl (by kernel_rfl) rfl (fun _ _ _ h => h) (fun V hV => ?_) hS4 ?_
   ·simp [go_sem, execOp]
   try simp only [sA, sB, sC]
   refine wpAnyF_done (by kernel_rfl) ?_ _
   go_wp2_with fail
   go_meet
   exact ⟨rfl, hidE hS4, B4⟩
  ·have hh1 := hhl1.out
   rw [if_neg q] at hh1
   subst hh1
   go_wp2_with fail
   go_meet
   exact ⟨rfl, hidE hS5, B5⟩
 case rest =>
 obtain ⟨rfl, HX, HB⟩ := hcut
 obtain ⟨w6, rfl⟩ : ∃ x : World, x = wc := ⟨wc, rfl⟩
 have hS6 := HX.out
 have B6 := HB
 clear HX HB hS5 B5 k0 k1 hhl1
 have HLE := hidE (fun W => rootUp_any df (by omega) (by omega) W)
 have leb : 0 ≤ rootUpP df ∧ rootUpP df ≤ 3037000500 := by
  have := rootP_le (n := df) (by omega)
  unfold rootUpP
  split <;> omega
 obtain ⟨least, hle⟩ : ∃ v, rootUpP df = v := ⟨_, rfl⟩
 rw [hle] at hR1 HLE leb
 clear hle
 go_upto_region 12 with fail
 have hS2 := hS6.drew
 have B2 := hidE (B6.out.trans (Below.refl _ w6).drew)
 clear hS6 B6
 refine wp_region_F (S := Kb [(w.heap.size, .cells #[.int .i64 lo, .int .i64 hi, .int .i64 dx, .int .i64 near, .int .i64 far] 341)]) (last := 100) (by kernel_rfl) ?_
 refine tF 0 68 (.pointer (some ⟨w.heap.size, 3, none⟩)) rfl (by kernel_rfl) rfl (fun _ _ _ h => h) (fun V hV => ?_) hS2 ?_
 ·simp [go_sem, execOp]
 try simp only [sA, sB, sC]
 refine tF 1 69 (.int .i64 near) rfl (by kernel_rfl) rfl (fun _ _ _ h => h) (fun V hV => ?_) hS2 ?_
 ·(have z := ce (i := 3) (hV.1) rfl; simp [go_sem, execOp, z])
 try simp only [sA, sB, sC]
 refine tF 2 70 (.pointer (some ⟨w.heap.size, 3, none⟩)) rfl (by kernel_rfl) rfl (fun _ _ _ h => h) (fun V hV => ?_) hS2 ?_
 ·simp [go_sem, execOp]
 try simp only [sA, sB, sC]
 refine tF 3 71 (.int .i64 near) rfl (by kernel_rfl) rfl (fun _ _ _ h => h) (fun V hV => ?_) hS2 ?_
 ·(have z := ce (i := 3) (hV.1) rfl; simp [go_sem, execOp, z])
 try simp only [sA, sB, sC]
 refine tF 4 72 (.int .i64 n2) rfl (by kernel_rfl) rfl (fun _ _ _ h => h) (fun V hV => ?_) hS2 ?_
 ·simp [go_sem, execOp, wn2]
 try simp only [sA, sB, sC]
 refine tF 6 74 (.pointer (some ⟨w.heap.size, 2, none⟩)) rfl (by kernel_rfl) rfl (fun _ _ _ h => h) (fun V hV => ?_) hS2 ?_
 ·simp [go_sem, execOp]
 try simp only [sA, sB, sC]
 refine tF 7 75 (.int .i64 dx) rfl (by kernel_rfl) rfl (fun _ _ _ h => h) (fun V hV => ?_) hS2 ?_
 ·(have z := ce (i := 2) (hV.1) rfl; simp [go_sem, execOp, z])
 try simp only [sA, sB, sC]
 refine tF 8 76 (.pointer (some ⟨w.heap.size, 2, none⟩)) rfl (by kernel_rfl) rfl (fun _ _ _ h => h) (fun V hV => ?_) hS2 ?_
 ·simp [go_sem, execOp]
 try simp only [sA, sB, sC]
 refine tF 9 77 (.int .i64 dx) rfl (by kernel_rfl) rfl (fun _ _ _ h => h) (fun V hV => ?_) hS2 ?_
 ·(have z := ce (i := 2) (hV.1) rfl; simp [go_sem, execOp, z])
 try simp only [sA, sB, sC]
 refine tF 10 78 (.int .i64 d2) rfl (by kernel_rfl) rfl (fun _ _ _ h => h) (fun V hV => ?_) hS2 ?_
 ·simp [go_sem, execOp, wd2]
 try simp only [sA, sB, sC]
 refine wpAnyF_step 5 rfl (by kernel_rfl) (fun K hK => ?_)
 go_simp
 go_at_call 361
 refine (HCN.out _).mono ?_
 rintro e wq ⟨rfl, rfl⟩
 go_wp2_with fail
 refine hK.out _ _ (.inr hS2) ?_
 clear hK K
 try simp only [Act.put, sA, sB, sC]
 refine tF 11 79 (.int .i64 df) rfl (by kernel_rfl) rfl (fun _ _ _ h => h) (fun V hV => ?_) hS2 ?_
 ·simp [go_sem, execOp, wdf]
 try simp only [sA, sB, sC]
 refine wpAnyF_step 12 rfl (by kernel_rfl) (fun K hK => ?_)
 go_simp
 go_at_call 362
 refine (HLE.out _).mono ?_
 rintro e wq ⟨rfl, rfl⟩
 go_wp2_with fail
 refine hK.out _ _ (.inr hS2) ?_
 clear hK K
 try simp only [Act.put, sA, sB, sC]
 refine tF 13 9 (.int .i64 least) rfl (by kernel_rfl) rfl (fun _ _ _ h => h) (fun V hV => ?_) hS2 ?_
 ·simp [go_sem, execOp]
 try simp only [sA, sB, sC]
 refine wpAnyF_done (by kernel_rfl) ?_ _
 obtain ⟨w7, hw7⟩ : ∃ W : World, W = w6.drew := ⟨_, rfl⟩
 rw [← hw7] at hS2 B2 ⊢
 clear hw7
 have k0 := ce (i := 0) hS2.1 rfl
 have k1 := ce (i := 1) hS2.1 rfl
 clear HFF HCN HLE hS2
 by_cases q1 : hi ≤ 90
 ·have hR := hR1.out
  rw [if_pos q1, if_pos q1] at hR
  obtain ⟨l2, hl2⟩ : ∃ v, max l1 least = v := ⟨_, rfl⟩
  rw [hl2] at hR
  have l2b : -100000 ≤ l2 ∧ l2 ≤ 4000000000 := by omega
  by_cases q3 : h1 < l2
  ·rw [if_pos q3] at hR
   subst hR
   clear hR1
   go_wp2_with fail
   refine bodyPost_ret (v := fitV none) (by simp [results, Tryz.results348, go_sem, fitV]) rfl ⟨rfl, B2.out⟩
  ·rw [if_neg q3] at hR
   subst hR
   clear hR1
   go_wp2_with fail
   refine bodyPost_ret (v := fitV (some (l2, h1))) (by simp [results, Tryz.results348, go_sem, fitV]) rfl ⟨rfl, B2.out⟩
 ·by_cases q2 : 90 ≤ lo
  ·have hR := hR1.out
   rw [if_neg q1, if_neg q1, if_pos q2] at hR
   obtain ⟨h2, hh2⟩ : ∃ v, min h1 (-least) = v := ⟨_, rfl⟩
   rw [hh2] at hR
   have l2b : -4000000000 ≤ h2 ∧ h2 ≤ 100000 := by omega
   by_cases q3 : h2 < l1
   ·rw [if_pos q3] at hR
    subst hR
    clear hR1
    go_wp2_with fail
    refine bodyPost_ret (v := fitV none) (by simp [results, Tryz.results348, go_sem, fitV]) rfl ⟨rfl, B2.out⟩
   ·rw [if_neg q3] at hR
    subst hR
    clear hR1
    go_wp2_with fail
    refine bodyPost_ret (v := fitV (some (l1, h2))) (by simp [results, Tryz.results348, go_sem, fitV]) rfl ⟨rfl, B2.out⟩
  ·have hR := hR1.out
   rw [if_neg q1, if_neg q1, if_neg q2] at hR
   by_cases q3 : h1 < l1
   ·rw [if_pos q3] at hR
    subst hR
    clear hR1
    go_wp2_with fail
    refine bodyPost_ret (v := fitV none) (by simp [results, Tryz.results348, go_sem, fitV]) rfl ⟨rfl, B2.out⟩
   ·rw [if_neg q3] at hR
    subst hR
    clear hR1
    go_wp2_with fail
    refine bodyPost_ret (v := fitV (some (l1, h1))) (by simp [results, Tryz.results348, go_sem, fitV]) rfl ⟨rfl, B2.out⟩
theorem results_cell_three {P : Program} {fn : Func} {p u v : Tmp} {ty : TypeId} (h : fn.results = #[.cell p ty, .tmp u, .tmp v]) (tmps : Array Value) (w : World) (g : Nat) (t : TypeId) (cs : Array Value) (fr : Nat × Nat) (d : TypeDesc)
 (hp : tmps.getD p undef = .pointer (some ⟨g, 0, none⟩)) (hg : w.heap[g]? = some (.cells cs t fr))
 (hu : P.underlying ty = some d) (hd : (match d with | .struct _ | .array _ _ => true | _ => false) = true) (hi : (P.info? ty).map (·.size) = some cs.size) :
 (results fn tmps).run P w = .ok (.tuple #[.agg cs, tmps.getD u undef, tmps.getD v undef]) w := by
 have hp' : tmps[p]?.getD undef = .pointer (some ⟨g, 0, none⟩) := by simpa using hp
 simp [results, h, hp', asAddr, run_loadVar_row w g t ty cs fr d hg hu hd hi]
set_option maxHeartbeats 1000000 in
theorem turned_any (c : Crs) (hc : -1000 ≤ c.bearing ∧ c.bearing ≤ 1000) (dx dy : Int) (hx : -100000 ≤ dx ∧ dx ≤ 100000) (hy : -100000 ≤ dy ∧ dy ≤ 100000) (w : World) :
 Calls Tryz.prog 346 #[c.val, .int .i64 dx, .int .i64 dy] w fun r w' => r = .returned (.tuple #[(if dx < 0 then c.back else c).val, .int .i64 (if dx < 0 then -dx else dx), .int .i64 (if dx < 0 then -dy else dy)]) ∧ Below w.heap.size w w' := by
 obtain ⟨w0, hw0⟩ : ∃ W, W = (w.alloc (.cells c.vals 46)).alloc (.cells crs0.vals 46) := ⟨_, rfl⟩
 have hb0 := hidE (show Below w.heap.size w w0 by rw [hw0]; exact ((Below.refl _ _).alloc (Nat.le_refl _) _).alloc (by simp) _)
 have hx0 := hidE (show Kb [(w.heap.size + 1, .cells crs0.vals 46), (w.heap.size, .cells c.vals 46)] w0 by
  rw [hw0]
  have := Kb.alloc (o := .cells crs0.vals 46) (Kb.alloc (W := w) (o := .cells c.vals 46) (L := []) trivial)
  simpa using this)
 have HB := hidE (fun W => back_any c hc W)
 by_cases h : dx < 0
 ·rw [if_pos h, if_pos h, if_pos h]
  obtain ⟨b, hb⟩ : ∃ b, c.back = b := ⟨_, rfl⟩
  rw [hb] at HB ⊢
  obtain ⟨c1, c2, c3, c4, c5, c6⟩ := c
  obtain ⟨b1, b2, b3, b4, b5, b6⟩ := b
  unfold Crs.val Crs.vals crs0 at *
  dsimp only at *
  have k0 := ce (i := 0) hx0.out.2.1 rfl
  have k1 := ce (i := 1) hx0.out.2.1 rfl
  have k2 := ce (i := 2) hx0.out.2.1 rfl
  have k3 := ce (i := 3) hx0.out.2.1 rfl
  have k4 := ce (i := 4) hx0.out.2.1 rfl
  have k5 := ce (i := 5) hx0.out.2.1 rfl
  clear hb
  go_enter Tryz.func346, Tryz.ntmps346
  go_upto_region 1 with fail
  rw [← hw0]
  clear hw0
  go_wp2_with fail
  refine (HB.out _).mono ?_
  rintro e w1 ⟨rfl, hb1⟩
  have hx1 := hidE (hx0.out.next hb1)
  have B1 := hidE (hb0.out.trans (hb1.mono hb0.out.size))
  clear hx0 hb0 hb1 HB k0 k1 k2 k3 k4 k5
  have z0 := ce (i := 0) hx1.out.1 rfl
  have z1 := ce (i := 1) hx1.out.1 rfl
  have z2 := ce (i := 2) hx1.out.1 rfl
  have z3 := ce (i := 3) hx1.out.1 rfl
  have z4 := ce (i := 4) hx1.out.1 rfl
  have z5 := ce (i := 5) hx1.out.1 rfl
  have y0 := cf (i := 0) hx1.out.1
  have y1 := cf (i := 1) hx1.out.1
  have y2 := cf (i := 2) hx1.out.1
  have y3 := cf (i := 3) hx1.out.1
  have y4 := cf (i := 4) hx1.out.1
  have y5 := cf (i := 5) hx1.out.1
  go_wp2_with fail
  refine bodyPost_ret (results_cell_three Tryz.results346 _ _ (w.heap.size + 1) 46 #[.int .i64 b1, .int .i64 b2, .int .i64 b3, .int .i64 b4, .int .i64 b5, .int .i64 b6] (0,0) _ rfl ?_ Tryz.underlying46 rfl (by kernel_rfl)) rfl ⟨rfl, by exact (((((B1.out.setCell (by dsimp only; omega) _).setCell (by dsimp only; omega) _).setCell (by dsimp only; omega) _).setCell (by dsimp only; omega) _).setCell (by dsimp only; omega) _).setCell (by dsimp only; omega) _⟩
  have hh := (((((hx1.out.set (i := 0) (by simp) (.int .i64 b1)).set (i := 1) (by simp) (.int .i64 b2)).set (i := 2) (by simp) (.int .i64 b3)).set (i := 3) (by simp) (.int .i64 b4)).set (i := 4) (by simp) (.int .i64 b5)).set (i := 5) (by simp) (.int .i64 b6)
  simp only [List.setIfInBounds_toArray, List.set_cons_zero, List.set_cons_succ] at hh
  exact hh.1
 ·rw [if_neg h, if_neg h, if_neg h]
  obtain ⟨c1, c2, c3, c4, c5, c6⟩ := c
  unfold Crs.val Crs.vals crs0 at *
  dsimp only at *
  have k0 := ce (i := 0) hx0.out.2.1 rfl
  have k1 := ce (i := 1) hx0.out.2.1 rfl
  have k2 := ce (i := 2) hx0.out.2.1 rfl
  have k3 := ce (i := 3) hx0.out.2.1 rfl
  have k4 := ce (i := 4) hx0.out.2.1 rfl
  have k5 := ce (i := 5) hx0.out.2.1 rfl
  have z0 := ce (i := 0) hx0.out.1 rfl
  have z1 := ce (i := 1) hx0.out.1 rfl
  have z2 := ce (i := 2) hx0.out.1 rfl
  have z3 := ce (i := 3) hx0.out.1 rfl
  have z4 := ce (i := 4) hx0.out.1 rfl
  have z5 := ce (i := 5) hx0.out.1 rfl
  have y0 := cf (i := 0) hx0.out.1
  have y1 := cf (i := 1) hx0.out.1
  have y2 := cf (i := 2) hx0.out.1
  have y3 := cf (i := 3) hx0.out.1
  have y4 := cf (i := 4) hx0.out.1
  have y5 := cf (i := 5) hx0.out.1
  go_enter Tryz.func346, Tryz.ntmps346
  go_upto_region 1 with fail
  rw [← hw0]
  clear hw0
  go_wp2_with fail
  refine bodyPost_ret (results_cell_three Tryz.results346 _ _ (w.heap.size + 1) 46 #[.int .i64 c1, .int .i64 c2, .int .i64 c3, .int .i64 c4, .int .i64 c5, .int .i64 c6] (0,0) _ rfl ?_ Tryz.underlying46 rfl (by kernel_rfl)) rfl ⟨rfl, by exact (((((hb0.out.setCell (by dsimp only; omega) _).setCell (by dsimp only; omega) _).setCell (by dsimp only; omega) _).setCell (by dsimp only; omega) _).setCell (by dsimp only; omega) _).setCell (by dsimp only; omega) _⟩
  have hh := (((((hx0.out.set (i := 0) (by simp) (.int .i64 c1)).set (i := 1) (by simp) (.int .i64 c2)).set (i := 2) (by simp) (.int .i64 c3)).set (i := 3) (by simp) (.int .i64 c4)).set (i := 4) (by simp) (.int .i64 c5)).set (i := 5) (by simp) (.int .i64 c6)
  simp only [List.setIfInBounds_toArray, List.set_cons_zero, List.set_cons_succ] at hh
  exact hh.1
set_option maxHeartbeats 1000000 in
theorem itvD_any (w : World) (a : Option Addr) (cap : Nat) (l : List Vrn) (c : Crs) (e dx : Int) (hc : c.ok = true) (he : declP l c.year = some e) (hx : dx ≠ 0 ∧ -100000 ≤ dx ∧ dx ≤ 100000) (hl : l.length ≤ 9223372036854775807) (h : VrnsAt w a l) :
 Calls Tryz.prog 325 #[.slice a l.length cap, c.val, .int .i64 dx] w fun r w' => r = .returned (fitV (fitBoth c e dx)) ∧ Below w.heap.size w w' := by
 have hcb := Crs.ok_iff.1 hc
 have HT := hidE (fun W => turned_any c (by omega) dx 0 hx.2 (by omega) W)
 obtain ⟨d, hd⟩ : ∃ d, (if dx < 0 then c.back else c) = d := ⟨_, rfl⟩
 obtain ⟨x, hx1⟩ : ∃ x, (if dx < 0 then -dx else dx) = x := ⟨_, rfl⟩
 have hdok : d.ok = true := by rw [← hd]; split; exact Crs.back_ok hc; exact hc
 have hdy : declP l d.year = some e := by rw [← hd]; split <;> exact he
 have hxb : 1 ≤ x ∧ x ≤ 100000 := by rw [← hx1]; split <;> omega
 rw [hd, hx1] at HT
 have HA := hidE (fun W (hW : VrnsAt W a l) => askedC_any W a cap l d e x hdok hdy hl hW)
 have hm := midP_bd d e
 have hdb := Crs.ok_iff.1 hdok
 have hlb := Crs.len_bd hdok
 have HQ := hidE (fun W => itvQ_any (midP d e - d.needle) (midP d e + d.needle) x d.near d.far (by omega) (by omega) hxb hlb.1 hlb.2 W)
 have hF := fun a b => fitP_bd (c := d) (east := e) (dx := x) (a := a) (b := b)
 rw [← fit_q] at HQ
 obtain ⟨r, hr⟩ : ∃ r, fitP d e x = r := ⟨_, rfl⟩
 rw [hr] at HQ hF
 have hR : fitBoth c e dx = if dx < 0 then r.map (fun p => (-p.2, -p.1)) else r := by
  unfold fitBoth
  split
  ·rename_i q; rw [if_pos q] at hd hx1; rw [← hr, ← hd, ← hx1]
  ·rename_i q; rw [if_neg q] at hd hx1; rw [← hr, ← hd, ← hx1]
 rw [hR]
 obtain ⟨R, hRR⟩ : ∃ R, (if dx < 0 then r.map (fun p => (-p.2, -p.1)) else r) = R := ⟨_, rfl⟩
 rw [hRR]
 have HRR := hidE hRR
 clear hRR
 obtain ⟨w0, hw0⟩ : ∃ W, W = w.alloc (.cells c.vals 46) := ⟨_, rfl⟩
 have hv0 := hidE (show VrnsAt w0 a l by rw [hw0]; exact h.alloc _)
 have hb0 := hidE (show Below w.heap.size w w0 by rw [hw0]; exact (Below.refl _ _).alloc (Nat.le_refl _) _)
 have hx0 := hidE (show Kb [(w.heap.size, .cells c.vals 46)] w0 by rw [hw0]; exact Kb.alloc trivial)
 obtain ⟨Q, hQ⟩ : ∃ Q, Value.agg (qV (midP d e - d.needle) (midP d e + d.needle) x d.near d.far) = Q := ⟨_, rfl⟩
 rw [hQ] at HA HQ
 obtain ⟨c1, c2, c3, c4, c5, c6⟩ := c
 obtain ⟨d1, d2, d3, d4, d5, d6⟩ := d
 unfold Crs.val Crs.vals at *
 dsimp only at *
 have k0 := ce (i := 0) hx0.out.1 rfl
 have k1 := ce (i := 1) hx0.out.1 rfl
 have k2 := ce (i := 2) hx0.out.1 rfl
 have k3 := ce (i := 3) hx0.out.1 rfl
 have k4 := ce (i := 4) hx0.out.1 rfl
 have k5 := ce (i := 5) hx0.out.1 rfl
 have hyy : (if dx < 0 then -(0 : Int) else 0) = 0 := by split <;> rfl
 rw [hyy] at HT
 clear hc he h hd hx1 hdok hdy hm hdb hlb hr hR hQ hcb hyy
 obtain ⟨hx1, hx2⟩ := hx
 have HX1 := hidE hx1
 clear hx1
 go_enter Tryz.func325, Tryz.ntmps325
 go_upto_region 1 with fail
 rw [← hw0]
 clear hw0
 go_wp2_with fail
 refine (HT.out _).mono ?_
 rintro e w1 ⟨rfl, hb1⟩
 have hv1 := hidE (hv0.out.next hb1)
 have B1 := hidE (hb0.out.trans (hb1.mono hb0.out.size))
 clear hx0 hb0 hb1 HT k0 k1 k2 k3 k4 k5 hv0
 go_upto_region 2 with fail
 obtain ⟨w2, hw2⟩ : ∃ W, W = w1.alloc (.cells #[.int .i64 d1, .int .i64 d2, .int .i64 d3, .int .i64 d4, .int .i64 d5, .int .i64 d6] 46) := ⟨_, rfl⟩
 have hv2 := hidE (show VrnsAt w2 a l by rw [hw2]; exact hv1.out.alloc _)
 have B2 := hidE (show Below w.heap.size w w2 by rw [hw2]; exact B1.out.alloc B1.out.size _)
 have hx2 := hidE (show Kb [(w1.heap.size, .cells #[.int .i64 d1, .int .i64 d2, .int .i64 d3, .int .i64 d4, .int .i64 d5, .int .i64 d6] 46)] w2 by rw [hw2]; exact Kb.alloc trivial)
 rw [← hw2]
 have k0 := ce (i := 0) hx2.out.1 rfl
 have k1 := ce (i := 1) hx2.out.1 rfl
 have k2 := ce (i := 2) hx2.out.1 rfl
 have k3 := ce (i := 3) hx2.out.1 rfl
 have k4 := ce (i := 4) hx2.out.1 rfl
 have k5 := ce (i := 5) hx2.out.1 rfl
 clear hw2
 go_wp2_with fail
 refine (HA.out _ hv2.out).mono ?_
 rintro e w3 ⟨rfl, hb3⟩
 have B3 := hidE (B2.out.trans (hb3.mono B2.out.size))
 clear hb3 k0 k1 k2 k3 k4 k5 HA hx2 hv2
 go_wp2_with fail
 refine (HQ.out _).mono ?_
 rintro e w4 ⟨rfl, hb4⟩
 have B4 := hidE (B3.out.trans (hb4.mono B3.out.size))
 clear hb4 HQ
 cases r with
 | none =>
   have HF := hidE hF
   clear hF
   unfold fitV
   by_cases hneg : dx < 0
   ·have HNG := hidE hneg
    go_wp2_with fail
    refine bodyPost_ret (v := fitV R) (by rw [← HRR.out, if_pos HNG.out]; simp [results, Tryz.results325, go_sem, fitV]) rfl ⟨rfl, B4.out⟩
   ·have HNG := hidE hneg
    go_wp2_with fail
    refine bodyPost_ret (v := fitV R) (by rw [← HRR.out, if_neg (by have := HNG.out; omega)]; simp [results, Tryz.results325, go_sem, fitV]) rfl ⟨rfl, B4.out⟩
 | some p =>
   obtain ⟨p1, p2⟩ := p
   have hpb := hF p1 p2 rfl
   clear hF
   unfold fitV
   by_cases hneg : dx < 0
   ·have HNG := hidE hneg
    go_wp2_with fail
    refine bodyPost_ret (v := fitV R) (by rw [← HRR.out, if_pos HNG.out]; simp [results, Tryz.results325, go_sem, fitV]) rfl ⟨rfl, B4.out⟩
   ·have HNG := hidE hneg
    go_wp2_with fail
    refine bodyPost_ret (v := fitV R) (by rw [← HRR.out, if_neg (by have := HNG.out; omega)]; simp [results, Tryz.results325, go_sem, fitV]) rfl ⟨rfl, B4.out⟩
def commonE (l : List Vrn) (c : Crs) : Int := if checkVrns l ≠ 0 then checkVrns l else if c.ok = false then 1 else if declP l c.year = none then 20 else 0
structure VC (w : World) (a : Option Addr) (l : List Vrn) (g : Nat) (c : Crs) (W : World) : Prop where
 b : Below w.heap.size w W
 v : VrnsAt W a l
 k : W.heap[g]? = some (.cells c.vals 46 (0,0))
theorem VC.next {w W W' : World} {a : Option Addr} {l : List Vrn} {g : Nat} {c : Crs} (h : VC w a l g c W) (hb : Below W.heap.size W W') : VC w a l g c W' := ⟨h.b.trans (hb.mono h.b.size), h.v.next hb, blk_below hb (lt_of_block h.k) h.k⟩
theorem VC.alloc {w W : World} {a : Option Addr} {l : List Vrn} {g : Nat} {c : Crs} (h : VC w a l g c W) (o : Obj) : VC w a l g c (W.alloc o) := h.next ((Below.refl _ _).alloc (Nat.le_refl _) _)
theorem crs_ok1 (c : Crs) (h : c.ok = true) (w : World) : Calls Tryz.prog 320 #[c.val] w fun e w' => e = .returned (.int .i64 0) ∧ Below w.heap.size w w' := by
 have := checkCourse_any c w
 rwa [if_pos h] at this
theorem crs_ok0 (c : Crs) (h : c.ok = false) (w : World) : Calls Tryz.prog 320 #[c.val] w fun e w' => e = .returned (.int .i64 1) ∧ Below w.heap.size w w' := by
 have := checkCourse_any c w
 rwa [if_neg (by rw [h]; simp)] at this
set_option maxHeartbeats 2000000 in
theorem common1_any (w : World) (a : Option Addr) (cap : Nat) (l : List Vrn) (c : Crs) (g : Nat) (hl : l.length ≤ 9223372036854775807) (h : VrnsAt w a l) (hg : w.heap[g]? = some (.cells c.vals 46 (0,0))) :
 Calls Tryz.prog 323 #[.slice a l.length cap, .slice (some ⟨g, 0, none⟩) 1 1] w fun r w' => r = .returned (.int .i64 (commonE l c)) ∧ Below w.heap.size w w' := by
 obtain ⟨R, hR⟩ : ∃ R, commonE l c = R := ⟨_, rfl⟩
 rw [hR]
 unfold commonE at hR
 have J0 := hidE (show VC w a l g c w from ⟨Below.refl _ _, h, hg⟩)
 have HC := hidE (fun W (J : VC w a l g c W) => checkVrns_any W a cap l hl J.v)
 have HD := hidE (fun W (J : VC w a l g c W) => decl_any W a cap l c.year hl J.v)
 have HO1 := hidE (fun q : c.ok = true => crs_ok1 c q)
 have HO0 := hidE (fun q : c.ok = false => crs_ok0 c q)
 obtain ⟨z, hz⟩ : ∃ z, checkVrns l = z := ⟨_, rfl⟩
 obtain ⟨ok, hok⟩ : ∃ q, c.ok = q := ⟨_, rfl⟩
 obtain ⟨D, hD⟩ : ∃ D, declP l c.year = D := ⟨_, rfl⟩
 rw [hz, hok, hD] at hR
 rw [hz] at HC
 rw [hD] at HD
 rw [hok] at HO1 HO0
 clear hz hok hD h hg
 by_cases h0 : z = 0
 rotate_left
 ·have hzb : (z != 0) = true := by simpa using h0
  rw [if_pos h0] at hR
  subst hR
  clear h0
  go_enter Tryz.func323, Tryz.ntmps323
  go_wp2_with fail
  refine (HC.out _ J0.out).mono ?_
  rintro e w1 ⟨rfl, hb1⟩
  go_wp2_with fail
  go_ret
  exact ⟨rfl, hb1⟩
 subst h0
 rw [if_neg (by omega)] at hR
 cases ok with
 | false =>
   rw [if_pos rfl] at hR
   subst hR
   have HO := hidE (HO0.out rfl)
   clear HO1 HO0 HD
   obtain ⟨c1, c2, c3, c4, c5, c6⟩ := c
   unfold Crs.val Crs.vals at *
   dsimp only at *
   go_enter Tryz.func323, Tryz.ntmps323
   go_wp2_with fail
   refine (HC.out _ J0.out).mono ?_
   rintro e w1 ⟨rfl, hb1⟩
   have J1 := hidE (J0.out.next hb1)
   clear hb1 J0 HC
   go_wp2_with fail
   go_loopw [20] (fun i wr => i = .int .i64 0 ∧ Hid (VC w a l g ⟨c1, c2, c3, c4, c5, c6⟩ wr)) (fun _ _ => 0)
   case atStart => exact ⟨rfl, J1⟩
   case round =>
    obtain ⟨rfl, J⟩ := hrel
    have hK : wr.heap[g]? = some (.cells #[.int .i64 c1, .int .i64 c2, .int .i64 c3, .int .i64 c4, .int .i64 c5, .int .i64 c6] 46 (0,0)) := J.out.k
    have k0 := ce (i := 0) hK rfl
    have k1 := ce (i := 1) hK rfl
    have k2 := ce (i := 2) hK rfl
    have k3 := ce (i := 3) hK rfl
    have k4 := ce (i := 4) hK rfl
    have k5 := ce (i := 5) hK rfl
    clear hK
    go_wp2_with fail
    refine (HO.out _).mono ?_
    rintro e w2 ⟨rfl, hb2⟩
    have J2 := hidE ((J.out.alloc _).next hb2)
    go_wp2_with fail
    go_ret
    exact ⟨rfl, J2.out.b⟩
 | true =>
   rw [if_neg (by simp)] at hR
   have HO := hidE (HO1.out rfl)
   have HRR := hidE hR
   have HDD := hidE (show ∀ W, VC w a l g c W → Calls Tryz.prog 270 #[.slice a l.length cap, .int .i64 c.year] W fun e w' => e = .returned (.tuple #[.int .i64 (D.getD 0), .bool D.isSome]) ∧ Below W.heap.size W w' from by
    intro W hW
    have := HD.out W hW
    cases D <;> exact this)
   clear HO1 HO0 HD hR
   obtain ⟨c1, c2, c3, c4, c5, c6⟩ := c
   unfold Crs.val Crs.vals at *
   dsimp only at *
   go_enter Tryz.func323, Tryz.ntmps323
   go_wp2_with fail
   refine (HC.out _ J0.out).mono ?_
   rintro e w1 ⟨rfl, hb1⟩
   have J1 := hidE (J0.out.next hb1)
   clear hb1 J0 HC
   go_wp2_with fail
   go_loopw [20] (fun i wr => ∃ k : Nat, k ≤ 1 ∧ i = .int .i64 k ∧ Hid (VC w a l g ⟨c1, c2, c3, c4, c5, c6⟩ wr)) (fun i _ => 1 - (intOf i).toNat)
   case atStart => exact ⟨0, by omega, rfl, J1⟩
   case round =>
    obtain ⟨k, hk, rfl, J⟩ := hrel
    by_cases hk0 : k = 0
    ·subst hk0
     have hK : wr.heap[g]? = some (.cells #[.int .i64 c1, .int .i64 c2, .int .i64 c3, .int .i64 c4, .int .i64 c5, .int .i64 c6] 46 (0,0)) := J.out.k
     have k0 := ce (i := 0) hK rfl
     have k1 := ce (i := 1) hK rfl
     have k2 := ce (i := 2) hK rfl
     have k3 := ce (i := 3) hK rfl
     have k4 := ce (i := 4) hK rfl
     have k5 := ce (i := 5) hK rfl
     clear hK
     go_wp2_with fail
     refine (HO.out _).mono ?_
     rintro e w2 ⟨rfl, hb2⟩
     have J2 := hidE ((J.out.alloc _).next hb2)
     clear hb2
     go_wp2_with fail
     go_roundw
     case rel => exact ⟨1, by omega, rfl, J2⟩
     case measure => simp [intOf]
    ·obtain rfl : k = 1 := by omega
     clear J1 HO hk hk0
     obtain ⟨w3, rfl⟩ : ∃ x : World, x = wr := ⟨wr, rfl⟩
     have J3 := J
     clear J
     go_wp2_with fail
     cases hDs : D.isSome with
     | false =>
       have hDn : D = none := by simpa using hDs
       have hR := HRR.out
       rw [if_pos hDn] at hR
       subst hR
       rw [hDs] at HDD
       clear HRR hDs hDn
       go_loopw [32] (fun i wr => i = .int .i64 0 ∧ Hid (VC w a l g ⟨c1, c2, c3, c4, c5, c6⟩ wr)) (fun _ _ => 0)
       case atStart => exact ⟨rfl, J3⟩
       case round =>
        obtain ⟨rfl, J⟩ := hrel
        have hK : wr.heap[g]? = some (.cells #[.int .i64 c1, .int .i64 c2, .int .i64 c3, .int .i64 c4, .int .i64 c5, .int .i64 c6] 46 (0,0)) := J.out.k
        have k0 := ce (i := 0) hK rfl
        have k1 := ce (i := 1) hK rfl
        have k2 := ce (i := 2) hK rfl
        have k3 := ce (i := 3) hK rfl
        have k4 := ce (i := 4) hK rfl
        have k5 := ce (i := 5) hK rfl
        clear hK
        go_wp2_with fail
        refine (HDD.out _ (J.out.alloc _)).mono ?_
        rintro e w4 ⟨rfl, hb4⟩
        have J4 := hidE ((J.out.alloc _).next hb4)
        go_wp2_with fail
        go_ret
        exact ⟨rfl, J4.out.b⟩
     | true =>
       have hDn : D ≠ none := by intro h; rw [h] at hDs; cases hDs
       have hR := HRR.out
       rw [if_neg hDn] at hR
       subst hR
       rw [hDs] at HDD
       clear HRR hDs hDn
       go_loopw [32] (fun i wr => ∃ k : Nat, k ≤ 1 ∧ i = .int .i64 k ∧ Hid (VC w a l g ⟨c1, c2, c3, c4, c5, c6⟩ wr)) (fun i _ => 1 - (intOf i).toNat)
       case atStart => exact ⟨0, by omega, rfl, J3⟩
       case round =>
        obtain ⟨k, hk, rfl, J⟩ := hrel
        by_cases hk0 : k = 0
        ·subst hk0
         have hK : wr.heap[g]? = some (.cells #[.int .i64 c1, .int .i64 c2, .int .i64 c3, .int .i64 c4, .int .i64 c5, .int .i64 c6] 46 (0,0)) := J.out.k
         have k0 := ce (i := 0) hK rfl
         have k1 := ce (i := 1) hK rfl
         have k2 := ce (i := 2) hK rfl
         have k3 := ce (i := 3) hK rfl
         have k4 := ce (i := 4) hK rfl
         have k5 := ce (i := 5) hK rfl
         clear hK
         go_wp2_with fail
         refine (HDD.out _ (J.out.alloc _)).mono ?_
         rintro e w4 ⟨rfl, hb4⟩
         have J4 := hidE ((J.out.alloc _).next hb4)
         clear hb4
         go_wp2_with fail
         go_roundw
         case rel => exact ⟨_, _, _, _, _, _, _, _, _, _, _, _, _, _, _, _, _, _, ⟨1, by omega, rfl, J4⟩, rfl⟩
         case measure => simp [intOf]
        ·obtain rfl : k = 1 := by omega
         go_wp2_with fail
         go_ret
         exact ⟨rfl, J.out.b⟩
end Go.Proofs.YtkhemfnlflbniaaGreatDoor
namespace Go.Proofs.YtkhemfnlflbniaaGreatDoor
def ptN (F : Fld) : Nat := 1 + F.lms.length * F.sts.length
theorem fld_facts {F : Fld} (h : F.check = 0) : (2 ≤ F.sts.length ∧ F.sts.length ≤ 12) ∧ (1 ≤ F.lms.length ∧ F.lms.length ≤ 10) ∧ F.prs.length ≤ 40 ∧ checkVrns F.vrs = 0 ∧ (F.prs.any (fun p => !parRange F.lms.length F.sts.length p)) = false ∧ stasTo F.sts F.sts.length = true ∧ parsTo F.prs F.prs.length = true ∧ F.sts.any (fun s => !inR s.x 0 100000) = false := by
 unfold Fld.check at h
 by_cases h1 : 12 < F.sts.length ∨ 10 < F.lms.length ∨ 40 < F.prs.length
 ·rw [if_pos h1] at h; exact absurd h (by decide)
 rw [if_neg h1] at h
 by_cases h2 : F.sts.length < 2 ∨ F.lms.length < 1
 ·rw [if_pos h2] at h; exact absurd h (by decide)
 rw [if_neg h2] at h
 by_cases h3 : checkVrns F.vrs ≠ 0
 ·rw [if_pos h3] at h; exact absurd h h3
 rw [if_neg h3] at h
 by_cases h4 : (F.names.any fun l => l.any fun s => !isNameB s) = true
 ·rw [if_pos h4] at h; exact absurd h (by decide)
 rw [if_neg h4] at h
 by_cases h5 : (F.names.any fun l => twiceTo l l.length) = true
 ·rw [if_pos h5] at h; exact absurd h (by decide)
 rw [if_neg h5] at h
 by_cases h6 : (F.sts.any fun s => !inR s.x 0 100000) = true
 ·rw [if_pos h6] at h; exact absurd h (by decide)
 rw [if_neg h6] at h
 by_cases h7 : (F.prs.any fun p => !parRange F.lms.length F.sts.length p) = true
 ·rw [if_pos h7] at h; exact absurd h (by decide)
 rw [if_neg h7] at h
 by_cases h8 : stasTo F.sts F.sts.length = false
 ·rw [if_pos h8] at h; exact absurd h (by decide)
 rw [if_neg h8] at h
 by_cases h9 : parsTo F.prs F.prs.length = false
 ·rw [if_pos h9] at h; exact absurd h (by decide)
 refine ⟨by omega, by omega, by omega, Classical.not_not.1 h3, by simpa using h7, by simpa using h8, by simpa using h9, by simpa using h6⟩
theorem mul_len {F : Fld} (h : F.check = 0) : F.lms.length * F.sts.length ≤ 120 ∧ 2 ≤ F.lms.length * F.sts.length := by
 have := fld_facts h
 constructor
 ·have := Nat.mul_le_mul (show F.lms.length ≤ 10 by omega) (show F.sts.length ≤ 12 by omega)
  omega
 ·have := Nat.mul_le_mul (show 1 ≤ F.lms.length by omega) (show 2 ≤ F.sts.length by omega)
  omega
theorem pt_bd {F : Fld} {l s : Int} (hl : limB F l = true) (hs : staB F s = true) : 1 ≤ ptF F l s ∧ ptF F l s < ptN F := by
 unfold limB staB inR at *
 simp only [Bool.and_eq_true, decide_eq_true_eq] at hl hs
 have h1 : 0 ≤ l * (F.sts.length : Int) := Int.mul_nonneg hl.1 (by omega)
 have h2 : l * (F.sts.length : Int) ≤ ((F.lms.length : Int) - 1) * (F.sts.length : Int) := Int.mul_le_mul_of_nonneg_right hl.2 (by omega)
 rw [Int.sub_mul] at h2
 unfold ptF ptN
 rw [Int.natCast_add, Int.natCast_mul]
 omega
theorem pt_lt {F : Fld} {l s k t : Int} (hs : staB F s = true) (ht : staB F t = true) (hlk : l < k) : ptF F l s < ptF F k t := by
 unfold staB inR at *
 simp only [Bool.and_eq_true, decide_eq_true_eq] at hs ht
 have h2 : (l + 1) * (F.sts.length : Int) ≤ k * (F.sts.length : Int) := Int.mul_le_mul_of_nonneg_right (by omega) (by omega)
 rw [Int.add_mul] at h2
 unfold ptF
 omega
theorem badB_iff {N : Int} {b : Bd} : badB N b = false ↔ (0 ≤ b.src ∧ b.src < N) ∧ (0 ≤ b.dst ∧ b.dst < N) ∧ b.src ≠ b.dst ∧ (-1000000 ≤ b.most ∧ b.most ≤ 1000000) ∧ 0 ≤ b.rcd ∧ b.rcd ≤ 1000000 := by
 unfold badB inR
 simp only [Bool.or_eq_false_iff, Bool.not_eq_false', Bool.and_eq_true, decide_eq_true_eq, beq_eq_false_iff_ne]
 omega
theorem pair_ok {N p q lo hi r : Int} (hp : 0 ≤ p ∧ p < N) (hq : 0 ≤ q ∧ q < N) (hn : p ≠ q) (hl : -1000000 ≤ lo ∧ lo ≤ 1000000) (hh : -1000000 ≤ hi ∧ hi ≤ 1000000) (hr : 0 ≤ r ∧ r ≤ 1000000) : ∀ b ∈ pairB p q lo hi r, badB N b = false := by
 intro b hb
 unfold pairB at hb
 rw [badB_iff]
 rcases List.mem_cons.1 hb with rfl | hb
 ·exact ⟨hp, hq, hn, hh, hr⟩
 ·rw [List.mem_singleton] at hb
  subst hb
  exact ⟨hq, hp, fun e => hn e.symm, by show -1000000 ≤ -lo ∧ -lo ≤ 1000000; omega, hr⟩
theorem nat_ok {F : Fld} : ∀ b ∈ natF F, badB (ptN F) b = false := by
 intro b hb
 unfold natF at hb
 rw [badB_iff]
 rcases List.mem_append.1 hb with hb | hb
 ·obtain ⟨p, hp, hb⟩ := List.mem_flatMap.1 hb
  rw [List.mem_range] at hp
  have : (ptN F : Int) = 1 + (F.lms.length * F.sts.length : Nat) := by unfold ptN; omega
  simp only [List.mem_cons, List.not_mem_nil, or_false] at hb
  rcases hb with rfl | rfl <;> dsimp <;> omega
 ·obtain ⟨l, hl, hb⟩ := List.mem_flatMap.1 hb
  unfold natRow at hb
  obtain ⟨s, hs, rfl⟩ := List.mem_map.1 hb
  rw [List.mem_range] at hl hs
  have a : limB F (l : Int) = true := by unfold limB inR; simp only [Bool.and_eq_true, decide_eq_true_eq]; omega
  have a' : limB F ((l : Int) + 1) = true := by unfold limB inR; simp only [Bool.and_eq_true, decide_eq_true_eq]; omega
  have c : staB F (s : Int) = true := by unfold staB inR; simp only [Bool.and_eq_true, decide_eq_true_eq]; omega
  have := pt_bd a c
  have := pt_bd a' c
  have := pt_lt (F := F) (l := l) (k := (l : Int) + 1) c c (by omega)
  dsimp
  omega
theorem call_ok {F : Fld} {c : Cll} {r : Int} (hc : callE F c = 0) (hr : 0 ≤ r ∧ r ≤ 1000000) : ∀ b ∈ callBs F c r, badB (ptN F) b = false := by
 unfold callE at hc
 by_cases h0 : rightB F c = false
 ·rw [if_pos h0] at hc; exact absurd hc (by decide)
 rw [if_neg h0] at hc
 have h0 : rightB F c = true := by simpa using h0
 have sized : ∀ low, (low = 0 ∨ low = -100000) → sizedB c low = true → (-1000000 ≤ c.sz - c.er ∧ c.sz - c.er ≤ 1000000) ∧ -1000000 ≤ c.sz + c.er ∧ c.sz + c.er ≤ 1000000 := by
  intro low hlow h
  unfold sizedB inR at h
  simp only [Bool.and_eq_true, decide_eq_true_eq] at h
  omega
 have dif : ∀ {l s k t : Int}, limB F l = true → limB F k = true → staB F s = true → staB F t = true → l ≠ k → ptF F l s ≠ ptF F k t := by
  intro l s k t _ _ hs ht hlk
  rcases Int.lt_or_gt_of_ne hlk with q | q
  ·have := pt_lt (F := F) hs ht q; omega
  ·have := pt_lt (F := F) ht hs q; omega
 unfold rightB at h0
 unfold callBs
 by_cases k1 : c.kind = 1
 ·rw [if_pos k1] at h0 ⊢
  unfold stoneB at h0
  simp only [Bool.and_eq_true] at h0
  have p := pt_bd h0.1.1.2 h0.1.2
  have z := sized 0 (.inl rfl) h0.2
  exact pair_ok ⟨by omega, by omega⟩ ⟨by omega, p.2⟩ (by omega) z.1 z.2 hr
 rw [if_neg k1] at h0 ⊢
 by_cases k2 : c.kind = 2
 ·rw [if_pos k2] at h0 ⊢
  unfold widthB at h0
  simp only [Bool.and_eq_true, decide_eq_true_eq] at h0
  have p := pt_bd h0.1.1.1.2.1 h0.1.2
  have q := pt_bd h0.1.1.1.2.2 h0.1.2
  have z := sized 0 (.inl rfl) h0.2
  exact pair_ok ⟨by omega, p.2⟩ ⟨by omega, q.2⟩ (dif h0.1.1.1.2.1 h0.1.1.1.2.2 h0.1.2 h0.1.2 (by omega)) z.1 z.2 hr
 rw [if_neg k2] at h0 ⊢
 by_cases k3 : c.kind = 3
 ·rw [if_pos k3] at h0 ⊢
  unfold courseB at h0
  simp only [Bool.and_eq_true, decide_eq_true_eq] at h0
  have p := pt_bd h0.1.1.1.2 h0.1.1.2.1
  have q := pt_bd h0.1.1.1.2 h0.1.1.2.2
  have e : ∀ a b, (itvC F c).1 = some (a, b) → (-1000000 ≤ a ∧ a ≤ 1000000) ∧ -1000000 ≤ b ∧ b ≤ 1000000 := fun a b h => by
   have := itv_bd h
   omega
  have z : (-1000000 ≤ ((itvC F c).1.getD (0, 0)).1 ∧ ((itvC F c).1.getD (0, 0)).1 ≤ 1000000) ∧ -1000000 ≤ ((itvC F c).1.getD (0, 0)).2 ∧ ((itvC F c).1.getD (0, 0)).2 ≤ 1000000 := by
   cases h : (itvC F c).1 with
   | none => simp
   | some p => exact e p.1 p.2 h
  refine pair_ok ⟨by omega, p.2⟩ ⟨by omega, q.2⟩ ?_ z.1 z.2 hr
  unfold ptF
  omega
 rw [if_neg k3] at h0 ⊢
 by_cases k4 : c.kind = 4
 ·rw [if_pos k4] at h0 ⊢
  unfold alongB at h0
  simp only [Bool.and_eq_true, decide_eq_true_eq] at h0
  intro b hb
  unfold alongG at hb
  obtain ⟨i, hi, hb⟩ := List.mem_flatMap.1 hb
  rw [List.mem_range] at hi
  have hs : staB F (c.fr + (i : Int)) = true := by
   have := h0.1.2
   unfold staB inR at *
   simp only [Bool.and_eq_true, decide_eq_true_eq] at *
   omega
  have p := pt_bd h0.1.1.1.2.1 hs
  have q := pt_bd h0.1.1.1.2.2 hs
  exact pair_ok ⟨by omega, p.2⟩ ⟨by omega, q.2⟩ (dif h0.1.1.1.2.1 h0.1.1.1.2.2 hs hs (by omega)) ⟨by omega, by omega⟩ ⟨by omega, by omega⟩ hr b hb
 rw [if_neg k4] at h0 ⊢
 by_cases k5 : c.kind = 5
 ·rw [if_pos k5] at h0 ⊢
  unfold levelB at h0
  simp only [Bool.and_eq_true, decide_eq_true_eq] at h0
  have p := pt_bd h0.1.1.1.2 h0.1.1.2.1
  have q := pt_bd h0.1.1.1.2 h0.1.1.2.2
  have z := sized (-100000) (.inr rfl) h0.2
  refine pair_ok ⟨by omega, p.2⟩ ⟨by omega, q.2⟩ ?_ z.1 z.2 hr
  unfold ptF
  omega
 rw [if_neg k5] at h0
 cases h0
theorem sys_ok {F : Fld} {l : List Rcd} (h : Good F l) : ∀ b ∈ sysL F l, badB (ptN F) b = false := by
 intro b hb
 unfold sysL at hb
 rcases List.mem_append.1 hb with hb | hb
 ·exact nat_ok b hb
 ·obtain ⟨r, hr, hb⟩ := List.mem_flatMap.1 hb
  have k := h.each r hr
  have i := right_id k.1
  unfold Rcd.bs at hb
  refine call_ok (c := r.call) (r := r.id) ?_ ⟨by omega, by omega⟩ b hb
  have := k.2
  unfold Rcd.err at this
  by_cases q : callE F r.call ≠ 0
  ·rw [if_pos q] at this; exact absurd this q
  ·exact Classical.not_not.1 q
theorem natRow_len (F : Fld) : ∀ k, ((List.range k).flatMap (natRow F)).length = k * F.sts.length
 | 0 => by simp
 | k + 1 => by
   rw [List.range_succ, List.flatMap_append, List.length_append, natRow_len F k]
   simp [natRow, Nat.add_mul]
theorem nat_len (F : Fld) : (natF F).length = 2 * (F.lms.length * F.sts.length) + (F.lms.length - 1) * F.sts.length := by
 unfold natF
 rw [List.length_append, natRow_len]
 have : ∀ n : Nat, ((List.range n).flatMap fun (p : Nat) => [(⟨0, (p : Int) + 1, 100000, 0⟩ : Bd), ⟨(p : Int) + 1, 0, 0, 0⟩]).length = 2 * n := by
  intro n
  induction n with
  | zero => rfl
  | succ n ih => rw [List.range_succ, List.flatMap_append, List.length_append, ih]; simp; omega
 rw [this]
theorem sys_check {F : Fld} {l : List Rcd} (h : Good F l) : checkP (ptN F) (sysL F l) = 0 := by
 have m := mul_len h.fld
 have g := fld_facts h.fld
 have hl : (sysL F l).length ≤ 2000 := by
  rcases h.bds with q | rfl
  ·exact q
  ·unfold sysL
   simp only [List.flatMap_nil, List.append_nil]
   rw [nat_len]
   have : (F.lms.length - 1) * F.sts.length ≤ F.lms.length * F.sts.length := Nat.mul_le_mul_right _ (by omega)
   omega
 unfold checkP
 rw [if_neg (by unfold ptN; omega)]
 unfold checkedP
 rw [if_neg (by unfold ptN; omega), if_neg]
 simp only [List.any_eq_true, not_exists, not_and, Bool.not_eq_true]
 exact sys_ok h
theorem good_sub {F : Fld} {l m : List Rcd} (h : Good F l) (hs : m.Sublist l) : Good F m := by
 refine ⟨h.fld, Nat.le_trans hs.length_le h.few, fun r hr => h.each r (hs.subset hr), h.asc.sublist hs, ?_⟩
 rcases h.bds with q | rfl
 ·left
  refine Nat.le_trans ?_ q
  unfold sysL
  rw [List.length_append, List.length_append]
  have : ∀ {a b : List Rcd}, a.Sublist b → (a.flatMap (Rcd.bs F)).length ≤ (b.flatMap (Rcd.bs F)).length := by
   intro a b hab
   induction hab with
   | slnil => exact Nat.le_refl _
   | cons x _ ih => rw [List.flatMap_cons, List.length_append]; omega
   | cons_cons x _ ih => rw [List.flatMap_cons, List.flatMap_cons, List.length_append, List.length_append]; omega
  have := this hs
  omega
 ·exact .inr (List.sublist_nil.1 hs)
structure Tied (N : Nat) (bs : List Bd) : Prop where
 net : ∃ t, openedP N bs = some t ∧ NetOk N bs t
 fin : ∀ a b, a < N → b < N → distN N bs a b < farI
def farV (N : Nat) (bs : List Bd) (a : Nat) : List Int := (List.range N).map fun v => distN N bs a v - distN N bs a 0
theorem farV_get {N : Nat} {bs : List Bd} {a v : Nat} (h : v < N) : (farV N bs a).getD v 0 = distN N bs a v - distN N bs a 0 := by simp [farV, List.getD_eq_getElem?_getD, h]
theorem far_keeps {N : Nat} {bs : List Bd} (T : Tied N bs) {a : Nat} (ha : a < N) : Keeps N bs (farV N bs a) := by
 obtain ⟨t, ht, H⟩ := T.net
 have h0 := H.n0
 have h1 := H.n1
 refine ⟨by simp [farV], by rw [farV_get (by omega)]; omega, fun v hv => ?_, fun b hb => ?_⟩
 ·simp only [farV, List.mem_map, List.mem_range] at hv
  obtain ⟨p, hp, rfl⟩ := hv
  have := dist_bd H ht ha hp (T.fin a p ha hp)
  have := dist_bd H ht ha (b := 0) (by omega) (T.fin a 0 ha (by omega))
  omega
 ·obtain ⟨v1, v2, v3, v4, v5, v6⟩ := H.valid b hb
  have hs : b.src.toNat < N := by omega
  have hd : b.dst.toNat < N := by omega
  have k := dist_step H ht hb
  have := dist_tri H ht ha hs hd (T.fin _ _ ha hs) k.1
  unfold getI
  rw [farV_get hs, farV_get hd]
  omega
theorem tied_dist {N : Nat} {bs : List Bd} (T : Tied N bs) {y : List Int} (k : Keeps N bs y) {a b : Nat} (ha : a < N) (hb : b < N) : y.getD b 0 - y.getD a 0 ≤ distN N bs a b := by
 obtain ⟨t, ht, H⟩ := T.net
 exact keeps_dist H ht k ha hb (T.fin a b ha hb)
theorem kept_of_keeps {N : Nat} {bs : List Bd} (hN : N ≤ 128) (hv : AllValid N bs) {y : List Int} (k : Keeps N bs y) : keptP N bs = true := (keptP_iff hN hv).2 (noNeg_of_pot k.pot)
def agreeB (F : Fld) (l : List Rcd) : Bool := keptP (ptN F) (sysL F l)
def Drw (F : Fld) (l : List Rcd) (y : List Int) : Prop := Keeps (ptN F) (sysL F l) y
def lowE (F : Fld) (l : List Rcd) (p : Nat) : Int := -distN (ptN F) (sysL F l) p 0
def highE (F : Fld) (l : List Rcd) (p : Nat) : Int := distN (ptN F) (sysL F l) 0 p
theorem sys_valid {F : Fld} {l : List Rcd} (h : Good F l) : AllValid (ptN F) (sysL F l) := fun b hb => by
 have := badB_iff.1 (sys_ok h b hb)
 exact ⟨this.1.1, this.1.2, this.2.1.1, this.2.1.2, this.2.2.2.1.1, this.2.2.2.1.2⟩
theorem pt_le {F : Fld} (h : F.check = 0) : 1 ≤ ptN F ∧ ptN F ≤ 128 := by
 have := mul_len h
 unfold ptN
 omega
theorem nat_mem {F : Fld} {p : Nat} (h1 : 1 ≤ p) (h2 : p < ptN F) : (⟨0, (p : Int), 100000, 0⟩ : Bd) ∈ natF F ∧ (⟨(p : Int), 0, 0, 0⟩ : Bd) ∈ natF F := by
 have hp : p - 1 < F.lms.length * F.sts.length := by unfold ptN at h2; omega
 have e : ((p - 1 : Nat) : Int) + 1 = p := by omega
 unfold natF
 constructor
 ·refine List.mem_append_left _ (List.mem_flatMap.2 ⟨p - 1, List.mem_range.2 hp, ?_⟩)
  rw [e]; exact List.mem_cons_self ..
 ·refine List.mem_append_left _ (List.mem_flatMap.2 ⟨p - 1, List.mem_range.2 hp, ?_⟩)
  rw [e]; exact List.mem_cons_of_mem _ (List.mem_cons_self ..)
theorem nat_sub {F : Fld} {l : List Rcd} {b : Bd} (h : b ∈ natF F) : b ∈ sysL F l := List.mem_append_left _ h
theorem tied {F : Fld} {l : List Rcd} (h : Good F l) (ha : agreeB F l = true) : Tied (ptN F) (sysL F l) := by
 have hN := pt_le h.fld
 unfold agreeB keptP at ha
 obtain ⟨t, ht⟩ := Option.isSome_iff_exists.1 ha
 have hl : (sysL F l).length ≤ 2002 := by
  have := sys_check h
  unfold checkP at this
  by_cases q : 128 < (ptN F : Int) ∨ 2000 < (sysL F l).length
  ·rw [if_pos q] at this; exact absurd this (by decide)
  ·omega
 have H := netOk_of_opened hN.1 hN.2 hl (sys_valid h) ht
 have d0 : ∀ p, p < ptN F → distN (ptN F) (sysL F l) 0 p < farI ∧ distN (ptN F) (sysL F l) p 0 < farI := by
  intro p hp
  by_cases q : p = 0
  ·subst q; rw [dist_self H ht hN.1]; decide
  ·have m := nat_mem (F := F) (p := p) (by omega) hp
   exact ⟨(dist_step H ht (nat_sub m.1)).1, (dist_step H ht (nat_sub m.2)).1⟩
 exact ⟨⟨t, ht, H⟩, fun a b ha hb => (dist_tri H ht ha hN.1 hb (d0 a ha).2 (d0 b hb).1).1⟩
theorem ends_bd {F : Fld} {l : List Rcd} (h : Good F l) (ha : agreeB F l = true) {p : Nat} (h1 : 1 ≤ p) (h2 : p < ptN F) : 0 ≤ lowE F l p ∧ lowE F l p ≤ highE F l p ∧ highE F l p ≤ 100000 := by
 have T := tied h ha
 obtain ⟨t, ht, H⟩ := T.net
 have m := nat_mem (F := F) h1 h2
 have a := (dist_step H ht (nat_sub (l := l) m.1)).2
 have b := (dist_step H ht (nat_sub (l := l) m.2)).2
 have c := far_keeps T (a := 0) H.n0
 have d := tied_dist T c h2 (b := 0) H.n0
 have e := tied_dist T c (a := 0) H.n0 h2
 unfold lowE highE
 simp only [Int.toNat_natCast, Int.toNat_zero] at a b
 omega
theorem drw_agree {F : Fld} {l : List Rcd} (h : Good F l) {y : List Int} (k : Drw F l y) : agreeB F l = true := kept_of_keeps (pt_le h.fld).2 (sys_valid h) k
theorem last_drw {F : Fld} {l : List Rcd} (h : Good F l) (ha : agreeB F l = true) : Drw F l (highV (ptN F) (sysL F l)) ∧ Drw F l (lowV (ptN F) (sysL F l)) := by
 have T := tied h ha
 obtain ⟨t, ht, H⟩ := T.net
 exact ⟨high_keeps H ht fun p hp => T.fin 0 p H.n0 hp, low_keeps H ht fun p hp => T.fin p 0 hp H.n0⟩
theorem drw_sub {F : Fld} {l m : List Rcd} (hs : ∀ r ∈ m, r ∈ l) {y : List Int} (k : Drw F l y) : Drw F m y := by
 refine ⟨k.len, k.zero, k.bd, fun b hb => k.pot b ?_⟩
 unfold sysL at hb ⊢
 rcases List.mem_append.1 hb with hb | hb
 ·exact List.mem_append_left _ hb
 ·obtain ⟨r, hr, hb⟩ := List.mem_flatMap.1 hb
  exact List.mem_append_right _ (List.mem_flatMap.2 ⟨r, hs r hr, hb⟩)
theorem agree_sub {F : Fld} {l m : List Rcd} (h : Good F l) (g : Good F m) (hs : ∀ r ∈ m, r ∈ l) (ha : agreeB F l = true) : agreeB F m = true := drw_agree g (drw_sub hs (last_drw h ha).1)
def withoutId (l : List Rcd) (id : Int) : List Rcd := l.filter fun r => decide (r.id ≠ id)
theorem callBs_rcd {F : Fld} {c : Cll} {r : Int} : ∀ b ∈ callBs F c r, b.rcd = r := by
 have hp : ∀ {p q lo hi : Int}, ∀ b ∈ pairB p q lo hi r, b.rcd = r := by
  intro p q lo hi b hb
  unfold pairB at hb
  simp only [List.mem_cons, List.not_mem_nil, or_false] at hb
  rcases hb with rfl | rfl <;> rfl
 intro b hb
 unfold callBs at hb
 by_cases k1 : c.kind = 1
 ·rw [if_pos k1] at hb; exact hp b hb
 rw [if_neg k1] at hb
 by_cases k2 : c.kind = 2
 ·rw [if_pos k2] at hb; exact hp b hb
 rw [if_neg k2] at hb
 by_cases k3 : c.kind = 3
 ·rw [if_pos k3] at hb; exact hp b hb
 rw [if_neg k3] at hb
 by_cases k4 : c.kind = 4
 ·rw [if_pos k4] at hb
  unfold alongG at hb
  obtain ⟨i, _, hb⟩ := List.mem_flatMap.1 hb
  exact hp b hb
 rw [if_neg k4] at hb
 by_cases k5 : c.kind = 5
 ·rw [if_pos k5] at hb; exact hp b hb
 rw [if_neg k5] at hb
 cases hb
theorem nat_rcd {F : Fld} : ∀ b ∈ natF F, b.rcd = 0 := by
 intro b hb
 unfold natF at hb
 rcases List.mem_append.1 hb with hb | hb
 ·obtain ⟨p, _, hb⟩ := List.mem_flatMap.1 hb
  simp only [List.mem_cons, List.not_mem_nil, or_false] at hb
  rcases hb with rfl | rfl <;> rfl
 ·obtain ⟨i, _, hb⟩ := List.mem_flatMap.1 hb
  unfold natRow at hb
  obtain ⟨s, _, rfl⟩ := List.mem_map.1 hb
  rfl
theorem without_sys {F : Fld} {l : List Rcd} {id : Int} (hid : id ≠ 0) : (sysL F l).filter (fun b => decide (b.rcd ≠ id)) = sysL F (withoutId l id) := by
 unfold sysL
 rw [List.filter_append]
 congr 1
 ·refine List.filter_eq_self.2 fun b hb => ?_
  rw [nat_rcd b hb, decide_eq_true_eq]
  exact fun e => hid e.symm
 ·induction l with
  | nil => rfl
  | cons r l ih =>
    unfold withoutId at ih ⊢
    rw [List.flatMap_cons, List.filter_append, ih, List.filter_cons]
    by_cases q : r.id = id
    ·have : ((r.bs F).filter fun b => decide (b.rcd ≠ id)) = [] := List.filter_eq_nil_iff.2 fun b hb => by
      have := callBs_rcd b hb
      simp [this, q]
     rw [this]
     simp [q]
    ·have : ((r.bs F).filter fun b => decide (b.rcd ≠ id)) = r.bs F := List.filter_eq_self.2 fun b hb => by
      have := callBs_rcd b hb
      simp [this, q]
     rw [this]
     simp [q]
theorem along_len {F : Fld} {c : Cll} {r : Int} (n : Nat) : (alongG F c r n).length = 2 * n := by
 unfold alongG
 induction n with
 | zero => rfl
 | succ n ih => rw [List.range_succ, List.flatMap_append, List.length_append, ih]; simp [pairB]; omega
end Go.Proofs.YtkhemfnlflbniaaGreatDoor
