/- Walks: comparing bounds; the stable sort leaves bounds that stand in order as they are: insertion sort. No conditions beyond those stated. -/
import Derived.Test.YthcmjhellpjllaaGreatCYe
import Derived.Deep.RegionHeld3
import Derived.Deep.DeepCutAuto
import Derived.StillTailTactics
namespace Go.Proofs.YthcmjhellpjllaaGreat
open Go Go.RowKit Go.Shelf

def cmpI (a b : Int) : Int := if a < b then -1 else if b < a then 1 else 0
def cmpB (x y : Bd) : Int := if cmpI x.src y.src = 0 then cmpI x.dst y.dst else cmpI x.src y.src
def orP : List Int → Int
  | [] => 0
  | x :: l => if x = 0 then orP l else x

theorem orP_two (x y : Int) : orP [x, y] = if x = 0 then y else x := by
  unfold orP orP orP
  by_cases h : x = 0
  · rw [if_pos h, if_pos h]; split <;> omega
  · rw [if_neg h, if_neg h]
theorem orP_drop {l : List Int} {k : Nat} (h : k < l.length) : orP (l.drop k) = if l[k] = 0 then orP (l.drop (k + 1)) else l[k] := by
  rw [List.drop_eq_getElem_cons h]; rfl

theorem isNaN_any (n : Int) (w : World) : Calls Tryz.prog 76 #[.int .i64 n] w fun e w' => e = .returned (.bool false) ∧ w = w' := by
  go_enter Tryz.func76, Tryz.ntmps76
  go_wp2
  go_ret
  exact ⟨by simp, rfl⟩

theorem compare_any (a b : Int) (w : World) : Calls Tryz.prog 56 #[.int .i64 a, .int .i64 b] w fun e w' => e = .returned (.int .i64 (cmpI a b)) ∧ w = w' := by
  unfold cmpI
  go_enter Tryz.func56, Tryz.ntmps56
  go_wp2_with (go_at_call 76; refine (isNaN_any _ _).mono ?_; rintro e w' ⟨rfl, rfl⟩)
  all_goals go_ret
  all_goals refine ⟨?_, rfl⟩
  all_goals rfl

theorem or_any (w : World) (a : Option Addr) (cap : Nat) (xs : List Int) (hl : xs.length ≤ 9223372036854775807) (h : IntsAt w a xs) :
    Calls Tryz.prog 55 #[.slice a xs.length cap] w fun e w' => e = .returned (.int .i64 (orP xs)) ∧ Below w.heap.size w w' := by
  have H := hidE h
  clear h
  go_enter Tryz.func55, Tryz.ntmps55
  go_wp2
  go_loopw [8] (fun i wr => ∃ k : Nat, k ≤ xs.length ∧ i = .int .i64 k ∧ Hid (orP xs = orP (xs.drop k)) ∧ Below w.heap.size w wr)
      (fun i _ => xs.length - (intOf i).toNat)
  case atStart => exact ⟨0, by omega, rfl, hidE rfl, by go_grown⟩
  case round =>
    obtain ⟨k, hk, rfl, HA, hb⟩ := hrel
    by_cases hlt : k < xs.length
    · obtain ⟨b, off, rfl, hbl, hc⟩ := H.out.at hlt
      rw [← hb.cell hbl] at hc
      have hd := orP_drop hlt
      obtain ⟨x, hx⟩ : ∃ x, xs[k] = x := ⟨_, rfl⟩
      rw [hx] at hc hd
      by_cases h0 : x = 0
      · subst h0
        rw [if_pos rfl] at hd
        have HD := hidE (HA.out.trans hd)
        clear hd hx
        go_wp2_with fail
        go_roundw
        case rel => exact ⟨k + 1, by omega, by go_num, HD, hb⟩
        case measure => simp [intOf]; omega
      · rw [if_neg h0] at hd
        have h1 : (x != 0) = true := by simpa using h0
        have HD := hidE (HA.out.trans hd)
        clear hd hx h0
        go_wp2_with fail
        go_ret
        exact ⟨by rw [HD.out]; rfl, hb⟩
    · have hd : orP (xs.drop k) = 0 := by rw [List.drop_of_length_le (by omega)]; rfl
      have HD := hidE (HA.out.trans hd)
      clear hd
      go_wp2_with fail
      go_ret
      exact ⟨by rw [HD.out]; rfl, hb⟩

set_option maxRecDepth 100000 in
set_option maxHeartbeats 1000000 in
theorem compared_any (x y : Bd) (w : World) : Calls Tryz.prog 25 #[x.val, y.val] w fun e w' => e = .returned (.int .i64 (cmpB x y)) ∧ Below w.heap.size w w' := by
  obtain ⟨xs, xd, xm, xr⟩ := x
  obtain ⟨ys, yd, ym, yr⟩ := y
  have HC : Hid (cmpB ⟨xs, xd, xm, xr⟩ ⟨ys, yd, ym, yr⟩ = orP [cmpI xs ys, cmpI xd yd]) := hidE (by rw [orP_two]; rfl)
  obtain ⟨c1, h1⟩ : ∃ c, cmpI xs ys = c := ⟨_, rfl⟩
  obtain ⟨c2, h2⟩ : ∃ c, cmpI xd yd = c := ⟨_, rfl⟩
  have q1 := fun W => compare_any xs ys W
  have q2 := fun W => compare_any xd yd W
  rw [h1, h2] at HC
  rw [h1] at q1
  rw [h2] at q2
  have Q1 := hidE q1
  have Q2 := hidE q2
  have QO := hidE (fun W : World => (show Calls Tryz.prog 55 #[.slice (some ⟨W.heap.size, 0, none⟩) 2 2] (W.alloc (.cells #[.int .i64 c1, .int .i64 c2] 3)).drew _ from or_any (W.alloc (.cells #[.int .i64 c1, .int .i64 c2] 3)).drew (some ⟨W.heap.size, 0, none⟩) 2 [c1, c2] (by simp) ((ints_two W c1 c2).below ((Below.refl _ _).drew) (Nat.le_refl _))))
  clear h1 h2 q1 q2
  unfold Bd.val
  go_enter Tryz.func25, Tryz.ntmps25
  go_upto_region 1 with fail
  obtain ⟨W0, hW0⟩ : ∃ W0, W0 = (w.alloc (.cells #[.int .i64 xs, .int .i64 xd, .int .i64 xm, .int .i64 xr] 47)).alloc (.cells #[.int .i64 ys, .int .i64 yd, .int .i64 ym, .int .i64 yr] 47) := ⟨_, rfl⟩
  rw [← hW0]
  have hb0 : Below w.heap.size w W0 := by rw [hW0]; exact ((Below.refl _ _).alloc (Nat.le_refl _) _).alloc (by simp) _
  have hx0 : W0.heap[w.heap.size]? = some (.cells #[.int .i64 xs, .int .i64 xd, .int .i64 xm, .int .i64 xr] 47 (0,0)) := by rw [hW0, Below.heap_alloc _ _ _ (by simp), heap_alloc_new]
  have hy0 : W0.heap[w.heap.size + 1]? = some (.cells #[.int .i64 ys, .int .i64 yd, .int .i64 ym, .int .i64 yr] 47 (0,0)) := by rw [hW0, heap_alloc_at _ _ _ (by simp)]
  have c0 : W0.cell? ⟨w.heap.size, 0, none⟩ = some (.int .i64 xs) := by rw [cell_of_row _ _ _ _ _ _ hx0]; rfl
  have c3 : W0.cell? ⟨w.heap.size, 1, none⟩ = some (.int .i64 xd) := by rw [cell_of_row _ _ _ _ _ _ hx0]; rfl
  have c4 : W0.cell? ⟨w.heap.size + 1, 0, none⟩ = some (.int .i64 ys) := by rw [cell_of_row _ _ _ _ _ _ hy0]; rfl
  have c5 : W0.cell? ⟨w.heap.size + 1, 1, none⟩ = some (.int .i64 yd) := by rw [cell_of_row _ _ _ _ _ _ hy0]; rfl
  have HB0 := hidE hb0
  have L0 := hidE (lt_of_block hy0)
  clear hW0 hb0 hx0 hy0
  refine wp_region_F (S := fun V => V.cell? ⟨w.heap.size, 0, none⟩ = some (.int .i64 xs) ∧ V.cell? ⟨w.heap.size, 1, none⟩ = some (.int .i64 xd) ∧ V.cell? ⟨w.heap.size + 1, 0, none⟩ = some (.int .i64 ys) ∧ V.cell? ⟨w.heap.size + 1, 1, none⟩ = some (.int .i64 yd)) (last := 12) (by kernel_rfl) ?_
  have hS0 : W0.drew.cell? ⟨w.heap.size, 0, none⟩ = some (.int .i64 xs) ∧ W0.drew.cell? ⟨w.heap.size, 1, none⟩ = some (.int .i64 xd) ∧ W0.drew.cell? ⟨w.heap.size + 1, 0, none⟩ = some (.int .i64 ys) ∧ W0.drew.cell? ⟨w.heap.size + 1, 1, none⟩ = some (.int .i64 yd) := ⟨c0, c3, c4, c5⟩
  refine wpAnyF_take (i := 0) (v := .pointer (some ⟨w.heap.size, 0, none⟩)) (by kernel_rfl) (by decide) rfl (by kernel_rfl) (by kernel_rfl) (by kernel_rfl) (fun _ _ _ h => h) (.inl ⟨rfl, fun V hV => ?_⟩) hS0 ?_
  · simp [go_sem, execOp]
  try simp only [Act.put, List.setIfInBounds_toArray]
  refine wpAnyF_take (i := 1) (v := .int .i64 xs) (by kernel_rfl) (by decide) rfl (by kernel_rfl) (by kernel_rfl) (by kernel_rfl) (fun _ _ _ h => h) (.inl ⟨rfl, fun V hV => ?_⟩) hS0 ?_
  · obtain ⟨z0, z1, z2, z3⟩ := hV
    simp [go_sem, execOp, z0]
  try simp only [Act.put]
  refine wpAnyF_take (i := 2) (v := .pointer (some ⟨w.heap.size + 1, 0, none⟩)) (by kernel_rfl) (by decide) rfl (by kernel_rfl) (by kernel_rfl) (by kernel_rfl) (fun _ _ _ h => h) (.inl ⟨rfl, fun V hV => ?_⟩) hS0 ?_
  · simp [go_sem, execOp]
  try simp only [Act.put]
  refine wpAnyF_take (i := 3) (v := .int .i64 ys) (by kernel_rfl) (by decide) rfl (by kernel_rfl) (by kernel_rfl) (by kernel_rfl) (fun _ _ _ h => h) (.inl ⟨rfl, fun V hV => ?_⟩) hS0 ?_
  · obtain ⟨z0, z1, z2, z3⟩ := hV
    simp [go_sem, execOp, z2]
  try simp only [Act.put]
  refine wpAnyF_take (i := 5) (v := .pointer (some ⟨w.heap.size, 1, none⟩)) (by kernel_rfl) (by decide) rfl (by kernel_rfl) (by kernel_rfl) (by kernel_rfl) (fun _ _ _ h => h) (.inl ⟨rfl, fun V hV => ?_⟩) hS0 ?_
  · simp [go_sem, execOp]
  try simp only [Act.put]
  refine wpAnyF_take (i := 6) (v := .int .i64 xd) (by kernel_rfl) (by decide) rfl (by kernel_rfl) (by kernel_rfl) (by kernel_rfl) (fun _ _ _ h => h) (.inl ⟨rfl, fun V hV => ?_⟩) hS0 ?_
  · obtain ⟨z0, z1, z2, z3⟩ := hV
    simp [go_sem, execOp, z1]
  try simp only [Act.put]
  refine wpAnyF_take (i := 7) (v := .pointer (some ⟨w.heap.size + 1, 1, none⟩)) (by kernel_rfl) (by decide) rfl (by kernel_rfl) (by kernel_rfl) (by kernel_rfl) (fun _ _ _ h => h) (.inl ⟨rfl, fun V hV => ?_⟩) hS0 ?_
  · simp [go_sem, execOp]
  try simp only [Act.put]
  refine wpAnyF_take (i := 8) (v := .int .i64 yd) (by kernel_rfl) (by decide) rfl (by kernel_rfl) (by kernel_rfl) (by kernel_rfl) (fun _ _ _ h => h) (.inl ⟨rfl, fun V hV => ?_⟩) hS0 ?_
  · obtain ⟨z0, z1, z2, z3⟩ := hV
    simp [go_sem, execOp, z3]
  try simp only [Act.put]
  refine wpAnyF_step 4 rfl (by kernel_rfl) (fun K hK => ?_)
  · go_simp
    go_at_call 56
    refine (Q1.out _).mono ?_
    rintro e w3 ⟨rfl, rfl⟩
    go_wp2_with fail
    refine hK.out _ _ (.inr hS0) ?_
    clear hK K
    try simp only [Act.put, List.setIfInBounds_toArray, List.set_cons_succ, List.set_cons_zero]
    refine wpAnyF_step 9 rfl (by kernel_rfl) (fun K hK => ?_)
    go_simp
    go_at_call 56
    refine (Q2.out _).mono ?_
    rintro e w3 ⟨rfl, rfl⟩
    go_wp2_with fail
    refine hK.out _ _ (.inr hS0) ?_
    clear hK K
    try simp only [Act.put, List.setIfInBounds_toArray, List.set_cons_succ, List.set_cons_zero]
    have kb : Below w.heap.size w (W0.drew.alloc (.cells #[.int .i64 c1, .int .i64 c2] 3)) := HB0.out.trans ((Below.refl _ _).drew.alloc HB0.out.size _)
    have l0 : w.heap.size + 1 < W0.heap.size := L0.out
    have kq : Below W0.heap.size W0 (W0.drew.alloc (.cells #[.int .i64 c1, .int .i64 c2] 3)) := (Below.refl _ _).drew.alloc (Nat.le_refl _) _
    have hS1 : (W0.drew.alloc (.cells #[.int .i64 c1, .int .i64 c2] 3)).cell? ⟨w.heap.size, 0, none⟩ = some (.int .i64 xs) ∧ (W0.drew.alloc (.cells #[.int .i64 c1, .int .i64 c2] 3)).cell? ⟨w.heap.size, 1, none⟩ = some (.int .i64 xd) ∧ (W0.drew.alloc (.cells #[.int .i64 c1, .int .i64 c2] 3)).cell? ⟨w.heap.size + 1, 0, none⟩ = some (.int .i64 ys) ∧ (W0.drew.alloc (.cells #[.int .i64 c1, .int .i64 c2] 3)).cell? ⟨w.heap.size + 1, 1, none⟩ = some (.int .i64 yd) := ⟨(kq.cell (by show w.heap.size < _; omega)).trans c0, (kq.cell (by show w.heap.size < _; omega)).trans c3, (kq.cell (by exact l0)).trans c4, (kq.cell (by exact l0)).trans c5⟩
    refine wpAnyF_step 10 rfl (by kernel_rfl) (fun K hK => ?_)
    go_simp
    refine hK.out _ _ (.inr hS1) ?_
    clear hK K
    try simp only [Act.put, List.setIfInBounds_toArray, List.set_cons_succ, List.set_cons_zero]
    refine wpAnyF_step 11 rfl (by kernel_rfl) (fun K hK => ?_)
    go_simp
    go_at_call 55
    refine (QO.out W0).mono ?_
    rintro e w5 ⟨rfl, hb5⟩
    have HB5 := hidE (kb.trans (hb5.mono kb.size))
    have z0 := (hb5.cell (p := ⟨w.heap.size, 0, none⟩) (by show w.heap.size < _; simp; omega)).trans hS1.1
    have z1 := (hb5.cell (p := ⟨w.heap.size, 1, none⟩) (by show w.heap.size < _; simp; omega)).trans hS1.2.1
    have z2 := (hb5.cell (p := ⟨w.heap.size + 1, 0, none⟩) (by show w.heap.size + 1 < _; simp; omega)).trans hS1.2.2.1
    have z3 := (hb5.cell (p := ⟨w.heap.size + 1, 1, none⟩) (by show w.heap.size + 1 < _; simp; omega)).trans hS1.2.2.2
    clear hb5
    go_wp2_with fail
    refine hK.out _ _ (.inr ⟨z0, z1, z2, z3⟩) ?_
    clear hK K
    try simp only [Act.put, List.setIfInBounds_toArray, List.set_cons_succ, List.set_cons_zero]
    refine wpAnyF_step 12 rfl (by kernel_rfl) (fun K hK => ?_)
    go_simp
    refine hK.out _ _ (.inl rfl) ?_
    clear hK K
    try simp only [Act.put, List.setIfInBounds_toArray, List.set_cons_succ, List.set_cons_zero]
    refine wpAnyF_done (by kernel_rfl) ?_ _
    go_wp2_with fail
    go_ret
    exact ⟨by rw [HC.out]; rfl, HB5.out⟩

end Go.Proofs.YthcmjhellpjllaaGreat
