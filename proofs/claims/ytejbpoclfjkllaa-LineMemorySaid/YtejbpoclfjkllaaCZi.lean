/- Walks: the reference's Some, Through. Conditions: at most 40 points where the system is checked. -/
import Derived.Test.YtejbpoclfjkllaaCZh
import Derived.Test.YtejbpoclfjkllaaA4
import Derived.Test.YtejbpoclfjkllaaCY5
import Derived.Test.YtejbpoclfjkllaaCY4
namespace Go.Proofs.Ytejbpoclfjkllaa
open Go Go.RowKit Go.Shelf

set_option maxRecDepth 100000 in
set_option maxHeartbeats 1000000 in
theorem refsomeE_any (w : World) (N : Int) (a : Option Addr) (cap : Nat) (bs : List Bd) (hN : i64ok N) (hl : bs.length ≤ 9223372036854775807) (h : BoundsAt w a bs) (hsm : checkP N bs = 0 → N ≤ 40) :
    Calls Try.prog 59 #[.agg #[.int .i64 N, .slice a bs.length cap]] w fun e w' => PathPost (someE N bs).1 (someE N bs).2 w.heap.size e w' ∧ Below w.heap.size w w' := by
  have H := hidE h
  have HN := hidE hN
  clear h hN
  have hB0 : Below w.heap.size w (w.alloc (.cells #[.int .i64 N, .slice a bs.length cap] 24)) := (Below.refl _ _).alloc (Nat.le_refl _) _
  have hask : Calls Try.prog 90 #[.agg #[.int .i64 N, .slice a bs.length cap], .slice none 0 0] (w.alloc (.cells #[.int .i64 N, .slice a bs.length cap] 24)) _ :=
    pointed_any _ N a cap bs none 0 [] HN.out hl (by simp) (H.out.alloc (.cells #[.int .i64 N, .slice a bs.length cap] 24)) (.inl rfl)
  by_cases he : askedE N bs [] = 0
  · have h40 := hsm (askedE_zero he).1
    obtain ⟨R, t, rfl, ht, HO⟩ := asked0 he
    have h40' : R ≤ 40 := by omega
    have hd : someE R bs = (valuesP R bs, 0) := by unfold someE; rw [if_pos he]; simp
    have hv : valuesP R bs = someP R (tableP R t bs) := by unfold valuesP; rw [heightsP_of ht]
    rw [he] at hask
    have hso := fun W hb => refsome_any W R a cap bs t HO ht h40' hb
    have HD := hidE hd
    have HV := hidE hv
    have HA := hidE hask
    have HSO := hidE hso
    clear hd hv he ht hask hso HO
    go_enter Try.func59, Try.ntmps59
    go_wp2_with fail
    refine HA.out.mono ?_
    rintro e w1 ⟨rfl, hb1⟩
    have X1 := hidE (blk_below hb1 (by simp) (heap_alloc_new w (.cells #[.int .i64 (R : Int), .slice a bs.length cap] 24)))
    have c0 : w1.cell? ⟨w.heap.size, 0, none⟩ = some (.int .i64 (R : Int)) := by rw [cell_of_row _ _ _ _ _ _ X1.out]; rfl
    have c1 : w1.cell? ⟨w.heap.size, 1, none⟩ = some (.slice a bs.length cap) := by rw [cell_of_row _ _ _ _ _ _ X1.out]; rfl
    have B1 := hidE (hB0.trans (hb1.mono hB0.size))
    clear hb1
    go_wp2_with fail
    refine (HSO.out _ (H.out.below B1.out (Nat.le_refl _))).mono ?_
    rintro e w2 ⟨⟨v, rfl, hown⟩, hb2⟩
    have HOW := hidE hown
    have B2 := hidE hb2
    clear hown hb2
    go_wp2_with fail
    go_ret2
    refine ⟨?_, B1.out.trans (B2.out.mono B1.out.size)⟩
    rw [HD.out, HV.out]
    exact ⟨_, rfl, ownsRow_base HOW.out B1.out.size⟩
  · have hd : someE N bs = ([], askedE N bs []) := by unfold someE; rw [if_neg he]
    obtain ⟨c, hc⟩ : ∃ c, askedE N bs [] = c := ⟨_, rfl⟩
    rw [hc] at hd hask he
    have hc2 : (c != 0) = true := by simpa using he
    have HD := hidE hd
    have HA := hidE hask
    clear hd he hc hask
    go_enter Try.func59, Try.ntmps59
    go_wp2_with fail
    refine HA.out.mono ?_
    rintro e w1 ⟨rfl, hb1⟩
    go_wp2_with fail
    go_ret2
    refine ⟨?_, hB0.trans (hb1.mono hB0.size)⟩
    rw [HD.out]
    exact ⟨_, rfl, World.ownsRow_nil _ _ _ _⟩

set_option maxRecDepth 100000 in
set_option maxHeartbeats 4000000 in
theorem refthrough_any (w : World) (N : Int) (a : Option Addr) (cap : Nat) (bs : List Bd) (p v : Int) (hN : i64ok N) (hl : bs.length ≤ 9223372036854775807) (h : BoundsAt w a bs) (hsm : checkP N bs = 0 → N ≤ 40) :
    Calls Try.prog 60 #[.agg #[.int .i64 N, .slice a bs.length cap], .int .i64 p, .int .i64 v] w fun e w' => ThroughPost (throughE N bs p v).1 (throughE N bs p v).2.1 (throughE N bs p v).2.2 w.heap.size e w' ∧ Below w.heap.size w w' := by
  have H := hidE h
  have hB0 : Below w.heap.size w (w.alloc (.cells #[.int .i64 N, .slice a bs.length cap] 24)) := (Below.refl _ _).alloc (Nat.le_refl _) _
  have hck := refcheck_any (w.alloc (.cells #[.int .i64 N, .slice a bs.length cap] 24)) N a cap bs hN hl (h.alloc _)
  clear h
  by_cases hc : checkP N bs = 0
  · have h40' := hsm hc
    obtain ⟨n0, n1, n2, nv⟩ := checkP_zero hc
    rw [hc] at hck
    have HCK := hidE hck
    have NV := hidE nv
    have HC0 := hidE hc
    clear hck nv hc hN hsm
    by_cases hp : 0 ≤ p ∧ p < N
    · have hpp : pointP N [p] = 0 := by unfold pointP; rw [if_neg (by simp [inR]; omega)]
      have HP := hidE hpp
      clear hpp
      obtain ⟨p0, p1⟩ := hp
      have q1 : decide (p < 0) = false := decide_eq_false (by omega)
      have q2 : decide (p ≥ N) = false := decide_eq_false (by omega)
      by_cases hr : -1000000 ≤ v ∧ v ≤ 1000000
      · have hrr : inR v (-1000000) 1000000 = true := inR_true.2 hr
        have HR := hidE hrr
        obtain ⟨r0, r1⟩ := hr
        have q3 : decide (v < -1000000) = false := decide_eq_false (by omega)
        have q4 : decide (v > 1000000) = false := decide_eq_false (by omega)
        clear hrr
        by_cases hz : p = 0 ∧ v ≠ 0
        · have hd : throughE N bs p v = ([], false, 0) := by unfold throughE; rw [if_neg (by rw [HC0.out]; simp), if_neg (by rw [HP.out]; simp), if_neg (by rw [HR.out]; simp), if_pos hz]
          have HD := hidE hd
          have z1 : (p == 0) = true := by simpa using hz.1
          have z2 : (v != 0) = true := by simpa using hz.2
          clear hd hz
          go_enter Try.func60, Try.ntmps60
          go_wp2_with fail
          refine HCK.out.mono ?_
          rintro e w1 ⟨rfl, hb1⟩
          have X1 := hidE (blk_below hb1 (by simp) (heap_alloc_new w (.cells #[.int .i64 N, .slice a bs.length cap] 24)))
          have c0 : w1.cell? ⟨w.heap.size, 0, none⟩ = some (.int .i64 N) := by rw [cell_of_row _ _ _ _ _ _ X1.out]; rfl
          have c1 : w1.cell? ⟨w.heap.size, 1, none⟩ = some (.slice a bs.length cap) := by rw [cell_of_row _ _ _ _ _ _ X1.out]; rfl
          have B1 := hidE (hB0.trans (hb1.mono hB0.size))
          clear hb1
          go_wp2_with fail
          go_ret3
          refine ⟨?_, B1.out⟩
          rw [HD.out]
          exact ⟨_, rfl, World.ownsRow_nil _ _ _ _⟩
        · by_cases hp0 : p = 0
          · subst hp0
            have hv0 : v = 0 := by
              by_cases e : v = 0
              · exact e
              · exact absurd ⟨rfl, e⟩ hz
            subst hv0
            obtain ⟨R, rfl⟩ := Int.eq_ofNat_of_zero_le (show 0 ≤ N by omega)
            have h40 : R ≤ 40 := by omega
            have hxl : bs.length ≤ 2002 := by omega
            have hxv : AllValid R bs := fun b hb => (NV.out b hb).1
            obtain ⟨q, hq⟩ : ∃ q, openedP R bs = q := ⟨_, rfl⟩
            have hd : throughE R bs 0 0 = if q.isSome = true then (valuesP R bs, true, 0) else ([], false, 0) := by
              unfold throughE; rw [if_neg (by rw [HC0.out]; simp), if_neg (by rw [HP.out]; simp), if_neg (by rw [HR.out]; simp), if_neg hz]; unfold throughX; rw [if_pos rfl, hq]; simp
            obtain ⟨xs, hxs⟩ : ∃ xs, xs = bs := ⟨_, rfl⟩
            have hd2 : throughE R bs 0 0 = if q.isSome = true then (valuesP R xs, true, 0) else ([], false, 0) := by rw [hxs]; exact hd
            have HD := hidE hd2
            have HQ := hidE (show openedP R xs = q by rw [hxs]; exact hq)
            have HXV := hidE (show AllValid R xs by rw [hxs]; exact hxv)
            have hxl : xs.length ≤ 2002 := by rw [hxs]; exact hxl
            have HXS := hidE hxs
            clear hd hd2 hz hq hxs hxv p0 p1 r0 r1 q1 q2 q3 q4
            go_enter Try.func60, Try.ntmps60
            go_wp2_with fail
            refine HCK.out.mono ?_
            rintro e w1 ⟨rfl, hb1⟩
            have X1 := hidE (blk_below hb1 (by simp) (heap_alloc_new w (.cells #[.int .i64 (R : Int), .slice a bs.length cap] 24)))
            have c0 : w1.cell? ⟨w.heap.size, 0, none⟩ = some (.int .i64 (R : Int)) := by rw [cell_of_row _ _ _ _ _ _ X1.out]; rfl
            have c1 : w1.cell? ⟨w.heap.size, 1, none⟩ = some (.slice a bs.length cap) := by rw [cell_of_row _ _ _ _ _ _ X1.out]; rfl
            have B1 := hidE (hB0.trans (hb1.mono hB0.size))
            clear hb1
            go_upto_region 9 with fail
            obtain ⟨W5, hW5⟩ : ∃ X, X = w1.alloc (.cells #[.int .i64 (R : Int), .slice a bs.length cap] 24) := ⟨_, rfl⟩
            rw [← hW5]
            have X5 : Hid (W5.heap[w1.heap.size]? = some (.cells #[.int .i64 (R : Int), .slice a bs.length cap] 24 (0,0))) := hidE (by rw [hW5]; exact heap_alloc_new _ _)
            have bw5 : Below w1.heap.size w1 W5 := by rw [hW5]; exact (Below.refl _ _).alloc (Nat.le_refl _) _
            have B5 := hidE (B1.out.trans (bw5.mono B1.out.size))
            have hb5 := H.out.below B5.out (Nat.le_refl _)
            obtain ⟨o5, ho5⟩ : ∃ o, o = a := ⟨_, rfl⟩
            obtain ⟨k5, hk5⟩ : ∃ o, o = cap := ⟨_, rfl⟩
            rw [← HXS.out, ← ho5, ← hk5] at X5
            rw [← HXS.out, ← ho5] at hb5
            have BX5 := hidE hb5
            clear hW5 bw5 hb5 c0 c1 ho5 hk5 HXS
            have f0 : W5.cell? ⟨w1.heap.size, 0, none⟩ = some (.int .i64 (R : Int)) := by rw [cell_of_row _ _ _ _ _ _ X5.out]; rfl
            have f1 : W5.cell? ⟨w1.heap.size, 1, none⟩ = some (.slice o5 xs.length k5) := by rw [cell_of_row _ _ _ _ _ _ X5.out]; rfl
            go_wp2_with fail
            refine (refconsistent_any W5 R o5 k5 xs (by omega) (by omega) (by omega) BX5.out HXV.out).mono ?_
            rw [keptR_eq (by omega) HXV.out]
            unfold keptP
            rw [HQ.out]
            rintro e w6 ⟨rfl, hb6⟩
            have X6 := hidE (blk_below hb6 (lt_of_block X5.out) X5.out)
            have B6 := hidE (B5.out.trans (hb6.mono B5.out.size))
            have BX6 := hidE (BX5.out.below hb6 (Nat.le_refl _))
            clear f0 f1 hb6
            have g0 : w6.cell? ⟨w1.heap.size, 0, none⟩ = some (.int .i64 (R : Int)) := by rw [cell_of_row _ _ _ _ _ _ X6.out]; rfl
            have g1 : w6.cell? ⟨w1.heap.size, 1, none⟩ = some (.slice o5 xs.length k5) := by rw [cell_of_row _ _ _ _ _ _ X6.out]; rfl
            cases q with
            | none =>
              go_wp2_with fail
              go_ret3
              refine ⟨?_, B6.out⟩
              rw [HD.out]
              exact ⟨_, rfl, World.ownsRow_nil _ _ _ _⟩
            | some t =>
              have hso := refsome_any w6 R o5 k5 xs t (netOk_of_opened (by omega) (by omega) hxl HXV.out HQ.out) HQ.out h40 BX6.out
              have HSO := hidE hso
              have HV := hidE (show valuesP R xs = someP R (tableP R t xs) by unfold valuesP; rw [heightsP_of HQ.out])
              clear hso
              go_wp2_with fail
              refine HSO.out.mono ?_
              rintro e w7 ⟨⟨vv, rfl, ho⟩, hb7⟩
              have HO := hidE ho
              have B7 := hidE hb7
              clear ho hb7
              go_wp2_with fail
              go_ret3
              refine ⟨?_, B6.out.trans (B7.out.mono B6.out.size)⟩
              rw [HD.out]
              refine ⟨_, rfl, ?_⟩
              simp only [Option.isSome_some, if_true]
              rw [HV.out]
              exact ownsRow_base HO.out B6.out.size
          · obtain ⟨R, rfl⟩ := Int.eq_ofNat_of_zero_le (show 0 ≤ N by omega)
            have h40 : R ≤ 40 := by omega
            have hx : throughX bs p v = bs ++ [⟨0, p, v, 0⟩, ⟨p, 0, -v, 0⟩] := by unfold throughX; rw [if_neg hp0]
            have hxl : (bs ++ [(⟨0, p, v, 0⟩ : Bd), ⟨p, 0, -v, 0⟩]).length ≤ 2002 := by simp; omega
            have hxv := throughX_valid (R := R) (bs := bs) (by omega) (fun b hb => (NV.out b hb).1) p0 p1 r0 r1
            rw [hx] at hxv
            obtain ⟨xs, hxs⟩ : ∃ xs, bs ++ [(⟨0, p, v, 0⟩ : Bd), ⟨p, 0, -v, 0⟩] = xs := ⟨_, rfl⟩
            rw [hxs] at hx hxl hxv
            obtain ⟨q, hq⟩ : ∃ q, openedP R xs = q := ⟨_, rfl⟩
            have hd : throughE R bs p v = if q.isSome = true then (valuesP R xs, true, 0) else ([], false, 0) := by unfold throughE; rw [if_neg (by rw [HC0.out]; simp), if_neg (by rw [HP.out]; simp), if_neg (by rw [HR.out]; simp), if_neg hz, hx, hq]; simp
            have HD := hidE hd
            have HQ := hidE hq
            have HXV := hidE hxv
            have HXS := hidE hxs
            have z1 : (p == 0) = false := by simpa using hp0
            have z2 : decide (p > 0) = true := decide_eq_true (by omega)
            clear hd hz hx hq hxs hxv hp0
            go_enter Try.func60, Try.ntmps60
            go_wp2_with fail
            refine HCK.out.mono ?_
            rintro e w1 ⟨rfl, hb1⟩
            have X1 := hidE (blk_below hb1 (by simp) (heap_alloc_new w (.cells #[.int .i64 (R : Int), .slice a bs.length cap] 24)))
            have c0 : w1.cell? ⟨w.heap.size, 0, none⟩ = some (.int .i64 (R : Int)) := by rw [cell_of_row _ _ _ _ _ _ X1.out]; rfl
            have c1 : w1.cell? ⟨w.heap.size, 1, none⟩ = some (.slice a bs.length cap) := by rw [cell_of_row _ _ _ _ _ _ X1.out]; rfl
            have B1 := hidE (hB0.trans (hb1.mono hB0.size))
            clear hb1
            go_upto_region 9 with fail
            obtain ⟨W2, hW2⟩ : ∃ X, X = w1.alloc (.cells #[.int .i64 (R : Int), .slice a bs.length cap] 24) := ⟨_, rfl⟩
            rw [← hW2]
            have X2 : Hid (W2.heap[w1.heap.size]? = some (.cells #[.int .i64 (R : Int), .slice a bs.length cap] 24 (0,0))) := hidE (by rw [hW2]; exact heap_alloc_new _ _)
            have bw2 : Below w1.heap.size w1 W2 := by rw [hW2]; exact (Below.refl _ _).alloc (Nat.le_refl _) _
            have B2 := hidE (B1.out.trans (bw2.mono B1.out.size))
            have lx : w1.heap.size < W2.heap.size := lt_of_block X2.out
            have lw : w.heap.size < W2.heap.size := lt_of_block (blk_below bw2 (lt_of_block X1.out) X1.out)
            have d0 : W2.cell? ⟨w.heap.size, 1, none⟩ = some (.slice a bs.length cap) := by rw [cell_of_row _ _ _ _ _ _ (blk_below bw2 (lt_of_block X1.out) X1.out)]; rfl
            have e2 : Below W2.heap.size W2 (W2.alloc (.cells #[] 44)) := (Below.refl _ _).alloc (Nat.le_refl _) _
            obtain ⟨v1, W3, r3, p3, q3'⟩ := append_bounds (W2.alloc (.cells #[] 44)) W2.heap.size (.slice (some ⟨W2.heap.size, 0, none⟩) 0 0) [] (owns_empty (heap_alloc_new _ _) (Nat.le_refl _)) a cap bs (H.out.below (B2.out.trans (e2.mono B2.out.size)) (Nat.le_refl _)) (by simp) (by omega) e2.size 22
            rw [List.nil_append] at p3
            have bw3 := e2.trans q3'
            have e3 : Below W3.heap.size W3 (W3.alloc (.cells #[.int .i64 0, .int .i64 p, .int .i64 v, .int .i64 0, .int .i64 p, .int .i64 0, .int .i64 (-v), .int .i64 0] 44)) := (Below.refl _ _).alloc (Nat.le_refl _) _
            have y1 : (W3.alloc (.cells #[.int .i64 0, .int .i64 p, .int .i64 v, .int .i64 0, .int .i64 p, .int .i64 0, .int .i64 (-v), .int .i64 0] 44)).heap[W3.heap.size]? = some (.cells #[.int .i64 0, .int .i64 p, .int .i64 v, .int .i64 0, .int .i64 p, .int .i64 0, .int .i64 (-v), .int .i64 0] 44 (0,0)) := heap_alloc_new _ _
            have hb2x : BoundsAt (W3.alloc (.cells #[.int .i64 0, .int .i64 p, .int .i64 v, .int .i64 0, .int .i64 p, .int .i64 0, .int .i64 (-v), .int .i64 0] 44)) (some ⟨W3.heap.size, 0, none⟩) [⟨0, p, v, 0⟩, ⟨p, 0, -v, 0⟩] := .inr ⟨_, _, rfl, by simp, fun i hi => by
              match i, hi with
              | 0, _ => exact ⟨by rw [cell_of_row _ _ _ _ _ _ y1]; rfl, by rw [cell_of_row _ _ _ _ _ _ y1]; rfl, by rw [cell_of_row _ _ _ _ _ _ y1]; rfl, by rw [cell_of_row _ _ _ _ _ _ y1]; rfl⟩
              | 1, _ => exact ⟨by rw [cell_of_row _ _ _ _ _ _ y1]; rfl, by rw [cell_of_row _ _ _ _ _ _ y1]; rfl, by rw [cell_of_row _ _ _ _ _ _ y1]; rfl, by rw [cell_of_row _ _ _ _ _ _ y1]; rfl⟩⟩
            obtain ⟨v2, W4, r4, p4, q4'⟩ := append_bounds (W3.alloc (.cells #[.int .i64 0, .int .i64 p, .int .i64 v, .int .i64 0, .int .i64 p, .int .i64 0, .int .i64 (-v), .int .i64 0] 44)) W2.heap.size v1 bs (World.ownsRow.alloc p3 _) (some ⟨W3.heap.size, 0, none⟩) 2 [⟨0, p, v, 0⟩, ⟨p, 0, -v, 0⟩] hb2x (by omega) (by simp) (Nat.le_trans bw3.size e3.size) 22
            rw [HXS.out] at p4
            have bw4 : Below W2.heap.size W2 W4 := bw3.trans ((e3.mono bw3.size).trans q4')
            obtain ⟨o1, k1, ev1, _, _⟩ := boundsAt_of_out (l := bs) p3
            subst ev1
            have ho2 : BoundsOut xs W2.heap.size v2 (W4.setCell ⟨w1.heap.size, 1, none⟩ v2) := ownsRow_setCell_below p4 (by exact lx) v2
            obtain ⟨o5, k5, ev2, hbx5, _⟩ := boundsAt_of_out ho2
            subst ev2
            have X4 := (bw4.block _ lx).trans X2.out
            have x40 : W4.cell? ⟨w1.heap.size, 1, none⟩ = some (.slice a bs.length cap) := by rw [cell_of_row _ _ _ _ _ _ X4]; rfl
            have x41 : W4.frozen? ⟨w1.heap.size, 1, none⟩ = false := frozen_of_row _ _ _ _ _ X4
            have X5 : Hid ((W4.setCell ⟨w1.heap.size, 1, none⟩ (.slice o5 xs.length k5)).heap[w1.heap.size]? = some (.cells #[.int .i64 (R : Int), .slice o5 xs.length k5] 24 (0,0))) := hidE ((heap_setCell_same _ _ _ _ _ _ X4).trans rfl)
            have B5 : Hid (Below w.heap.size w (W4.setCell ⟨w1.heap.size, 1, none⟩ (.slice o5 xs.length k5))) := hidE ((B2.out.trans (bw4.mono B2.out.size)).setCell (by exact B1.out.size) _)
            have BX5 := hidE hbx5
            have HR3 := hidE r3
            have HR4 := hidE r4
            clear hW2 bw2 e2 r3 p3 q3' bw3 e3 y1 hb2x r4 p4 q4' bw4 ho2 hbx5 X4 c0 c1 HXS
            go_upto_region 11 with (first
              | (at_builtin; refine wpList_op_append rfl (s := .tmp 42) (x := .tmp 44) (t := 22) rfl rfl rfl HR3.out ?_)
              | (at_builtin; refine wpList_op_append rfl (s := .tmp 45) (x := .tmp 53) (t := 22) rfl rfl rfl HR4.out ?_))
            obtain ⟨W5, hW5⟩ : ∃ X, X = W4.setCell ⟨w1.heap.size, 1, none⟩ (.slice o5 xs.length k5) := ⟨_, rfl⟩
            rw [← hW5] at X5 B5 BX5 ⊢
            clear hW5 x40 x41 d0
            have f0 : W5.cell? ⟨w1.heap.size, 0, none⟩ = some (.int .i64 (R : Int)) := by rw [cell_of_row _ _ _ _ _ _ X5.out]; rfl
            have f1 : W5.cell? ⟨w1.heap.size, 1, none⟩ = some (.slice o5 xs.length k5) := by rw [cell_of_row _ _ _ _ _ _ X5.out]; rfl
            go_wp2_with fail
            refine (refconsistent_any W5 R o5 k5 xs (by omega) (by omega) (by omega) BX5.out HXV.out).mono ?_
            rw [keptR_eq (by omega) HXV.out]
            unfold keptP
            rw [HQ.out]
            rintro e w6 ⟨rfl, hb6⟩
            have X6 := hidE (blk_below hb6 (lt_of_block X5.out) X5.out)
            have B6 := hidE (B5.out.trans (hb6.mono B5.out.size))
            have BX6 := hidE (BX5.out.below hb6 (Nat.le_refl _))
            clear f0 f1 hb6
            have g0 : w6.cell? ⟨w1.heap.size, 0, none⟩ = some (.int .i64 (R : Int)) := by rw [cell_of_row _ _ _ _ _ _ X6.out]; rfl
            have g1 : w6.cell? ⟨w1.heap.size, 1, none⟩ = some (.slice o5 xs.length k5) := by rw [cell_of_row _ _ _ _ _ _ X6.out]; rfl
            cases q with
            | none =>
              go_wp2_with fail
              go_ret3
              refine ⟨?_, B6.out⟩
              rw [HD.out]
              exact ⟨_, rfl, World.ownsRow_nil _ _ _ _⟩
            | some t =>
              have hso := refsome_any w6 R o5 k5 xs t (netOk_of_opened (by omega) (by omega) hxl HXV.out HQ.out) HQ.out h40 BX6.out
              have HSO := hidE hso
              have HV := hidE (show valuesP R xs = someP R (tableP R t xs) by unfold valuesP; rw [heightsP_of HQ.out])
              clear hso
              go_wp2_with fail
              refine HSO.out.mono ?_
              rintro e w7 ⟨⟨vv, rfl, ho⟩, hb7⟩
              have HO := hidE ho
              have B7 := hidE hb7
              clear ho hb7
              go_wp2_with fail
              go_ret3
              refine ⟨?_, B6.out.trans (B7.out.mono B6.out.size)⟩
              rw [HD.out]
              refine ⟨_, rfl, ?_⟩
              simp only [Option.isSome_some, if_true]
              rw [HV.out]
              exact ownsRow_base HO.out B6.out.size
      · have hr' : inR v (-1000000) 1000000 = false := by
          cases hh : inR v (-1000000) 1000000 with
          | false => rfl
          | true => exact absurd (inR_true.1 hh) hr
        have hd : throughE N bs p v = ([], false, 1) := by unfold throughE; rw [if_neg (by rw [HC0.out]; simp), if_neg (by rw [HP.out]; simp), if_pos hr']
        have HD := hidE hd
        clear hd hr'
        by_cases hlo : v < -1000000
        · have q3 : decide (v < -1000000) = true := decide_eq_true hlo
          go_enter Try.func60, Try.ntmps60
          go_wp2_with fail
          refine HCK.out.mono ?_
          rintro e w1 ⟨rfl, hb1⟩
          have X1 := hidE (blk_below hb1 (by simp) (heap_alloc_new w (.cells #[.int .i64 N, .slice a bs.length cap] 24)))
          have c0 : w1.cell? ⟨w.heap.size, 0, none⟩ = some (.int .i64 N) := by rw [cell_of_row _ _ _ _ _ _ X1.out]; rfl
          have c1 : w1.cell? ⟨w.heap.size, 1, none⟩ = some (.slice a bs.length cap) := by rw [cell_of_row _ _ _ _ _ _ X1.out]; rfl
          have B1 := hidE (hB0.trans (hb1.mono hB0.size))
          clear hb1
          go_wp2_with fail
          go_ret3
          refine ⟨?_, B1.out⟩
          rw [HD.out]
          exact ⟨_, rfl, World.ownsRow_nil _ _ _ _⟩
        · have q3 : decide (v < -1000000) = false := decide_eq_false hlo
          have q4 : decide (v > 1000000) = true := decide_eq_true (by omega)
          go_enter Try.func60, Try.ntmps60
          go_wp2_with fail
          refine HCK.out.mono ?_
          rintro e w1 ⟨rfl, hb1⟩
          have X1 := hidE (blk_below hb1 (by simp) (heap_alloc_new w (.cells #[.int .i64 N, .slice a bs.length cap] 24)))
          have c0 : w1.cell? ⟨w.heap.size, 0, none⟩ = some (.int .i64 N) := by rw [cell_of_row _ _ _ _ _ _ X1.out]; rfl
          have c1 : w1.cell? ⟨w.heap.size, 1, none⟩ = some (.slice a bs.length cap) := by rw [cell_of_row _ _ _ _ _ _ X1.out]; rfl
          have B1 := hidE (hB0.trans (hb1.mono hB0.size))
          clear hb1
          go_wp2_with fail
          go_ret3
          refine ⟨?_, B1.out⟩
          rw [HD.out]
          exact ⟨_, rfl, World.ownsRow_nil _ _ _ _⟩
    · have hpp : pointP N [p] = 1 := by
        unfold pointP
        rw [if_pos]
        have : inR p 0 (N - 1) = false := by
          cases hh : inR p 0 (N - 1) with
          | false => rfl
          | true => exact absurd (by have := inR_true.1 hh; omega) hp
        simp [this]
      have hd : throughE N bs p v = ([], false, 1) := by unfold throughE; rw [if_neg (by rw [HC0.out]; simp), if_pos (by rw [hpp]; simp), hpp]
      have HD := hidE hd
      clear hd hpp
      by_cases hlo : p < 0
      · have q1 : decide (p < 0) = true := decide_eq_true hlo
        go_enter Try.func60, Try.ntmps60
        go_wp2_with fail
        refine HCK.out.mono ?_
        rintro e w1 ⟨rfl, hb1⟩
        have X1 := hidE (blk_below hb1 (by simp) (heap_alloc_new w (.cells #[.int .i64 N, .slice a bs.length cap] 24)))
        have c0 : w1.cell? ⟨w.heap.size, 0, none⟩ = some (.int .i64 N) := by rw [cell_of_row _ _ _ _ _ _ X1.out]; rfl
        have c1 : w1.cell? ⟨w.heap.size, 1, none⟩ = some (.slice a bs.length cap) := by rw [cell_of_row _ _ _ _ _ _ X1.out]; rfl
        have B1 := hidE (hB0.trans (hb1.mono hB0.size))
        clear hb1
        go_wp2_with fail
        go_ret3
        refine ⟨?_, B1.out⟩
        rw [HD.out]
        exact ⟨_, rfl, World.ownsRow_nil _ _ _ _⟩
      · have q1 : decide (p < 0) = false := decide_eq_false hlo
        have q2 : decide (p ≥ N) = true := decide_eq_true (by omega)
        go_enter Try.func60, Try.ntmps60
        go_wp2_with fail
        refine HCK.out.mono ?_
        rintro e w1 ⟨rfl, hb1⟩
        have X1 := hidE (blk_below hb1 (by simp) (heap_alloc_new w (.cells #[.int .i64 N, .slice a bs.length cap] 24)))
        have c0 : w1.cell? ⟨w.heap.size, 0, none⟩ = some (.int .i64 N) := by rw [cell_of_row _ _ _ _ _ _ X1.out]; rfl
        have c1 : w1.cell? ⟨w.heap.size, 1, none⟩ = some (.slice a bs.length cap) := by rw [cell_of_row _ _ _ _ _ _ X1.out]; rfl
        have B1 := hidE (hB0.trans (hb1.mono hB0.size))
        clear hb1
        go_wp2_with fail
        go_ret3
        refine ⟨?_, B1.out⟩
        rw [HD.out]
        exact ⟨_, rfl, World.ownsRow_nil _ _ _ _⟩
  · have hd : throughE N bs p v = ([], false, checkP N bs) := by unfold throughE; rw [if_pos hc]
    obtain ⟨c, hcc⟩ : ∃ c, checkP N bs = c := ⟨_, rfl⟩
    rw [hcc] at hd hc hck
    have hc2 : (c != 0) = true := by simpa using hc
    have HCK := hidE hck
    have HD := hidE hd
    clear hd hc hck hcc hN
    go_enter Try.func60, Try.ntmps60
    go_wp2_with fail
    refine HCK.out.mono ?_
    rintro e w1 ⟨rfl, hb1⟩
    have X1 := hidE (blk_below hb1 (by simp) (heap_alloc_new w (.cells #[.int .i64 N, .slice a bs.length cap] 24)))
    have c0 : w1.cell? ⟨w.heap.size, 0, none⟩ = some (.int .i64 N) := by rw [cell_of_row _ _ _ _ _ _ X1.out]; rfl
    have c1 : w1.cell? ⟨w.heap.size, 1, none⟩ = some (.slice a bs.length cap) := by rw [cell_of_row _ _ _ _ _ _ X1.out]; rfl
    have B1 := hidE (hB0.trans (hb1.mono hB0.size))
    clear hb1
    go_wp2_with fail
    go_ret3
    refine ⟨?_, B1.out⟩
    rw [HD.out]
    exact ⟨_, rfl, World.ownsRow_nil _ _ _ _⟩

end Go.Proofs.Ytejbpoclfjkllaa
