/- Walks: the reference's Check, has, Few, some, few. -/
import Derived.Test.YthcmjhellpjllaaGreatA5
namespace Go.Proofs.YthcmjhellpjllaaGreat
open Go Go.RowKit Go.Shelf

theorem refwithin_at {n a b : Int} {r : Bool} (h : inR n a b = r) (w : World) : Calls Tryz.prog 28 #[.int .i64 n, .int .i64 a, .int .i64 b] w fun e w' => e = .returned (.bool r) ∧ w = w' := by
  rw [← h]; exact refwithin_any n a b w

theorem checkP_bad {N : Int} {bs : List Bd} (h1 : ¬ 128 < N) (h2 : ¬ 2000 < bs.length) (h3 : ¬ N < 1) {k : Nat} (hk : k < bs.length) (hb : badB N bs[k] = true) : checkP N bs = 1 := by
  rw [checkP, if_neg (by omega), checkedP, if_neg h3, any_of_at hk hb]; rfl

set_option maxHeartbeats 2000000 in
theorem refcheck_any (w : World) (N : Int) (a : Option Addr) (cap : Nat) (bs : List Bd) (hN : i64ok N) (hl : bs.length ≤ 9223372036854775807) (h : BoundsAt w a bs) :
    Calls Tryz.prog 57 #[.agg #[.int .i64 N, .slice a bs.length cap]] w fun e w' => e = .returned (.int .i64 (checkP N bs)) ∧ Below w.heap.size w w' := by
  unfold i64ok at hN
  by_cases h1 : 128 < N
  · have e : checkP N bs = 2 := by simp [checkP, h1]
    have E := hidE e
    have hd : decide (N > 128) = true := by simpa using h1
    clear e
    go_enter Tryz.func57, Tryz.ntmps57
    go_wp2
    go_ret
    exact ⟨by rw [E.out]; rfl, by go_grown⟩
  have hd1 : decide (N > 128) = false := by simpa using h1
  by_cases h2 : 2000 < bs.length
  · have e : checkP N bs = 2 := by simp [checkP, h2]
    have E := hidE e
    have hd : decide ((bs.length : Int) > 2000) = true := by simp; omega
    clear e
    go_enter Tryz.func57, Tryz.ntmps57
    go_wp2
    go_ret
    exact ⟨by rw [E.out]; rfl, by go_grown⟩
  have hd2 : decide ((bs.length : Int) > 2000) = false := by simp; omega
  by_cases h3 : N < 1
  · have e : checkP N bs = 1 := by rw [checkP, if_neg (by omega), checkedP, if_pos h3]
    have E := hidE e
    clear e
    go_enter Tryz.func57, Tryz.ntmps57
    go_wp2
    go_ret
    exact ⟨by rw [E.out]; rfl, by go_grown⟩
  have hw1 : IntKind.i64.wrap (N - 1) = N - 1 := IntWalk.i64_in _ (by omega)
  go_enter Tryz.func57, Tryz.ntmps57
  go_wp2
  go_loopw [3] (fun i wr => ∃ k : Nat, k ≤ bs.length ∧ i = .int .i64 k ∧ Hid ((bs.take k).any (badB N) = false) ∧ Hid (wr.heap[w.heap.size]? = some (.cells #[.int .i64 N, .slice a bs.length cap] 24 (0,0))) ∧ Below w.heap.size w wr)
      (fun i _ => bs.length - (intOf i).toNat)
  case atStart => exact ⟨0, by omega, rfl, hidE rfl, hidE (heap_alloc_new _ _), by go_grown⟩
  case round =>
    obtain ⟨k, hk, rfl, HA, HS, hb⟩ := hrel
    have hc0 : wr.cell? ⟨w.heap.size, 0, none⟩ = some (.int .i64 N) := by rw [cell_of_row _ _ _ _ _ _ HS.out]; rfl
    have hc1 : wr.cell? ⟨w.heap.size, 1, none⟩ = some (.slice a bs.length cap) := by rw [cell_of_row _ _ _ _ _ _ HS.out]; rfl
    have hsz : w.heap.size < wr.heap.size := lt_of_block HS.out
    by_cases hlt : k < bs.length
    · obtain ⟨b, off, rfl, hbl, hcs⟩ := h.at hlt
      obtain ⟨c0, c1, c2, c3⟩ := hcs.below hb hbl
      obtain ⟨x, hx⟩ : ∃ x, bs[k] = x := ⟨_, rfl⟩
      rw [hx] at c0 c1 c2 c3
      have hbad : badB N bs[k] = (!inR x.src 0 (N - 1) || !inR x.dst 0 (N - 1) || x.src == x.dst || !inR x.most (-1000000) 1000000 || !inR x.rcd 0 1000000) := by rw [hx]; rfl
      obtain ⟨r1, q1⟩ : ∃ r, inR x.src 0 (N - 1) = r := ⟨_, rfl⟩
      obtain ⟨r2, q2⟩ : ∃ r, inR x.dst 0 (N - 1) = r := ⟨_, rfl⟩
      obtain ⟨r3, q3⟩ : ∃ r, inR x.most (-1000000) 1000000 = r := ⟨_, rfl⟩
      obtain ⟨r4, q4⟩ : ∃ r, inR x.rcd 0 1000000 = r := ⟨_, rfl⟩
      rw [q1, q2, q3, q4] at hbad
      have HH := hidE h
      have HB := hidE hbad
      have Q1 := hidE q1
      have Q2 := hidE q2
      have Q3 := hidE q3
      have Q4 := hidE q4
      obtain ⟨xs, xd, xm, xr⟩ := x
      simp only at c0 c1 c2 c3
      clear hcs h hx hbad q1 q2 q3 q4
      have stay : badB N bs[k] = false → ∃ k' : Nat, k' ≤ bs.length ∧ Value.int .i64 ((k : Int) + 1) = .int .i64 k' ∧ Hid ((bs.take k').any (badB N) = false) := fun hf => ⟨k + 1, by omega, by go_num, hidE (take_any_succ hlt HA.out hf)⟩
      have ST := hidE stay
      have CB := hidE (fun hf : badB N bs[k] = true => checkP_bad (by omega) (by omega) (by omega) hlt hf)
      clear stay
      cases r1 with
      | false =>
        go_wp2_with (go_at_call 28; first | ((with_reducible refine (refwithin_at Q1.out _).mono ?_); rintro e w' ⟨rfl, rfl⟩))
        go_ret
        exact ⟨by rw [CB.out (by rw [HB.out]; rfl)]; rfl, by go_grown⟩
      | true =>
        cases r2 with
        | false =>
          go_wp2_with (go_at_call 28; first | ((with_reducible refine (refwithin_at Q1.out _).mono ?_); rintro e w' ⟨rfl, rfl⟩) | ((with_reducible refine (refwithin_at Q2.out _).mono ?_); rintro e w' ⟨rfl, rfl⟩))
          go_ret
          exact ⟨by rw [CB.out (by rw [HB.out]; rfl)]; rfl, by go_grown⟩
        | true =>
          cases r3 with
          | false =>
            go_wp2_with (go_at_call 28; first | ((with_reducible refine (refwithin_at Q1.out _).mono ?_); rintro e w' ⟨rfl, rfl⟩) | ((with_reducible refine (refwithin_at Q2.out _).mono ?_); rintro e w' ⟨rfl, rfl⟩) | ((with_reducible refine (refwithin_at Q3.out _).mono ?_); rintro e w' ⟨rfl, rfl⟩))
            go_ret
            exact ⟨by rw [CB.out (by rw [HB.out]; simp)]; rfl, by go_grown⟩
          | true =>
            cases r4 with
            | false =>
              go_wp2_with (go_at_call 28; first | ((with_reducible refine (refwithin_at Q1.out _).mono ?_); rintro e w' ⟨rfl, rfl⟩) | ((with_reducible refine (refwithin_at Q2.out _).mono ?_); rintro e w' ⟨rfl, rfl⟩) | ((with_reducible refine (refwithin_at Q3.out _).mono ?_); rintro e w' ⟨rfl, rfl⟩) | ((with_reducible refine (refwithin_at Q4.out _).mono ?_); rintro e w' ⟨rfl, rfl⟩))
              go_ret
              exact ⟨by rw [CB.out (by rw [HB.out]; simp)]; rfl, by go_grown⟩
            | true =>
              by_cases he : xs = xd
              · have hbe : (xs == xd) = true := by simpa using he
                have HBE := hidE hbe
                go_wp2_with (go_at_call 28; first | ((with_reducible refine (refwithin_at Q1.out _).mono ?_); rintro e w' ⟨rfl, rfl⟩) | ((with_reducible refine (refwithin_at Q2.out _).mono ?_); rintro e w' ⟨rfl, rfl⟩) | ((with_reducible refine (refwithin_at Q3.out _).mono ?_); rintro e w' ⟨rfl, rfl⟩) | ((with_reducible refine (refwithin_at Q4.out _).mono ?_); rintro e w' ⟨rfl, rfl⟩))
                go_ret
                exact ⟨by rw [CB.out (by rw [HB.out, HBE.out]; simp)]; rfl, by go_grown⟩
              · have hbe : (xs == xd) = false := by simpa using he
                have HBE := hidE hbe
                go_wp2_with (go_at_call 28; first | ((with_reducible refine (refwithin_at Q1.out _).mono ?_); rintro e w' ⟨rfl, rfl⟩) | ((with_reducible refine (refwithin_at Q2.out _).mono ?_); rintro e w' ⟨rfl, rfl⟩) | ((with_reducible refine (refwithin_at Q3.out _).mono ?_); rintro e w' ⟨rfl, rfl⟩) | ((with_reducible refine (refwithin_at Q4.out _).mono ?_); rintro e w' ⟨rfl, rfl⟩))
                go_roundw
                case rel =>
                  obtain ⟨k', g1, g2, g3⟩ := ST.out (by rw [HB.out, HBE.out]; rfl)
                  exact ⟨k', g1, g2, g3, hidE ((Below.heap_alloc _ _ _ hsz).trans HS.out), by go_grown⟩
                case measure => simp [intOf]; omega
    · have e : checkP N bs = 0 := by rw [checkP, if_neg (by omega), checkedP, if_neg (by omega), any_of_take (by omega) HA.out]; rfl
      have E := hidE e
      clear e
      go_wp2
      go_ret
      exact ⟨by rw [E.out]; rfl, hb⟩

/-- has: a list contains a number. -/
theorem take_contains_succ {l : List Int} {k : Nat} {n : Int} (hk : k < l.length) (h0 : (l.take k).contains n = false) (h1 : l[k] ≠ n) : (l.take (k + 1)).contains n = false := by
  rw [List.take_succ_eq_append_getElem hk]
  cases hq : (l.take k ++ [l[k]]).contains n with
  | false => rfl
  | true =>
    rw [List.contains_iff_mem] at hq
    rcases List.mem_append.1 hq with e | e
    · rw [← List.contains_iff_mem, h0] at e; simp at e
    · exact absurd (List.mem_singleton.1 e).symm h1

end Go.Proofs.YthcmjhellpjllaaGreat
