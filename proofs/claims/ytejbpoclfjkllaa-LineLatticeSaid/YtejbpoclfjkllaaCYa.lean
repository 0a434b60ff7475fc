/- Walks: the reference's Distance, span, Between, Range. Conditions: at most 40 points where the system is checked. -/
import Derived.Test.YtejbpoclfjkllaaCY8b
import Derived.Test.YtejbpoclfjkllaaA3b
namespace Go.Proofs.Ytejbpoclfjkllaa
open Go Go.RowKit Go.Shelf

theorem matrix_net (w : World) (R : Nat) (a : Option Addr) (cap : Nat) (bs : List Bd) (t : List Int) (H : NetOk R bs t) (h40 : R ≤ 40) (hB : BoundsAt w a bs) :
    Calls Try.prog 92 #[.agg #[.int .i64 (R : Int), .slice a bs.length cap]] w fun e w' => e = .returned (.slice (some ⟨w.heap.size + 1, 0, none⟩) R R) ∧ MatAt w' (w.heap.size + 1) R (matrixP R bs) ∧ Below w.heap.size w w' :=
  matrix_any w R a cap bs H.n0 h40 (by have := H.len; omega) hB H.valid H.noNeg
theorem matrix_dim {R : Nat} {bs : List Bd} {t : List Int} (H : NetOk R bs t) : Dim R (matrixP R bs) := (pivS_ok H.valid H.noNeg (Nat.le_refl R)).1
theorem matrix_size {R : Nat} {bs : List Bd} {t : List Int} (H : NetOk R bs t) (h40 : R ≤ 40) {i j : Nat} (hi : i < R) (hj : j < R) : -2000000000000000000 ≤ (mget (matrixP R bs) i j).s ∧ (mget (matrixP R bs) i j).s ≤ 2000000000000000000 := by
  have h := pivS_bd H.valid H.noNeg R (Nat.le_refl R) i j hi hj
  have hp := pow2_le R 40 h40
  rw [pow2_40] at hp
  have hp0 := pow2_pos R
  have e : pivS R bs R = matrixP R bs := rfl
  rw [e] at h
  omega

set_option maxRecDepth 100000 in
set_option maxHeartbeats 1000000 in
theorem refdistance_any (w : World) (N : Int) (a : Option Addr) (cap : Nat) (bs : List Bd) (x y : Int) (hN : i64ok N) (hl : bs.length ≤ 9223372036854775807) (h : BoundsAt w a bs) (hsm : checkP N bs = 0 → N ≤ 40) :
    Calls Try.prog 40 #[.agg #[.int .i64 N, .slice a bs.length cap], .int .i64 x, .int .i64 y] w fun e w' => e = .returned (.tuple #[.int .i64 (distanceP N bs x y).1, .bool (distanceP N bs x y).2.1, .int .i64 (distanceP N bs x y).2.2]) ∧ Below w.heap.size w w' := by
  have H := hidE h
  have HN := hidE hN
  clear h hN
  have hB0 : Below w.heap.size w ((w.alloc (.cells #[.int .i64 N, .slice a bs.length cap] 24)).alloc (.cells #[.int .i64 x, .int .i64 y] 3)) := ((Below.refl _ _).alloc (Nat.le_refl _) _).alloc (by simp) _
  have hx0 : ((w.alloc (.cells #[.int .i64 N, .slice a bs.length cap] 24)).alloc (.cells #[.int .i64 x, .int .i64 y] 3)).heap[w.heap.size]? = some (.cells #[.int .i64 N, .slice a bs.length cap] 24 (0,0)) :=
    (Below.heap_alloc _ _ _ (by simp)).trans (heap_alloc_new _ _)
  have hints := ints_two (w.alloc (.cells #[.int .i64 N, .slice a bs.length cap] 24)) x y
  simp only [World.size_alloc] at hints
  have hask : Calls Try.prog 90 #[.agg #[.int .i64 N, .slice a bs.length cap], .slice (some ⟨w.heap.size + 1, 0, none⟩) 2 2] ((w.alloc (.cells #[.int .i64 N, .slice a bs.length cap] 24)).alloc (.cells #[.int .i64 x, .int .i64 y] 3)) _ :=
    pointed_any _ N a cap bs (some ⟨w.heap.size + 1, 0, none⟩) 2 [x, y] HN.out hl (by simp) ((H.out.alloc (.cells #[.int .i64 N, .slice a bs.length cap] 24)).alloc (.cells #[.int .i64 x, .int .i64 y] 3)) hints
  have X0 := hidE hx0
  clear hints hx0
  by_cases he : askedE N bs [x, y] = 0
  · have h40 := hsm (askedE_zero he).1
    obtain ⟨R, x', y', t, rfl, rfl, rfl, hx, hy, ht, HO⟩ := asked2 he
    have h40' : R ≤ 40 := by omega
    rw [he] at hask
    have hd : distanceP R bs x' y' = (frV (mget (matrixP R bs) x' y'), (mget (matrixP R bs) x' y').ok, 0) := by
      unfold distanceP; rw [if_pos he]; simp only [Int.toNat_natCast]; rw [(frV_dist HO ht hx hy).1, (frV_dist HO ht hx hy).2]
    have hdim := matrix_dim HO
    obtain ⟨d, hdd⟩ : ∃ d, matrixP R bs = d := ⟨_, rfl⟩
    have hmat := fun W hb => matrix_net W R a cap bs t HO h40' hb
    rw [hdd] at hd hdim hmat
    obtain ⟨⟨ms, mo⟩, hmm⟩ : ∃ m, mget d x' y' = m := ⟨_, rfl⟩
    rw [hmm] at hd
    have xR : (x' : Int) < (R : Int) := by omega
    have yR : (y' : Int) < (R : Int) := by omega
    have HD := hidE hd
    have HM := hidE hmat
    have HMM := hidE hmm
    have HA := hidE hask
    have HDI := hidE hdim
    clear hd hmat hmm hask hdd he ht hdim HO
    go_enter Try.func40, Try.ntmps40
    go_wp2_with fail
    refine HA.out.mono ?_
    rintro e w1 ⟨rfl, hb1⟩
    have x1 := blk_below hb1 (by simp; omega) X0.out
    have e0 : w1.cell? ⟨w.heap.size, 0, none⟩ = some (.int .i64 (R : Int)) := by rw [cell_of_row _ _ _ _ _ _ x1]; rfl
    have e1 : w1.cell? ⟨w.heap.size, 1, none⟩ = some (.slice a bs.length cap) := by rw [cell_of_row _ _ _ _ _ _ x1]; rfl
    have B1 := hidE (hB0.trans (hb1.mono hB0.size))
    clear x1 hb1
    go_wp2_with fail
    refine (HM.out _ (H.out.below B1.out (Nat.le_refl _))).mono ?_
    rintro e w2 ⟨rfl, hm, hb2⟩
    have q0 := hm.slot hx
    obtain ⟨q1, q2, _⟩ := hm.cells HDI.out hx hy
    rw [HMM.out] at q1 q2
    have B2 := hidE (B1.out.trans (hb2.mono B1.out.size))
    clear hb2 e0 e1 hm
    cases mo with
    | false =>
      go_wp2_with fail
      go_ret3
      exact ⟨by rw [HD.out]; rfl, by first | exact B2.out.alloc B2.out.size _ | (have := B2.out; go_grown)⟩
    | true =>
      go_wp2_with fail
      go_ret3
      exact ⟨by rw [HD.out]; rfl, by first | exact B2.out.alloc B2.out.size _ | (have := B2.out; go_grown)⟩
  · have hd : distanceP N bs x y = (0, false, askedE N bs [x, y]) := by unfold distanceP; rw [if_neg he]
    obtain ⟨c, hc⟩ : ∃ c, askedE N bs [x, y] = c := ⟨_, rfl⟩
    rw [hc] at hd hask he
    have hc2 : (c != 0) = true := by simpa using he
    have HD := hidE hd
    have HA := hidE hask
    clear hd he hc hask
    go_enter Try.func40, Try.ntmps40
    go_wp2_with fail
    refine HA.out.mono ?_
    rintro e w1 ⟨rfl, hb1⟩
    go_wp2_with fail
    go_ret3
    exact ⟨by rw [HD.out]; rfl, hB0.trans (hb1.mono hB0.size)⟩

/-- What stands while the reference's span is filled. -/
structure SpSt (w W : World) (B R : Nat) (d : List (List Fr)) (c : Array Value) : Prop where
  x6 : W.heap[w.heap.size]? = some (.cells #[.int .i64 0, .int .i64 0, .bool false, .bool false] 33 (0,0))
  x7 : W.heap[w.heap.size + 1]? = some (.cells c 33 (0,0))
  mat : MatAt W B R d
  lB : B < w.heap.size
  lr : ∀ i, i < R → B + 1 + i < w.heap.size
  bl : Below w.heap.size w W
theorem SpSt.set {w W : World} {B R : Nat} {d : List (List Fr)} {c : Array Value} (h : SpSt w W B R d c) (i : Nat) (v : Value) : SpSt w (W.setCell ⟨w.heap.size + 1, i, none⟩ v) B R d (c.setIfInBounds i v) :=
  ⟨by rw [heap_setCell_other _ _ _ _ (by simp)]; exact h.x6, heap_setCell_same _ _ _ _ _ _ h.x7,
    ⟨by rw [heap_setCell_other _ _ _ _ (by have := h.lB; simp; omega)]; exact h.mat.out, fun k hk => by rw [heap_setCell_other _ _ _ _ (by have := h.lr k hk; simp; omega)]; exact h.mat.row k hk⟩, h.lB, h.lr, h.bl.setCell (by simp) _⟩

set_option maxRecDepth 100000 in
set_option maxHeartbeats 1000000 in
theorem refspan_any (w : World) (B R : Nat) (d : List (List Fr)) (x y : Nat) (hm : MatAt w B R d) (hd : Dim R d) (hx : x < R) (hy : y < R) (hb0 : -2000000000000000000 ≤ (mget d y x).s) (hb1 : (mget d y x).s ≤ 2000000000000000000) :
    Calls Try.prog 91 #[.slice (some ⟨B, 0, none⟩) R R, .int .i64 (x : Int), .int .i64 (y : Int)] w fun e w' => e = .returned (.agg (spanR d x y).arr) ∧ Below w.heap.size w w' := by
  obtain ⟨W1, hW1⟩ : ∃ W1, W1 = (w.alloc (.cells #[.int .i64 0, .int .i64 0, .bool false, .bool false] 33)).alloc (.cells #[.int .i64 0, .int .i64 0, .bool false, .bool false] 33) := ⟨_, rfl⟩
  have hbl : Below w.heap.size w W1 := by rw [hW1]; exact ((Below.refl _ _).alloc (Nat.le_refl _) _).alloc (by simp) _
  have st1 : SpSt w W1 B R d #[.int .i64 0, .int .i64 0, .bool false, .bool false] :=
    ⟨by rw [hW1, Below.heap_alloc _ _ _ (by simp), heap_alloc_new], by rw [hW1, heap_alloc_at _ _ _ (by simp)], hm.below hbl, lt_of_block hm.out, fun i hi => lt_of_block (hm.row i hi), hbl⟩
  obtain ⟨⟨s1, o1⟩, h1⟩ : ∃ m, mget d x y = m := ⟨_, rfl⟩
  obtain ⟨⟨s2, o2⟩, h2⟩ : ∃ m, mget d y x = m := ⟨_, rfl⟩
  have hs : spanR d x y = ⟨-frV ⟨s2, o2⟩, frV ⟨s1, o1⟩, o2, o1⟩ := by unfold spanR; rw [h1, h2]
  rw [h2] at hb0 hb1
  simp only at hb0 hb1
  have hw : IntKind.i64.wrap (-s2) = -s2 := IntWalk.i64_in _ (by omega)
  have xR : (x : Int) < (R : Int) := by omega
  have yR : (y : Int) < (R : Int) := by omega
  have HS := hidE hs
  have ST1 := hidE st1
  have HW1 := hidE hW1
  have H1 := hidE h1
  have H2 := hidE h2
  have HDI := hidE hd
  clear hs st1 hW1 h1 h2 hd hm hbl
  have facts : ∀ (W : World) (c : Array Value), SpSt w W B R d c → W.cell? ⟨B, x, none⟩ = some (.slice (some ⟨B + 1 + x, 0, none⟩) R R) ∧ W.cell? ⟨B, y, none⟩ = some (.slice (some ⟨B + 1 + y, 0, none⟩) R R) ∧
      W.cell? ⟨B + 1 + x, y * 2, none⟩ = some (.int .i64 s1) ∧ W.cell? ⟨B + 1 + x, y * 2 + 1, none⟩ = some (.bool o1) ∧ W.cell? ⟨B + 1 + y, x * 2, none⟩ = some (.int .i64 s2) ∧ W.cell? ⟨B + 1 + y, x * 2 + 1, none⟩ = some (.bool o2) := by
    intro W c h
    have c1 := h.mat.cells HDI.out hx hy
    have c2 := h.mat.cells HDI.out hy hx
    rw [H1.out] at c1
    rw [H2.out] at c2
    exact ⟨h.mat.slot hx, h.mat.slot hy, c1.1, c1.2.1, c2.1, c2.2.1⟩
  have fin : ∀ (W : World) (u0 u1 u2 u3 : Value), SpSt w W B R d #[u0, u1, u2, u3] → W.cell? ⟨w.heap.size, 0, none⟩ = some (.int .i64 0) ∧ W.cell? ⟨w.heap.size, 1, none⟩ = some (.int .i64 0) ∧ W.cell? ⟨w.heap.size, 2, none⟩ = some (.bool false) ∧ W.cell? ⟨w.heap.size, 3, none⟩ = some (.bool false) ∧ (∀ i, W.frozen? ⟨w.heap.size, i, none⟩ = false) ∧
      W.cell? ⟨w.heap.size + 1, 0, none⟩ = some u0 ∧ W.cell? ⟨w.heap.size + 1, 1, none⟩ = some u1 ∧ W.cell? ⟨w.heap.size + 1, 2, none⟩ = some u2 ∧ W.cell? ⟨w.heap.size + 1, 3, none⟩ = some u3 ∧ (∀ i, W.frozen? ⟨w.heap.size + 1, i, none⟩ = false) := by
    intro W u0 u1 u2 u3 h
    refine ⟨?_, ?_, ?_, ?_, fun i => frozen_of_row _ _ _ _ _ h.x6, ?_, ?_, ?_, ?_, fun i => frozen_of_row _ _ _ _ _ h.x7⟩
    · rw [cell_of_row _ _ _ _ _ _ h.x6]; rfl
    · rw [cell_of_row _ _ _ _ _ _ h.x6]; rfl
    · rw [cell_of_row _ _ _ _ _ _ h.x6]; rfl
    · rw [cell_of_row _ _ _ _ _ _ h.x6]; rfl
    · rw [cell_of_row _ _ _ _ _ _ h.x7]; rfl
    · rw [cell_of_row _ _ _ _ _ _ h.x7]; rfl
    · rw [cell_of_row _ _ _ _ _ _ h.x7]; rfl
    · rw [cell_of_row _ _ _ _ _ _ h.x7]; rfl
  have HFA := hidE facts
  have HFI := hidE fin
  clear facts fin
  go_enter Try.func91, Try.ntmps91
  go_upto_region 2 with fail
  rw [← HW1.out]
  obtain ⟨p0, p1, p2, p3, p4, p5⟩ := HFA.out _ _ ST1.out
  obtain ⟨g0, g1, g2, g3, g4, g5, g6, g7, g8, g9⟩ := HFI.out _ _ _ _ _ ST1.out
  have second : ∀ (W : World) (hv : Int) (hb : Bool), SpSt w W B R d #[.int .i64 0, .int .i64 hv, .bool false, .bool hb] → True := fun _ _ _ _ => trivial
  clear second
  cases o1 with
  | false =>
    cases o2 with
    | false =>
      go_upto_region 8 with fail
      go_wp2_with fail
      refine bodyPost_ret (v := .agg #[.int .i64 0, .int .i64 0, .bool false, .bool false]) (by simp [results, Try.results91, go_sem, g0, g1, g2, g3]) rfl ⟨by rw [HS.out]; rfl, ?_⟩
      exact (((ST1.out.bl.setCell (by simp) _).setCell (by simp) _).setCell (by simp) _).setCell (by simp) _
    | true =>
      go_upto_region 8 with fail
      obtain ⟨W4, hW4⟩ : ∃ W4, W4 = (W1.setCell ⟨w.heap.size + 1, 0, none⟩ (.int .i64 (-s2))).setCell ⟨w.heap.size + 1, 2, none⟩ (.bool true) := ⟨_, rfl⟩
      rw [← hW4]
      have st4 : SpSt w W4 B R d #[.int .i64 (-s2), .int .i64 0, .bool true, .bool false] := by rw [hW4]; exact (ST1.out.set 0 _).set 2 _
      clear g0 g1 g2 g3 g4 g5 g6 g7 g8 g9 p0 p1 p2 p3 p4 p5 hW4
      obtain ⟨g0, g1, g2, g3, g4, g5, g6, g7, g8, g9⟩ := HFI.out _ _ _ _ _ st4
      have B4 := hidE st4.bl
      clear st4
      go_wp2_with fail
      refine bodyPost_ret (v := .agg #[.int .i64 (-s2), .int .i64 0, .bool true, .bool false]) (by simp [results, Try.results91, go_sem, g0, g1, g2, g3]) rfl ⟨by rw [HS.out]; rfl, ?_⟩
      exact (((B4.out.setCell (by simp) _).setCell (by simp) _).setCell (by simp) _).setCell (by simp) _
  | true =>
    go_upto_region 5 with fail
    obtain ⟨W3, hW3⟩ : ∃ W3, W3 = (W1.setCell ⟨w.heap.size + 1, 1, none⟩ (.int .i64 s1)).setCell ⟨w.heap.size + 1, 3, none⟩ (.bool true) := ⟨_, rfl⟩
    rw [← hW3]
    have st3 : SpSt w W3 B R d #[.int .i64 0, .int .i64 s1, .bool false, .bool true] := by rw [hW3]; exact (ST1.out.set 1 _).set 3 _
    clear g0 g1 g2 g3 g4 g5 g6 g7 g8 g9 p0 p1 p2 p3 p4 p5 hW3
    obtain ⟨p0, p1, p2, p3, p4, p5⟩ := HFA.out _ _ st3
    obtain ⟨g0, g1, g2, g3, g4, g5, g6, g7, g8, g9⟩ := HFI.out _ _ _ _ _ st3
    have ST3 := hidE st3
    clear st3
    cases o2 with
    | false =>
      go_upto_region 8 with fail
      go_wp2_with fail
      refine bodyPost_ret (v := .agg #[.int .i64 0, .int .i64 s1, .bool false, .bool true]) (by simp [results, Try.results91, go_sem, g0, g1, g2, g3]) rfl ⟨by rw [HS.out]; rfl, ?_⟩
      exact (((ST3.out.bl.setCell (by simp) _).setCell (by simp) _).setCell (by simp) _).setCell (by simp) _
    | true =>
      go_upto_region 8 with fail
      obtain ⟨W4, hW4⟩ : ∃ W4, W4 = (W3.setCell ⟨w.heap.size + 1, 0, none⟩ (.int .i64 (-s2))).setCell ⟨w.heap.size + 1, 2, none⟩ (.bool true) := ⟨_, rfl⟩
      rw [← hW4]
      have st4 : SpSt w W4 B R d #[.int .i64 (-s2), .int .i64 s1, .bool true, .bool true] := by rw [hW4]; exact (ST3.out.set 0 _).set 2 _
      clear g0 g1 g2 g3 g4 g5 g6 g7 g8 g9 p0 p1 p2 p3 p4 p5 hW4
      obtain ⟨g0, g1, g2, g3, g4, g5, g6, g7, g8, g9⟩ := HFI.out _ _ _ _ _ st4
      have B4 := hidE st4.bl
      clear st4
      go_wp2_with fail
      refine bodyPost_ret (v := .agg #[.int .i64 (-s2), .int .i64 s1, .bool true, .bool true]) (by simp [results, Try.results91, go_sem, g0, g1, g2, g3]) rfl ⟨by rw [HS.out]; rfl, ?_⟩
      exact (((B4.out.setCell (by simp) _).setCell (by simp) _).setCell (by simp) _).setCell (by simp) _

set_option maxRecDepth 100000 in
set_option maxHeartbeats 1000000 in
theorem refbetween_any (w : World) (N : Int) (a : Option Addr) (cap : Nat) (bs : List Bd) (x y : Int) (hN : i64ok N) (hl : bs.length ≤ 9223372036854775807) (h : BoundsAt w a bs) (hsm : checkP N bs = 0 → N ≤ 40) :
    Calls Try.prog 33 #[.agg #[.int .i64 N, .slice a bs.length cap], .int .i64 x, .int .i64 y] w fun e w' => e = .returned (.tuple #[.agg (betweenP N bs x y).1.arr, .int .i64 (betweenP N bs x y).2]) ∧ Below w.heap.size w w' := by
  have H := hidE h
  have HN := hidE hN
  clear h hN
  have hB0 : Below w.heap.size w (((w.alloc (.cells #[.int .i64 N, .slice a bs.length cap] 24)).alloc (.cells #[.int .i64 0, .int .i64 0, .bool false, .bool false] 33)).alloc (.cells #[.int .i64 x, .int .i64 y] 3)) := ((((Below.refl _ _).alloc (Nat.le_refl _) _).alloc (by simp) _).alloc (by simp; omega) _)
  have hx0 : (((w.alloc (.cells #[.int .i64 N, .slice a bs.length cap] 24)).alloc (.cells #[.int .i64 0, .int .i64 0, .bool false, .bool false] 33)).alloc (.cells #[.int .i64 x, .int .i64 y] 3)).heap[w.heap.size]? = some (.cells #[.int .i64 N, .slice a bs.length cap] 24 (0,0)) :=
    (Below.heap_alloc _ _ _ (by simp; omega)).trans ((Below.heap_alloc _ _ _ (by simp)).trans (heap_alloc_new _ _))
  have hints := ints_two ((w.alloc (.cells #[.int .i64 N, .slice a bs.length cap] 24)).alloc (.cells #[.int .i64 0, .int .i64 0, .bool false, .bool false] 33)) x y
  simp only [World.size_alloc] at hints
  have hask : Calls Try.prog 90 #[.agg #[.int .i64 N, .slice a bs.length cap], .slice (some ⟨w.heap.size + 1 + 1, 0, none⟩) 2 2] (((w.alloc (.cells #[.int .i64 N, .slice a bs.length cap] 24)).alloc (.cells #[.int .i64 0, .int .i64 0, .bool false, .bool false] 33)).alloc (.cells #[.int .i64 x, .int .i64 y] 3)) _ :=
    pointed_any _ N a cap bs (some ⟨w.heap.size + 1 + 1, 0, none⟩) 2 [x, y] HN.out hl (by simp) (((H.out.alloc (.cells #[.int .i64 N, .slice a bs.length cap] 24)).alloc (.cells #[.int .i64 0, .int .i64 0, .bool false, .bool false] 33)).alloc (.cells #[.int .i64 x, .int .i64 y] 3)) hints
  clear hints
  have hz0 : (((w.alloc (.cells #[.int .i64 N, .slice a bs.length cap] 24)).alloc (.cells #[.int .i64 0, .int .i64 0, .bool false, .bool false] 33)).alloc (.cells #[.int .i64 x, .int .i64 y] 3)).heap[w.heap.size + 1]? = some (.cells #[.int .i64 0, .int .i64 0, .bool false, .bool false] 33 (0,0)) :=
    (Below.heap_alloc _ _ _ (by simp)).trans (heap_alloc_at _ _ _ (by simp))
  have HZ0 := hidE hz0
  have X0 := hidE hx0
  clear hz0 hx0
  by_cases he : askedE N bs [x, y] = 0
  · have h40 := hsm (askedE_zero he).1
    obtain ⟨R, x', y', t, rfl, rfl, rfl, hx, hy, ht, HO⟩ := asked2 he
    have h40' : R ≤ 40 := by omega
    rw [he] at hask
    have hd : betweenP R bs x' y' = (spanR (matrixP R bs) x' y', 0) := by unfold betweenP; rw [if_pos he, spanR_eq HO ht hx hy]; simp
    have hdim := matrix_dim HO
    have hsz := matrix_size HO h40' hy hx
    obtain ⟨d, hdd⟩ : ∃ d, matrixP R bs = d := ⟨_, rfl⟩
    have hmat := fun W hb => matrix_net W R a cap bs t HO h40' hb
    rw [hdd] at hd hdim hmat hsz
    have hspan := fun W hm => refspan_any W (W.heap.size + 1) R d x' y' hm hdim hx hy hsz.1 hsz.2
    clear hspan
    obtain ⟨⟨l1, l2, l3, l4⟩, hsv⟩ : ∃ s, spanR d x' y' = s := ⟨_, rfl⟩
    have HSP := hidE (fun W B hm => refspan_any W B R d x' y' hm hdim hx hy hsz.1 hsz.2)
    rw [hsv] at hd HSP
    have HD := hidE hd
    have HM := hidE hmat
    have HA := hidE hask
    clear hd hmat hask hdd he ht hdim HO hsv hsz
    go_enter Try.func33, Try.ntmps33
    go_wp2_with fail
    refine HA.out.mono ?_
    rintro e w1 ⟨rfl, hb1⟩
    have x1 := blk_below hb1 (by simp; omega) X0.out
    have z1 := blk_below hb1 (by simp) HZ0.out
    have e0 : w1.cell? ⟨w.heap.size, 0, none⟩ = some (.int .i64 (R : Int)) := by rw [cell_of_row _ _ _ _ _ _ x1]; rfl
    have e1 : w1.cell? ⟨w.heap.size, 1, none⟩ = some (.slice a bs.length cap) := by rw [cell_of_row _ _ _ _ _ _ x1]; rfl
    have B1 := hidE (hB0.trans (hb1.mono hB0.size))
    have Z1 := hidE z1
    clear x1 hb1 z1
    go_wp2_with fail
    refine (HM.out _ (H.out.below B1.out (Nat.le_refl _))).mono ?_
    rintro e w2 ⟨rfl, hm, hb2⟩
    have z2 := blk_below hb2 (lt_of_block Z1.out) Z1.out
    have B2 := hidE (B1.out.trans (hb2.mono B1.out.size))
    have Z2 := hidE z2
    have HMA := hidE hm
    clear hb2 e0 e1 hm z2
    go_wp2_with fail
    refine (HSP.out _ _ HMA.out).mono ?_
    rintro e w3 ⟨rfl, hb3⟩
    have hz2 := blk_below hb3 (lt_of_block Z2.out) Z2.out
    have f0 : ∀ i, w3.frozen? ⟨w.heap.size + 1, i, none⟩ = false := fun i => frozen_of_row _ _ _ _ _ hz2
    have e0 : w3.cell? ⟨w.heap.size + 1, 0, none⟩ = some (.int .i64 0) := by rw [cell_of_row _ _ _ _ _ _ hz2]; rfl
    have e1 : w3.cell? ⟨w.heap.size + 1, 1, none⟩ = some (.int .i64 0) := by rw [cell_of_row _ _ _ _ _ _ hz2]; rfl
    have e2 : w3.cell? ⟨w.heap.size + 1, 2, none⟩ = some (.bool false) := by rw [cell_of_row _ _ _ _ _ _ hz2]; rfl
    have e3 : w3.cell? ⟨w.heap.size + 1, 3, none⟩ = some (.bool false) := by rw [cell_of_row _ _ _ _ _ _ hz2]; rfl
    have HB2 := hidE (B2.out.trans (hb3.mono B2.out.size))
    clear hz2 hb3
    unfold Sp.arr
    simp only
    go_wp2_with fail
    refine bodyPost_ret (v := .tuple #[.agg #[.int .i64 l1, .int .i64 l2, .bool l3, .bool l4], .int .i64 0]) (by simp [results, Try.results33, go_sem, e0, e1, e2, e3]) rfl ⟨?_, ?_⟩
    · rw [HD.out]; rfl
    · exact (((HB2.out.setCell (by simp) _).setCell (by simp) _).setCell (by simp) _).setCell (by simp) _
  · have hd : betweenP N bs x y = (sp0, askedE N bs [x, y]) := by unfold betweenP; rw [if_neg he]
    obtain ⟨c, hc⟩ : ∃ c, askedE N bs [x, y] = c := ⟨_, rfl⟩
    rw [hc] at hd hask he
    have hc2 : (c != 0) = true := by simpa using he
    have HD := hidE hd
    have HA := hidE hask
    clear hd he hc hask
    go_enter Try.func33, Try.ntmps33
    go_wp2_with fail
    refine HA.out.mono ?_
    rintro e w1 ⟨rfl, hb1⟩
    have hz2 := blk_below hb1 (by simp) HZ0.out
    have f0 : ∀ i, w1.frozen? ⟨w.heap.size + 1, i, none⟩ = false := fun i => frozen_of_row _ _ _ _ _ hz2
    have e0 : w1.cell? ⟨w.heap.size + 1, 0, none⟩ = some (.int .i64 0) := by rw [cell_of_row _ _ _ _ _ _ hz2]; rfl
    have e1 : w1.cell? ⟨w.heap.size + 1, 1, none⟩ = some (.int .i64 0) := by rw [cell_of_row _ _ _ _ _ _ hz2]; rfl
    have e2 : w1.cell? ⟨w.heap.size + 1, 2, none⟩ = some (.bool false) := by rw [cell_of_row _ _ _ _ _ _ hz2]; rfl
    have e3 : w1.cell? ⟨w.heap.size + 1, 3, none⟩ = some (.bool false) := by rw [cell_of_row _ _ _ _ _ _ hz2]; rfl
    have HB1 := hidE (hB0.trans (hb1.mono hB0.size))
    clear hz2 hb1
    go_wp2_with fail
    refine bodyPost_ret (v := .tuple #[.agg sp0.arr, .int .i64 c]) (by simp [results, Try.results33, go_sem, sp0, Sp.arr, e0, e1, e2, e3]) rfl ⟨?_, ?_⟩
    · rw [HD.out]
    · exact (((HB1.out.setCell (by simp) _).setCell (by simp) _).setCell (by simp) _).setCell (by simp) _

set_option maxRecDepth 100000 in
set_option maxHeartbeats 1000000 in
theorem refrange_any (w : World) (N : Int) (a : Option Addr) (cap : Nat) (bs : List Bd) (y : Int) (hN : i64ok N) (hl : bs.length ≤ 9223372036854775807) (h : BoundsAt w a bs) (hsm : checkP N bs = 0 → N ≤ 40) :
    Calls Try.prog 31 #[.agg #[.int .i64 N, .slice a bs.length cap], .int .i64 y] w fun e w' => e = .returned (.tuple #[.agg (betweenP N bs 0 y).1.arr, .int .i64 (betweenP N bs 0 y).2]) ∧ Below w.heap.size w w' := by
  have hB0 : Below w.heap.size w ((w.alloc (.cells #[.int .i64 N, .slice a bs.length cap] 24)).alloc (.cells #[.int .i64 0, .int .i64 0, .bool false, .bool false] 33)) := (((Below.refl _ _).alloc (Nat.le_refl _) _).alloc (by simp) _)
  have hbt := refbetween_any ((w.alloc (.cells #[.int .i64 N, .slice a bs.length cap] 24)).alloc (.cells #[.int .i64 0, .int .i64 0, .bool false, .bool false] 33)) N a cap bs 0 y hN hl ((h.alloc _).alloc _) hsm
  have hz0 : ((w.alloc (.cells #[.int .i64 N, .slice a bs.length cap] 24)).alloc (.cells #[.int .i64 0, .int .i64 0, .bool false, .bool false] 33)).heap[w.heap.size + 1]? = some (.cells #[.int .i64 0, .int .i64 0, .bool false, .bool false] 33 (0,0)) := heap_alloc_at _ _ _ (by simp)
  obtain ⟨s1, s2, s3, s4, e, hs⟩ := betweenP_split N bs 0 y
  have HS := hidE hs
  rw [hs] at hbt
  have HBT := hidE hbt
  have HZ := hidE hz0
  clear hs hbt hz0 h hN hsm
  go_enter Try.func31, Try.ntmps31
  go_wp2_with fail
  refine HBT.out.mono ?_
  rintro e w2 ⟨rfl, hb2⟩
  unfold Sp.arr
  have hz2 := blk_below hb2 (by simp) HZ.out
  have f0 : ∀ i, w2.frozen? ⟨w.heap.size + 1, i, none⟩ = false := fun i => frozen_of_row _ _ _ _ _ hz2
  have e0 : w2.cell? ⟨w.heap.size + 1, 0, none⟩ = some (.int .i64 0) := by rw [cell_of_row _ _ _ _ _ _ hz2]; rfl
  have e1 : w2.cell? ⟨w.heap.size + 1, 1, none⟩ = some (.int .i64 0) := by rw [cell_of_row _ _ _ _ _ _ hz2]; rfl
  have e2 : w2.cell? ⟨w.heap.size + 1, 2, none⟩ = some (.bool false) := by rw [cell_of_row _ _ _ _ _ _ hz2]; rfl
  have e3 : w2.cell? ⟨w.heap.size + 1, 3, none⟩ = some (.bool false) := by rw [cell_of_row _ _ _ _ _ _ hz2]; rfl
  have HB2 := hidE (hB0.trans (hb2.mono hB0.size))
  clear hz2 hb2
  go_wp2_with fail
  refine bodyPost_ret (v := .tuple #[.agg #[.int .i64 s1, .int .i64 s2, .bool s3, .bool s4], .int .i64 e]) (by simp [results, Try.results31, go_sem, e0, e1, e2, e3]) rfl ⟨?_, ?_⟩
  · rw [HS.out]; rfl
  · exact (((HB2.out.setCell (by simp) _).setCell (by simp) _).setCell (by simp) _).setCell (by simp) _

end Go.Proofs.Ytejbpoclfjkllaa
