/- Merged text A5 of the chapter line: X1, X2, X3, X4, X5, PlH, PlS, X6. No conditions beyond those stated. -/
import Derived.Test.YthcmjhellpjllaaGreatA4
import Derived.Deep.RegionHeld3
import Derived.Deep.DeepCutAuto
import Derived.Test.YthcmjhellpjllaaGreatP2
import Derived.Test.YthcmjhellpjllaaGreatA3
import Derived.Deep.CutBlock
import Derived.Test.YthcmjhellpjllaaGreatA3b

/- Walks: SameInts; sample. -/
namespace Go.Proofs.YthcmjhellpjllaaGreat
open Go Go.RowKit Go.Shelf

theorem take_eq_succ {a b : List Int} {k : Nat} (ha : k < a.length) (hb : k < b.length) (h : a.take k = b.take k) (e : a[k] = b[k]) : a.take (k + 1) = b.take (k + 1) := by
  rw [List.take_succ_eq_append_getElem ha, List.take_succ_eq_append_getElem hb, h, e]

set_option maxHeartbeats 400000 in
theorem sameInts_any (w : World) (a0 : Option Addr) (c0 : Nat) (l0 : List Int) (a1 : Option Addr) (c1 : Nat) (l1 : List Int) (h0 : IntsAt w a0 l0) (h1 : IntsAt w a1 l1) (_hl0 : l0.length ≤ 9223372036854775807) (hl1 : l1.length ≤ 9223372036854775807) :
    Calls Tryz.prog 20 #[.slice a0 l0.length c0, .slice a1 l1.length c1] w fun e w' => e = .returned (.bool (decide (l0 = l1))) ∧ Below w.heap.size w w' := by
  have H0 := hidE h0
  have H1 := hidE h1
  clear h0 h1
  by_cases hlen : l0.length = l1.length
  · have hne : ((l0.length : Int) != (l1.length : Int)) = false := by simp; omega
    have hle : l0.length ≤ l1.length := by omega
    have HLEN := hidE hlen
    clear hlen
    go_enter Tryz.func20, Tryz.ntmps20
    go_wp2_with fail
    go_loopw [5] (fun i wr => ∃ k : Nat, k ≤ l0.length ∧ i = .int .i64 k ∧ Hid (l0.take k = l1.take k) ∧ Hid (Below w.heap.size w wr)) (fun i _ => l0.length - (intOf i).toNat)
    case atStart => exact ⟨0, Nat.zero_le _, rfl, hidE rfl, hidE (Below.refl _ _)⟩
    case round =>
      obtain ⟨k, hk, rfl, heq, hb⟩ := hrel
      by_cases hlt : k < l0.length
      · have hlt1 : k < l1.length := by omega
        obtain ⟨b0, o0, rfl, hb0, d0⟩ := H0.out.at hlt
        obtain ⟨b1, o1, rfl, hb1, d1⟩ := H1.out.at hlt1
        have d0' := (hb.out.cell (by exact hb0)).trans d0
        have d1' := (hb.out.cell (by exact hb1)).trans d1
        obtain ⟨x, hx⟩ : ∃ x, l0[k] = x := ⟨_, rfl⟩
        obtain ⟨y, hy⟩ : ∃ y, l1[k] = y := ⟨_, rfl⟩
        rw [hx] at d0'
        rw [hy] at d1'
        have HX := hidE hx
        have HY := hidE hy
        have k0 : (0 : Int) ≤ (k : Int) := by omega
        have k1 : (k : Int) < (l0.length : Int) := by omega
        have k2 : (k : Int) < (l1.length : Int) := by omega
        clear d0 d1 hx hy
        by_cases hxy : x = y
        · subst hxy
          go_wp2_with fail
          go_quiet (fail)
          go_wp2_with fail
          go_roundw
          case rel => exact ⟨k + 1, by omega, by go_num, hidE (take_eq_succ hlt hlt1 heq.out (by rw [HX.out, HY.out])), hidE (hb.out.trans (below_drewN' _ _))⟩
          case measure => simp [intOf]; omega
        · have hne2 : (x != y) = true := by simpa using hxy
          have hxx := hidE hxy
          clear hxy
          go_wp2_with fail
          go_quiet (fail)
          go_wp2_with fail
          go_ret
          refine ⟨?_, hb.out.trans (below_drewN' _ _)⟩
          have : ¬ l0 = l1 := fun e => hxx.out (by rw [← HX.out, ← HY.out]; subst e; rfl)
          simp [this]
      · go_wp2_with fail
        go_ret
        refine ⟨?_, hb.out⟩
        have h2 := heq.out
        rw [List.take_of_length_le (by omega), List.take_of_length_le (by have := HLEN.out; omega)] at h2
        simp [h2]
  · have hne : ((l0.length : Int) != (l1.length : Int)) = true := by simp; omega
    have hd : decide (l0 = l1) = false := by
      simp only [decide_eq_false_iff_not]
      intro e; exact hlen (by rw [e])
    have HD := hidE hd
    clear hlen hd
    go_enter Tryz.func20, Tryz.ntmps20
    go_wp2_with fail
    go_ret
    exact ⟨by rw [HD.out]; rfl, Below.refl _ _⟩

/-- The system of the chapter's examples. -/
def sampleP : List Bd := [⟨0, 1, 5, 1⟩, ⟨1, 0, -2, 2⟩, ⟨1, 2, 3, 3⟩, ⟨2, 1, -1, 3⟩, ⟨0, 2, 9, 4⟩]

set_option maxRecDepth 100000 in
set_option maxHeartbeats 1000000 in
theorem sample_any (w : World) : Calls Tryz.prog 10 #[] w fun e w' => ∃ v, e = .returned (.agg #[.int .i64 4, v]) ∧ BoundsOut sampleP w.heap.size v w' ∧ Below w.heap.size w w' := by
  go_enter Tryz.func10, Tryz.ntmps10
  go_wp2_with fail
  exact bodyPost_ret (v := .agg #[.int .i64 4, .slice (some ⟨w.heap.size + 1, 0, none⟩) 5 5]) (by simp [results, Tryz.results10, go_sem]) rfl ⟨_, rfl, ⟨rfl, .inr ⟨w.heap.size + 1, 5, _, rfl, by omega, heap_alloc_at _ _ _ (by simp), Nat.le_refl _, by unfold maxLen; omega, rfl, rfl⟩⟩, ((Below.refl _ _).alloc (Nat.le_refl _) _).alloc (by simp) _⟩

end Go.Proofs.YthcmjhellpjllaaGreat

/- Walks: with. -/
namespace Go.Proofs.YthcmjhellpjllaaGreat
open Go Go.RowKit Go.Shelf

/-- An append of bounds to a list of the call's own, at a step of a region that draws its order. -/
theorem step_append_bounds {ops : Array Oper} {o : Oper} {a : Act} {w : World} {K : Act → World → Prop} {Q : Exit → Act → World → Prop} {E : Prop} (hgd : o.guard = none) (s x : Operand)
    (ho : o.op = .call { callee := .builtin .append, args := #[s, x], argTypes := #[22, 22] })
    (base : Nat) (v : Value) (xs : List Bd) (hs : a.eval s = v) (hown : w.ownsRow base 47 4 v xs.length (flat xs)) (A : Option Addr) (cap : Nat) (l : List Bd) (hx : a.eval x = .slice A l.length cap) (hB : BoundsAt w A l)
    (hxl : xs.length ≤ 100000) (hll : l.length ≤ 100000) (hb : base ≤ w.heap.size)
    (h : ∀ A' n' c' w', w'.ownsRow base 47 4 (.slice A' n' c') (xs ++ l).length (flat (xs ++ l)) → Below base w w' → (∀ q, q < w.heap.size → v.ownBlock ≠ some q → w'.heap[q]? = w.heap[q]?) → K (a.put o.dst (.slice A' n' c')) w') :
    if Region.wanted o (yielded ops a.tmps) = true then Oper.wp Tryz.prog o a w K Q else E := by
  have hw : Region.wanted o (yielded ops a.tmps) = true := by simp [Region.wanted, hgd]
  rw [if_pos hw]
  obtain ⟨v', w', hrun, h1, h2, h3⟩ : ∃ v' w', (Builtin.append_ #[22, 22] o.type #[v, .slice A l.length cap]).run Tryz.prog w = .ok v' w' ∧ w'.ownsRow base 47 4 v' (xs ++ l).length (flat (xs ++ l)) ∧ Below base w w' ∧ (∀ q, q < w.heap.size → v.ownBlock ≠ some q → w'.heap[q]? = w.heap[q]?) := by
    obtain ⟨i0, hi, hz0, hz1, hz2⟩ := info_parts Tryz.info47
    cases A with
    | none =>
      have hl0 : l = [] := by rcases hB with e | ⟨b, off, e, _⟩; exact e; cases e
      subst hl0
      exact ⟨v, w, run_append_nil w base 22 o.type 47 i0 4 Tryz.underlying22 hi v _ _ hown cap, by simpa using hown, Below.refl _ _, fun _ _ _ => rfl⟩
    | some ad =>
      have hnews : ∀ j u, (flat l)[j]? = some u → w.cell? (ad.add j) = some u := by
        rcases hB with e | ⟨b, off, e, _, hc⟩
        · subst e; intro j u hj; simp [flat] at hj
        · cases e; exact boundsAt_news hc
      obtain ⟨v', w', hrun, h2, h3, _, h5⟩ := run_append_own_at (P := Tryz.prog) w base 22 o.type 47 i0 _ 4 32 Tryz.underlying22 hi hz0 hz1 hz2 rfl (by decide) v _ _ hown ad l.length cap (flat l) (by simp [flat_length]) hnews (flat_one l) (by unfold maxLen; omega) (by omega) hb
      refine ⟨v', w', hrun, by rw [List.length_append, flat_cat]; exact h2, (Below.refl base w).grown h3 hb (fun q e => ?_), fun q hq hne => h3.block q hq (fun e => hne e.symm)⟩
      rcases hown.2 with ⟨e1, _⟩ | ⟨g1, cp', cu, e1, hge, hh, _⟩
      · rw [e1] at e; simp [Value.ownBlock] at e
      · rw [e1] at e
        simp only [Value.ownBlock, Option.some.injEq] at e
        omega
  obtain ⟨A', c', e1, _⟩ := boundsAt_of_out (l := xs ++ l) h1
  subst e1
  unfold Oper.wp execOp
  simp only [ho, resolve, invoke, builtin, Sem.run_bind, Sem.run_pure, Result.andThen_ok, List.map_toArray, List.map_cons, List.map_nil, hs, hx, hrun]
  exact h _ _ _ _ h1 h2 h3

theorem owns_empty {W : World} {base g : Nat} (h : W.heap[g]? = some (.cells #[] 47 (0,0))) (hb : base ≤ g) : W.ownsRow base 47 4 (.slice (some ⟨g, 0, none⟩) 0 0) ([] : List Bd).length (flat []) :=
  ⟨rfl, .inr ⟨g, 0, #[], rfl, hb, h, Nat.le_refl _, Nat.zero_le _, rfl, rfl⟩⟩
theorem bounds_one {W : World} {g : Nat} {b : Bd} (h : W.heap[g]? = some (.cells #[.int .i64 b.src, .int .i64 b.dst, .int .i64 b.most, .int .i64 b.rcd] 47 (0,0))) : BoundsAt W (some ⟨g, 0, none⟩) [b] :=
  .inr ⟨_, _, rfl, lt_of_block h, fun i hi => by
    match i, hi with
    | 0, _ => exact ⟨by rw [cell_of_row _ _ _ _ _ _ h]; rfl, by rw [cell_of_row _ _ _ _ _ _ h]; rfl, by rw [cell_of_row _ _ _ _ _ _ h]; rfl, by rw [cell_of_row _ _ _ _ _ _ h]; rfl⟩⟩

theorem keep_two {W : World} (g q : Nat) (h : q ≠ g) {i j k : Nat} {u v x : Value} (hc : W.cell? ⟨q, k, none⟩ = some x) : ((W.setCell ⟨g, i, none⟩ u).setCell ⟨g, j, none⟩ v).cell? ⟨q, k, none⟩ = some x :=
  (World.cell?_of_block (w := W) ((heap_setCell_other _ _ _ _ h).trans (heap_setCell_other _ _ _ _ h))).trans hc

set_option maxRecDepth 100000 in
set_option maxHeartbeats 4000000 in
theorem with_any (w : World) (N : Int) (a : Option Addr) (cap : Nat) (bs : List Bd) (b : Bd) (hl : bs.length ≤ 50000) (h : BoundsAt w a bs) :
    Calls Tryz.prog 17 #[.agg #[.int .i64 N, .slice a bs.length cap], b.val] w fun e w' => ∃ v, e = .returned (.agg #[.int .i64 N, v]) ∧ BoundsOut (bs ++ [b]) w.heap.size v w' ∧ Below w.heap.size w w' := by
  unfold Bd.val
  obtain ⟨W0, hW0⟩ : ∃ W0, ((w.alloc (.cells #[.int .i64 N, .slice a bs.length cap] 24)).alloc (.cells #[.int .i64 b.src, .int .i64 b.dst, .int .i64 b.most, .int .i64 b.rcd] 47)).alloc (.cells #[.int .i64 0, .slice none 0 0] 24) = W0 := ⟨_, rfl⟩
  have b0 : Below w.heap.size w W0 := by rw [← hW0]; exact (((Below.refl _ _).alloc (Nat.le_refl _) _).alloc (by simp) _).alloc (by simp; omega) _
  have x0 : W0.heap[w.heap.size]? = some (.cells #[.int .i64 N, .slice a bs.length cap] 24 (0,0)) := by rw [← hW0, Below.heap_alloc _ _ _ (by simp; omega), Below.heap_alloc _ _ _ (by simp), heap_alloc_new]
  have x1 : W0.heap[w.heap.size + 1]? = some (.cells #[.int .i64 b.src, .int .i64 b.dst, .int .i64 b.most, .int .i64 b.rcd] 47 (0,0)) := by rw [← hW0, Below.heap_alloc _ _ _ (by simp), heap_alloc_at _ _ _ (by simp)]
  have x2 : W0.heap[w.heap.size + 2]? = some (.cells #[.int .i64 0, .slice none 0 0] 24 (0,0)) := by rw [← hW0, heap_alloc_at _ _ _ (by simp)]
  have z0 : W0.heap.size = w.heap.size + 3 := by rw [← hW0]; simp
  have H := hidE (h.below b0 (Nat.le_refl _))
  have c0 : W0.cell? ⟨w.heap.size, 0, none⟩ = some (.int .i64 N) := by rw [cell_of_row _ _ _ _ _ _ x0]; rfl
  have c1 : W0.cell? ⟨w.heap.size, 1, none⟩ = some (.slice a bs.length cap) := by rw [cell_of_row _ _ _ _ _ _ x0]; rfl
  have d0 : W0.cell? ⟨w.heap.size + 1, 0, none⟩ = some (.int .i64 b.src) := by rw [cell_of_row _ _ _ _ _ _ x1]; rfl
  have d1 : W0.cell? ⟨w.heap.size + 1, 1, none⟩ = some (.int .i64 b.dst) := by rw [cell_of_row _ _ _ _ _ _ x1]; rfl
  have d2 : W0.cell? ⟨w.heap.size + 1, 2, none⟩ = some (.int .i64 b.most) := by rw [cell_of_row _ _ _ _ _ _ x1]; rfl
  have d3 : W0.cell? ⟨w.heap.size + 1, 3, none⟩ = some (.int .i64 b.rcd) := by rw [cell_of_row _ _ _ _ _ _ x1]; rfl
  have t0 : W0.cell? ⟨w.heap.size + 1 + 1, 0, none⟩ = some (.int .i64 0) := by rw [cell_of_row _ _ _ _ _ _ x2]; rfl
  have t1 : W0.cell? ⟨w.heap.size + 1 + 1, 1, none⟩ = some (.slice none 0 0) := by rw [cell_of_row _ _ _ _ _ _ x2]; rfl
  have tf0 : W0.frozen? ⟨w.heap.size + 1 + 1, 0, none⟩ = false := frozen_of_row _ _ _ _ _ x2
  have tf1 : W0.frozen? ⟨w.heap.size + 1 + 1, 1, none⟩ = false := frozen_of_row _ _ _ _ _ x2
  have l2 : w.heap.size + 1 + 1 < W0.heap.size := by omega
  have l2' : w.heap.size + 1 + 1 < W0.heap.size + 1 := by omega
  have l0 : w.heap.size < W0.heap.size := by omega
  have l1 : w.heap.size + 1 < W0.heap.size := by omega
  have l0' : w.heap.size < W0.heap.size + 1 := by omega
  have l1' : w.heap.size + 1 < W0.heap.size + 1 := by omega
  have HW := hidE hW0
  have B0 := hidE b0
  have X2 := hidE x2
  have Z0 := hidE z0
  clear h hW0 b0 x0 x1 x2 z0
  go_enter Tryz.func17, Tryz.ntmps17
  go_upto_region 1 with fail
  rw [HW.out]
  go_cut [4] (fun s4 wx => s4 = .pointer (some ⟨w.heap.size + 1 + 1, 0, none⟩) ∧ ∃ v, Hid (wx.heap[w.heap.size + 2]? = some (.cells #[.int .i64 N, v] 24 (0,0))) ∧ Hid (BoundsOut (bs ++ [b]) w.heap.size v wx) ∧ Hid (Below w.heap.size w wx))
  case first =>
    go_region_held3 (fun w' => w'.cell? ⟨w.heap.size, 0, none⟩ = some (.int .i64 N) ∧ w'.cell? ⟨w.heap.size, 1, none⟩ = some (.slice a bs.length cap) ∧ w'.cell? ⟨w.heap.size + 1, 0, none⟩ = some (.int .i64 b.src) ∧ w'.cell? ⟨w.heap.size + 1, 1, none⟩ = some (.int .i64 b.dst) ∧ w'.cell? ⟨w.heap.size + 1, 2, none⟩ = some (.int .i64 b.most) ∧ w'.cell? ⟨w.heap.size + 1, 3, none⟩ = some (.int .i64 b.rcd)) (first | (exact ⟨q0, q1, q2, q3, q4, q5⟩) | (exact ⟨(keep_two (w.heap.size + 1 + 1) _ (by omega) q0), (keep_two (w.heap.size + 1 + 1) _ (by omega) q1), (keep_two (w.heap.size + 1 + 1) _ (by omega) q2), (keep_two (w.heap.size + 1 + 1) _ (by omega) q3), (keep_two (w.heap.size + 1 + 1) _ (by omega) q4), (keep_two (w.heap.size + 1 + 1) _ (by omega) q5)⟩) | go_keep | (refine ⟨?_, ?_, ?_, ?_, ?_, ?_⟩ <;> simp [uc, c0, c1, d0, d1, d2, d3, l0, l1]; done))
      (first
        | (refine step_append_bounds rfl (.tmp 7) (.tmp 9) rfl W0.heap.size (.slice (some ⟨_, 0, none⟩) 0 0) [] rfl ?_ _ _ bs rfl ?_ (by simp) (by omega) ?_ ?_; (first | exact owns_empty (heap_alloc_new _ _) (Nat.le_refl _) | exact owns_empty ((Below.heap_alloc _ _ _ (by simp)).trans (heap_alloc_new _ _)) (Nat.le_refl _) | exact owns_empty (heap_alloc_at _ _ _ (by simp)) (by omega)); (exact H.out.below (by first | exact ((Below.refl _ _).alloc (Nat.le_refl _) _).drew | exact (((Below.refl _ _).alloc (Nat.le_refl _) _).alloc (by simp) _).drew) (Nat.le_refl _)); (first | (focus (simp; done)) | (focus (simp; omega))); intro A1 n1 k1 wa ho1 hb1 hk1; (have bw : Below W0.heap.size W0 wa := by first | exact (((Below.refl _ _).alloc (Nat.le_refl _) _).drew).trans hb1 | exact ((((Below.refl _ _).alloc (Nat.le_refl _) _).alloc (by simp) _).drew).trans hb1); have uc := fun q i hq => hb1.cell (p := ⟨q, i, none⟩) hq; have uf := fun q i hq => hb1.frozen (p := ⟨q, i, none⟩) hq; have us := hb1.size; (have uz : w.heap.size + 1 + 1 < wa.heap.size := by clear uc uf; have := Z0.out; simp at us; omega); clear us)
        | (refine step_append_bounds rfl (.tmp 10) (.tmp 12) rfl W0.heap.size (.slice A1 n1 k1) bs rfl ?_ (some ⟨_, 0, none⟩) _ [b] rfl ?_ (by omega) (by simp) ?_ ?_; (first | exact ho1 | exact ho1.alloc _); (first | exact bounds_one (heap_alloc_new _ _) | exact bounds_one ((hk1 _ (by simp <;> omega) (by simp [Value.ownBlock] <;> omega)).trans (heap_alloc_at _ _ _ (by simp))) | exact bounds_one ((hk1 _ (by simp <;> omega) (by simp [Value.ownBlock] <;> omega)).trans ((Below.heap_alloc _ _ _ (by simp)).trans (heap_alloc_new _ _)))); (first | exact bw.size | exact (bw.alloc bw.size _).size); intro A2 n2 k2 wb ho2 hb2 hk2; have ucz := fun q i hq => hb2.cell (p := ⟨q, i, none⟩) hq; have ufz := fun q i hq => hb2.frozen (p := ⟨q, i, none⟩) hq; (have bw2 : Below W0.heap.size W0 wb := by first | exact bw.trans hb2 | exact (bw.alloc bw.size _).trans hb2); (have q0 : wb.cell? ⟨w.heap.size, 0, none⟩ = some (.int .i64 N) := (bw2.cell (p := ⟨w.heap.size, 0, none⟩) l0).trans c0); (have q1 : wb.cell? ⟨w.heap.size, 1, none⟩ = some (.slice a bs.length cap) := (bw2.cell (p := ⟨w.heap.size, 1, none⟩) l0).trans c1); (have q2 : wb.cell? ⟨w.heap.size + 1, 0, none⟩ = some (.int .i64 b.src) := (bw2.cell (p := ⟨w.heap.size + 1, 0, none⟩) l1).trans d0); (have q3 : wb.cell? ⟨w.heap.size + 1, 1, none⟩ = some (.int .i64 b.dst) := (bw2.cell (p := ⟨w.heap.size + 1, 1, none⟩) l1).trans d1); (have q4 : wb.cell? ⟨w.heap.size + 1, 2, none⟩ = some (.int .i64 b.most) := (bw2.cell (p := ⟨w.heap.size + 1, 2, none⟩) l1).trans d2); (have q5 : wb.cell? ⟨w.heap.size + 1, 3, none⟩ = some (.int .i64 b.rcd) := (bw2.cell (p := ⟨w.heap.size + 1, 3, none⟩) l1).trans d3)))
    all_goals (go_wp2_with fail; go_meet)
    all_goals refine ⟨rfl, .slice A2 n2 k2, hidE ?_, hidE ?_, hidE ?_⟩
    all_goals first
      | exact (heap_setCell_same _ _ _ _ _ _ (heap_setCell_same _ _ _ _ _ _ ((bw2.block _ l2).trans X2.out))).trans rfl
      | exact (ownsRow_base (ownsRow_setCell_below (ownsRow_setCell_below ho2 (by show w.heap.size + 1 + 1 < _; have := Z0.out; omega) _) (by show w.heap.size + 1 + 1 < _; have := Z0.out; omega) _) B0.out.size)
      | (refine ((B0.out.trans (bw2.mono B0.out.size)).setCell ?_ _).setCell ?_ _ <;> (show w.heap.size ≤ w.heap.size + 1 + 1) <;> omega)

  case rest =>
    obtain ⟨rfl, v, h1, h2, h3⟩ := hcut
    obtain ⟨wf, rfl⟩ : ∃ x : World, x = wc := ⟨wc, rfl⟩
    have e0 : wf.cell? ⟨w.heap.size + 1 + 1, 0, none⟩ = some (.int .i64 N) := by rw [cell_of_row _ _ _ _ _ _ h1.out]; rfl
    have e1 : wf.cell? ⟨w.heap.size + 1 + 1, 1, none⟩ = some v := by rw [cell_of_row _ _ _ _ _ _ h1.out]; rfl
    clear c0 c1 t0 t1 d0 d1 d2 d3
    go_wp2_with fail
    exact bodyPost_ret (v := .agg #[.int .i64 N, v]) (by simp [results, Tryz.results17, go_sem, e0, e1]) rfl ⟨v, rfl, h2.out, h3.out⟩

end Go.Proofs.YthcmjhellpjllaaGreat

/- Walks: the closures of Circle. -/
namespace Go.Proofs.YthcmjhellpjllaaGreat
open Go Go.RowKit Go.Shelf

theorem later_any (w : World) (k i b1 : Nat) (c1 : w.cell? ⟨b1, 0, none⟩ = some (.int .i64 (i : Int))) :
    Calls Tryz.prog 46 #[.int .i64 (k : Int), .pointer (some ⟨b1, 0, none⟩)] w fun e w' => e = .returned (.bool (laterT i k)) ∧ w = w' := by
  by_cases h : i < k
  · have hr : laterT i k = true := by unfold laterT; simpa using h
    have hd : decide ((k : Int) > (i : Int)) = true := by simp; omega
    have HR := hidE hr
    clear hr
    go_enter Tryz.func46, Tryz.ntmps46
    go_wp2_with fail
    go_ret
    exact ⟨by rw [HR.out]; rfl, rfl⟩
  · have hr : laterT i k = false := by unfold laterT; simpa using h
    have hd : decide ((k : Int) > (i : Int)) = false := by simp; omega
    have HR := hidE hr
    clear hr
    go_enter Tryz.func46, Tryz.ntmps46
    go_wp2_with fail
    go_ret
    exact ⟨by rw [HR.out]; rfl, rfl⟩

set_option maxHeartbeats 400000 in
theorem circ2_any (w : World) (g cap n : Nat) (rows : List (List Int)) (m : Int) (b3 b4 left at_ : Nat) (sum _s0 _s1 _s3 : Int) (hn : rows.length = n) (_hn2 : n ≤ 200) (h : RowsAt w g rows) (hl : left < n) (ha : at_ < 128) (hs1 : -400000000 ≤ sum) (hs2 : sum ≤ 400000000) (hm1 : -1000000 ≤ m) (hm2 : m ≤ 1000000)
    (hv : -1000000000 ≤ (rows.getD left []).getD at_ 0 ∧ (rows.getD left []).getD at_ 0 ≤ 1125899906842624)
    (c3 : w.cell? ⟨b3, 0, none⟩ = some (.slice (some ⟨g, 0, none⟩) n cap)) (c4 : w.cell? ⟨b4, 2, none⟩ = some (.int .i64 m)) :
    Calls Tryz.prog 47 #[.int .i64 left, .int .i64 at_, .int .i64 sum, .pointer (some ⟨b3, 0, none⟩), .pointer (some ⟨b4, 0, none⟩)] w fun e w' => e = .returned (.bool (gdCirc rows m left at_ sum)) ∧ Below w.heap.size w w' := by
  have c5 := h left at_ (by omega) ha
  have HN := hidE hn
  obtain ⟨v, hvv⟩ : ∃ v, (rows.getD left []).getD at_ 0 = v := ⟨_, rfl⟩
  rw [hvv] at c5 hv
  have a128 : (at_ : Int) < 128 := by omega
  have a0 : (0 : Int) ≤ (at_ : Int) := by omega
  have l0 : (0 : Int) ≤ (left : Int) := by omega
  have l1 : (left : Int) < (n : Int) := by omega
  obtain ⟨hv1, hv2⟩ := hv
  have hw1 : IntKind.i64.wrap (m + sum) = m + sum := IntWalk.i64_in _ (by omega)
  have hw : IntKind.i64.wrap (m + sum + v) = m + sum + v := IntWalk.i64_in _ (by omega)
  by_cases hf : v < 1125899906842624
  · have hg : gdCirc rows m left at_ sum = decide (m + sum + v < 0) := by
      unfold gdCirc getI
      simp only [Int.toNat_natCast]
      simp only [hvv]; simp [hf]
    have HG := hidE hg
    clear hvv hg hn h
    go_enter Tryz.func47, Tryz.ntmps47
    go_wp2_with fail
    go_quiet (fail)
    go_wp2_with fail
    go_ret
    exact ⟨by rw [HG.out]; rfl, below_drewN' _ _⟩
  · have hg : gdCirc rows m left at_ sum = false := by
      unfold gdCirc getI
      simp only [Int.toNat_natCast]
      simp only [hvv]; simp [hf]
    have HG := hidE hg
    have hdec : decide (v < 1125899906842624) = false := by simpa using hf
    clear hvv hg hn h
    go_enter Tryz.func47, Tryz.ntmps47
    go_wp2_with fail
    go_quiet (fail)
    go_wp2_with fail
    go_ret
    exact ⟨by rw [HG.out]; rfl, below_drewN' _ _⟩

end Go.Proofs.YthcmjhellpjllaaGreat

/- Walks: clear at a slice of bools; the first loop of Circle. -/

namespace Go.Proofs.YthcmjhellpjllaaGreat
open Go Go.RowKit Go.Shelf

theorem setCells_vals {g : Nat} {t : TypeId} : ∀ (vs : List Value) (o : Nat) (W : World) (C : Array Value), W.heap[g]? = some (.cells C t (0,0)) → o + vs.length ≤ C.size → ∃ C' : Array Value, (W.setCells g o vs).heap[g]? = some (.cells C' t (0,0)) ∧ C'.size = C.size ∧ (∀ k, k < o → C'[k]? = C[k]?) ∧ (∀ j, j < vs.length → C'[o + j]? = vs[j]?) ∧ ∀ k, o + vs.length ≤ k → C'[k]? = C[k]?
  | [], _, _, C, h, _ => ⟨C, h, rfl, fun _ _ => rfl, fun j hj => by simp at hj, fun _ _ => rfl⟩
  | v :: vs, o, W, C, h, hs => by
    simp only [List.length_cons] at hs
    obtain ⟨C', h1, h2, h3, h4, h5⟩ := setCells_vals vs (o + 1) (W.setCell ⟨g, o, none⟩ v) (C.setIfInBounds o v) (heap_setCell_same _ _ _ _ _ _ h) (by rw [Array.size_setIfInBounds]; omega)
    refine ⟨C', h1, by rw [h2, Array.size_setIfInBounds], fun k hk => ?_, fun j hj => ?_, fun k hk => ?_⟩
    · rw [h3 k (by omega), Array.getElem?_setIfInBounds, if_neg (by omega)]
    · cases j with
      | zero => rw [Nat.add_zero, h3 o (by omega), Array.getElem?_setIfInBounds, if_pos rfl, if_pos (by omega)]; rfl
      | succ j =>
        rw [show o + (j + 1) = o + 1 + j by omega, h4 j (by simpa using hj)]; simp
    · simp only [List.length_cons] at hk
      rw [h5 k (by omega), Array.getElem?_setIfInBounds, if_neg (by omega)]

theorem setCells_other {g q : Nat} (hq : q ≠ g) : ∀ (vs : List Value) (o : Nat) (W : World), (W.setCells g o vs).heap[q]? = W.heap[q]?
  | [], _, _ => rfl
  | v :: vs, o, W => (setCells_other hq vs (o + 1) (W.setCell ⟨g, o, none⟩ v)).trans (heap_setCell_other _ _ _ _ hq)

theorem run_clear_bools (w : World) (ty : TypeId) (b n c : Nat) (l : List Bool) (hb : w.heap[b]? = some (.cells (boolA l) 4 (0,0))) (hl : l.length = n) (hn : 0 < n) :
    ∃ w', (Builtin.clear_ #[80] ty #[.slice (some ⟨b, 0, none⟩) n c]).run Tryz.prog w = .ok (.tuple #[]) w' ∧ w'.heap[b]? = some (.cells (boolA (List.replicate n false)) 4 (0,0)) ∧ (∀ q, q ≠ b → w'.heap[q]? = w.heap[q]?) ∧ Below b w w' := by
  have hz : ∀ w, (zeroValue 4).run Tryz.prog w = .ok (.bool false) w := Tryz.zeroValue4
  have hsz : (Builtin.zeroCells (Value.bool false).cells n).toList.length = n := by
    rw [Array.length_toList, size_zeroCells]; simp [Value.cells]
  have hvs : (Builtin.zeroCells (Value.bool false).cells n).toList = List.replicate n (Value.bool false) := by
    apply List.ext_getElem
    · rw [hsz]; simp
    · intro i h1 h2
      simp [Builtin.zeroCells, Value.cells, Nat.mod_one]
  have hone : ∀ v ∈ List.replicate n (Value.bool false), v.oneCell' = true := by
    intro v hv
    rw [List.eq_of_mem_replicate hv]; rfl
  have hst := run_storeCells_cells (P := Tryz.prog) b 0 (List.replicate n (Value.bool false)) 0 w (by
      intro j hj
      rw [List.length_replicate] at hj
      simp only [Nat.zero_add]
      rw [cell_of_row _ _ _ _ _ _ hb, boolA_get (by omega)]; rfl) (by
      intro j hj
      exact frozen_of_row _ _ _ _ _ hb) hone
  simp only [Nat.add_zero] at hst
  obtain ⟨m, rfl⟩ : ∃ m, n = m + 1 := ⟨n - 1, by omega⟩
  obtain ⟨C', h1, h2, h3, h4, h5⟩ := setCells_vals (List.replicate (m + 1) (Value.bool false)) 0 w _ hb (by rw [boolA_size, List.length_replicate]; omega)
  refine ⟨w.setCells b 0 (List.replicate (m + 1) (Value.bool false)), ?_, ?_, fun q hq => ?_, below_setCells (Below.refl _ _) (Nat.le_refl _) _ _⟩
  · simp [Builtin.clear_, run_underlying Tryz.underlying80, hz, hvs, hst]
  · rw [h1]
    have : C' = boolA (List.replicate (m + 1) false) := by
      apply Array.ext_getElem?
      intro i
      by_cases hi : i < m + 1
      · have := h4 i (by simpa using hi)
        rw [Nat.zero_add] at this
        rw [this, boolA_get (by simpa using hi)]
        simp [hi, List.getD_eq_getElem?_getD]
      · rw [Array.getElem?_eq_none (by rw [h2, boolA_size]; omega), Array.getElem?_eq_none (by rw [boolA_size]; simp; omega)]
    rw [this]
  · exact setCells_other hq _ _ _

/-- A list of the call's own reads as a list. -/
theorem intsAt_of_owns {W : World} {base : Nat} {v : Value} {l : List Int} (h : W.ownsRow base 3 1 v l.length (intsV l)) : ∃ o cap, v = .slice o l.length cap ∧ IntsAt W o l ∧ SliceOk o l.length cap := by
  rcases h.2 with ⟨e, h0⟩ | ⟨gb, cp, cur, e, _, hh, hn, _, hsz, htk⟩
  · exact ⟨none, 0, by rw [e, h0], .inl (List.length_eq_zero_iff.1 h0), fun _ => ⟨h0, rfl⟩⟩
  · refine ⟨_, _, e, .inr ⟨gb, 0, rfl, lt_of_block hh, fun i hi => ?_⟩, fun e => by cases e⟩
    rw [cell_of_row _ _ _ _ _ _ hh, Nat.zero_add]
    have hlt : i < l.length * 1 := by omega
    have h2 : (cur.toList.take (l.length * 1))[i]? = (intsV l)[i]? := by rw [htk]
    rw [List.getElem?_take_of_lt hlt] at h2
    rw [← Array.getElem?_toList, h2]
    simp [intsV, hi]

end Go.Proofs.YthcmjhellpjllaaGreat

/- Walks: Circle, whole. -/

namespace Go.Proofs.YthcmjhellpjllaaGreat
open Go Go.RowKit Go.Shelf

/-- What stands between two points looked at. -/
structure CSt (w1 W : World) (bg : Nat) (on : List Bool) : Prop where
  on : W.heap[bg]? = some (.cells (boolA on) 4 (0,0))
  bl : Below bg w1 W

theorem circle_not (w : World) (N : Int) (a : Option Addr) (cap : Nat) (bs : List Bd) (hN : i64ok N) (hl : bs.length ≤ 9223372036854775807) (h : BoundsAt w a bs) (hno : ¬ (checkP N bs = 0 ∧ openedP N bs = none)) :
    Calls Tryz.prog 18 #[.agg #[.int .i64 N, .slice a bs.length cap]] w fun e w' => ThroughPost (circleP N bs).1 (circleP N bs).2.1 (circleP N bs).2.2 w.heap.size e w' ∧ Below w.heap.size w w' := by
  have hB0 : Below w.heap.size w (w.alloc (.cells #[.int .i64 N, .slice a bs.length cap] 24)) := (Below.refl _ _).alloc (Nat.le_refl _) _
  have hco := consistent_any (w.alloc (.cells #[.int .i64 N, .slice a bs.length cap] 24)) N a cap bs hN hl (h.alloc _)
  have hcp : circleP N bs = ([], false, checkP N bs) := by
    unfold circleP
    by_cases hc : checkP N bs = 0
    · rw [if_neg (by simp [hc]), if_pos, hc]
      cases ho : openedP N bs with
      | none => exact absurd ⟨hc, ho⟩ hno
      | some t => rfl
    · rw [if_pos hc]
  by_cases hc : checkP N bs = 0
  · have hce : consistentE N bs = (true, 0) := by
      unfold consistentE
      rw [if_pos hc]
      cases ho : openedP N bs with
      | none => exact absurd ⟨hc, ho⟩ hno
      | some t => rfl
    rw [hce] at hco
    rw [hc] at hcp
    have HCO := hidE hco
    have HCP := hidE hcp
    clear hco hce hcp hc h hN hno
    go_enter Tryz.func18, Tryz.ntmps18
    go_wp2_with fail
    refine HCO.out.mono ?_
    rintro e w1 ⟨rfl, hb1⟩
    go_wp2_with fail
    go_ret3
    refine ⟨?_, hB0.trans (hb1.mono hB0.size)⟩
    rw [HCP.out]
    exact ⟨_, rfl, World.ownsRow_nil _ _ _ _⟩
  · have hce : consistentE N bs = (false, checkP N bs) := by
      unfold consistentE
      rw [if_neg hc]
    rw [hce] at hco
    obtain ⟨c, hcc⟩ : ∃ c, checkP N bs = c := ⟨_, rfl⟩
    rw [hcc] at hco hcp hc
    have hc2 : (c != 0) = true := by simpa using hc
    have HCO := hidE hco
    have HCP := hidE hcp
    clear hco hce hcp hc h hN hno hcc
    go_enter Tryz.func18, Tryz.ntmps18
    go_wp2_with fail
    refine HCO.out.mono ?_
    rintro e w1 ⟨rfl, hb1⟩
    go_wp2_with fail
    go_ret3
    refine ⟨?_, hB0.trans (hb1.mono hB0.size)⟩
    rw [HCP.out]
    exact ⟨_, rfl, World.ownsRow_nil _ _ _ _⟩

theorem followGo_len {bs : List Bd} {ks : List Nat} {gd : Int → Int → Int → Bool} : ∀ (many : Nat) (at_ sum : Int) (acc r : List Int), followGo bs ks gd many at_ sum acc = some r → r.length = acc.length + many
  | 0, _, _, acc, r, h => by simp only [followGo, Option.some.injEq] at h; rw [← h]; rfl
  | k + 1, at_, sum, acc, r, h => by
    simp only [followGo] at h
    split at h
    · simp at h
    · have := followGo_len k _ _ _ r h
      rw [this, List.length_append, List.length_singleton]; omega
theorem followedP_len (bs : List Bd) (ks : List Nat) (gd : Int → Int → Int → Bool) (from_ : Int) (many : Nat) : (followedP bs ks gd from_ many).length ≤ many := by
  unfold followedP
  cases h : followGo bs ks gd many from_ 0 [] with
  | none => simp
  | some r => have := followGo_len _ _ _ _ _ h; simp at this; simp [this]

theorem circleP_none {R : Nat} {bs : List Bd} (hc : checkP R bs = 0) (ho : openedP R bs = none) (h : ∀ i, i < bs.length → circHit bs (circS bs R R) i = false) : circleP R bs = ([], false, 0) := by
  unfold circleP circleGo
  rw [if_neg (by simp [hc]), ho, if_neg (by simp), Int.toNat_natCast, find_range_none h]
theorem circleP_hit {R : Nat} {bs : List Bd} (hc : checkP R bs = 0) (ho : openedP R bs = none) {i : Nat} (hi : i < bs.length) (h : ∀ k, k < i → circHit bs (circS bs R R) k = false) (hp : circHit bs (circS bs R R) i = true) : circleP R bs = ((i : Int) :: circRest bs (circS bs R R).1 i, true, 0) := by
  unfold circleP circleGo
  rw [if_neg (by simp [hc]), ho, if_neg (by simp), Int.toNat_natCast, find_range_some hi h hp]

set_option maxRecDepth 100000 in
set_option maxHeartbeats 4000000 in
theorem circle_main (w : World) (R : Nat) (a : Option Addr) (cap : Nat) (bs : List Bd) (hc : checkP R bs = 0) (ho : openedP R bs = none) (h : BoundsAt w a bs) :
    Calls Tryz.prog 18 #[.agg #[.int .i64 (R : Int), .slice a bs.length cap]] w fun e w' => ThroughPost (circleP R bs).1 (circleP R bs).2.1 (circleP R bs).2.2 w.heap.size e w' ∧ Below w.heap.size w w' := by
  have hB0 : Below w.heap.size w (w.alloc (.cells #[.int .i64 (R : Int), .slice a bs.length cap] 24)) := (Below.refl _ _).alloc (Nat.le_refl _) _
  obtain ⟨R', e, r0, r1, hlen, hv⟩ := allValid_of hc
  obtain rfl : R = R' := by omega
  have hco := consistent_any (w.alloc (.cells #[.int .i64 (R : Int), .slice a bs.length cap] 24)) R a cap bs (by unfold i64ok; omega) (by omega) (h.alloc _)
  have hce : consistentE R bs = (false, 0) := by unfold consistentE; rw [if_pos hc, ho]; rfl
  rw [hce] at hco
  have H := hidE h
  have HV := hidE hv
  have HCO := hidE hco
  have HC := hidE hc
  have HO := hidE ho
  clear h hv hco hce hc ho e
  have hmk4 := fun W => run_make_row' (P := Tryz.prog) 80 4 (.bool false) 1 Tryz.underlying80 Tryz.info4' rfl .i64 .i64 R (by omega) (by omega) W
  have i94 : Hid ((Tryz.prog.info? 56).map (·.size) = some 128) := hidE (by kernel_rfl)
  go_enter Tryz.func18, Tryz.ntmps18
  go_wp2_with fail
  refine HCO.out.mono ?_
  rintro e w1 ⟨rfl, hb1⟩
  have hbx := blk_below hb1 (by simp) (heap_alloc_new w (.cells #[.int .i64 (R : Int), .slice a bs.length cap] 24))
  have e0 : w1.cell? ⟨w.heap.size, 0, none⟩ = some (.int .i64 (R : Int)) := by rw [cell_of_row _ _ _ _ _ _ hbx]; rfl
  have e1 : w1.cell? ⟨w.heap.size, 1, none⟩ = some (.slice a bs.length cap) := by rw [cell_of_row _ _ _ _ _ _ hbx]; rfl
  have lbx := lt_of_block hbx
  have B1 := hB0.trans (hb1.mono hB0.size)
  have HBX := hidE hbx
  have HB1 := hidE B1
  clear hbx hb1 B1 hB0
  go_wp2_with fail
  have lbx1 : w.heap.size < w1.heap.size + 1 := by omega
  obtain ⟨W0, hW0⟩ : ∃ W0, W0 = w1.alloc (.cells (madeCells #[.bool false] R) 4) := ⟨_, rfl⟩
  rw [← hW0]
  have st0 : CSt w1 W0 w1.heap.size (circS bs R 0).2 := ⟨by rw [hW0, heap_alloc_new, madeBools]; rfl, by rw [hW0]; exact (Below.refl _ _).alloc (Nat.le_refl _) _⟩
  have ST0 := hidE st0
  clear st0 hW0 hmk4 e0 e1
  go_loopw [7, 37] (fun m t wr => ∃ k : Nat, k ≤ R ∧ t = .int .i64 k ∧ m = .int .i64 ((circS bs R k).1 : Int) ∧ Hid (CSt w1 wr w1.heap.size (circS bs R k).2)) (fun _ t _ => R - (intOf t).toNat)
  case atStart => exact ⟨0, Nat.zero_le _, rfl, by simp [circS], ST0⟩
  case round =>
    obtain ⟨k, hk, rfl, rfl, hst⟩ := hrel
    have bw : Below w.heap.size w wr := HB1.out.trans (hst.out.bl.mono HB1.out.size)
    have q1 := (hst.out.bl.block w.heap.size lbx).trans HBX.out
    have c0 : wr.cell? ⟨w.heap.size, 0, none⟩ = some (.int .i64 (R : Int)) := by rw [cell_of_row _ _ _ _ _ _ q1]; rfl
    have c1 : wr.cell? ⟨w.heap.size, 1, none⟩ = some (.slice a bs.length cap) := by rw [cell_of_row _ _ _ _ _ _ q1]; rfl
    have lgb := lt_of_block hst.out.on
    have lbr := lt_of_block q1
    obtain ⟨b1, b2, b3⟩ := circS_bd bs R k hk r1
    by_cases hlt : k < R
    · have hsucc := circS_succ bs R k
      obtain ⟨st, hs⟩ : ∃ st, circS bs R k = st := ⟨_, rfl⟩
      rw [hs] at hst b1 b2 b3 hsucc ⊢
      obtain ⟨mn, on⟩ := st
      simp only at hst b1 b2 b3 ⊢
      obtain ⟨mx, hmx⟩ : ∃ mx, min mn R = mx := ⟨_, rfl⟩
      have hmi : min (mn : Int) (R : Int) = (mx : Int) := by omega
      have hw := walks_any wr R R a cap bs k mx 31 #[] allT r1 (by omega) (H.out.below bw (Nat.le_refl _)) HV.out hlt (by omega) (tests_all _ _ _) enters_all
      rw [selB_all] at hw
      have hlen2 := walksP_length bs k mx
      have hrm := walksP_len (N := (R : Int)) HV.out k mx
      -- the index of the first negative row
      have hck : circK bs R mn k = idxOf (fun r : List Int => decide (r.getD k 0 < 0)) (walksP bs k mx) := by unfold circK; rw [hmx]
      have hca : circA bs R (mn, on) k = if circK bs R mn k < 0 then (mn, on) else if (circK bs R mn k).toNat < mn then ((circK bs R mn k).toNat, (List.replicate R false).set k true) else (mn, on.set k true) := rfl
      rw [hck, ← hsucc] at hca
      obtain ⟨rows, hrows⟩ : ∃ rows, walksP bs k mx = rows := ⟨_, rfl⟩
      rw [hrows] at hw hlen2 hrm hca
      have HW := hidE hw
      have HQ1 := hidE q1
      have HCA := hidE hca
      have HS := hidE hs
      have HB3 := hidE b3
      have HRM := hidE hrm
      have HLEN2 := hidE hlen2
      have HMX := hidE hmx
      clear hw q1 hsucc hs b3 hlen2 hrm hca hck hrows hmx
      go_upto_block 1 with fail
      go_cut [7] (fun s7 wx => s7 = .int .i64 ((circS bs R (k + 1)).1 : Int) ∧ Hid (CSt w1 wx w1.heap.size (circS bs R (k + 1)).2))
      case first =>
        go_wp2_with fail
        refine HW.out.mono ?_
        rintro e w2 ⟨g, cp, rfl, hb2, hown⟩
        have hmx1 : mx ≤ R := by have := HMX.out; omega
        have hmx2 : mx ≤ mn := by have := HMX.out; omega
        obtain ⟨hra, hgl⟩ := rowsAt_of_owns hown HRM.out
        have hgb : wr.heap.size ≤ g := by
          rcases hown.2 with ⟨e, _⟩ | ⟨g', cp', cu, e, hb, hh, _⟩
          · cases e
          · cases e; exact hb
        have hon2 := blk_below hb2 lgb hst.out.on
        have st2 : CSt w1 w2 w1.heap.size on := ⟨hon2, hst.out.bl.trans (hb2.mono hst.out.bl.size)⟩
        have hbx2 := blk_below hb2 lbr HQ1.out
        have HRA := hidE hra
        have ST2 := hidE st2
        have HBX2 := hidE hbx2
        clear hra hown hon2 st2 hbx2 hb2 c0 c1
        go_wp2_with fail
        go_loopw [7, 48] (fun m t wv => ∃ j : Nat, j ≤ mx + 1 ∧ t = .int .i64 j ∧ m = .int .i64 (mn : Int) ∧ Hid ((rows.take j).any (fun r : List Int => decide (r.getD k 0 < 0)) = false) ∧ Hid (CSt w1 wv w1.heap.size on) ∧ Hid (Below w2.heap.size w2 wv)) (fun _ t _ => mx + 1 - (intOf t).toNat)
        case atStart => exact ⟨0, by omega, rfl, rfl, hidE rfl, ST2, hidE (Below.refl _ _)⟩
        case round =>
          obtain ⟨j, hj, rfl, rfl, hno, hst3, hb3⟩ := hrel
          by_cases hjl : j < mx + 1
          · have hrow := HRM.out (rows.getD j []) (by
              rw [List.getD_eq_getElem?_getD, List.getElem?_eq_getElem (by have := HLEN2.out; omega)]; exact List.getElem_mem _)
            have hrg := rangeAt_rows (HRA.out.below hb3.out hgl) (k := j) (by have := HLEN2.out; omega) hrow
            have hxx : rows[j]'(by have := HLEN2.out; omega) = rows.getD j [] := (getD_get rows [] (by have := HLEN2.out; omega)).symm
            obtain ⟨x, hx⟩ : ∃ x, rows.getD j [] = x := ⟨_, rfl⟩
            rw [hx] at hrow hrg hxx
            obtain ⟨v, hv⟩ : ∃ v, x.getD k 0 = v := ⟨_, rfl⟩
            have hst' : (wr.alloc (.cells Tryz.zeroCells56 56)).heap[wr.heap.size]? = some (.cells (rowA (rep128 0)) 56 (0,0)) := by rw [zc94]; exact heap_alloc_new _ _
            have HSR := hidE hst'
            have HG := hidE hrg
            have HX := hidE hxx
            have HR := hidE hrow
            have HV2 := hidE hv
            have k0 : (0 : Int) ≤ (k : Int) := by omega
            have k1 : (k : Int) < 128 := by omega
            clear hx hrg hxx hrow hst' hv
            have hs1 : Hid ((rowA (rep128 0)).size = (rowA x).size) := hidE (by rw [rowA_size, rowA_size, HR.out, rep128_length])
            have hs2 : Hid ((Tryz.prog.info? 56).map (·.size) = some (rowA x).size) := hidE (by rw [rowA_size, HR.out]; exact i94.out)
            go_upto_region 12 with (first
              | (refine wpList_load_mid rfl 56 _ rfl g (j * 128) rfl (intsV x) _ HG.out Tryz.underlying56 rfl (by rw [i94.out]; simp [intsV, HR.out]) ?_)
              | (refine wpList_store_row rfl 56 _ _ rfl _ _ rfl rfl 56 _ HSR.out hs2.out hs1.out (intsV_one _) ?_; rw [World.setRow_alloc_new]))
            obtain ⟨X, hX⟩ : ∃ X, X = wr.alloc (Obj.cells (intsV x).toArray 56) := ⟨_, rfl⟩
            rw [← hX]
            have z3 : X.cell? ⟨wr.heap.size, k, none⟩ = some (.int .i64 v) := by
              rw [hX]
              show (wr.alloc (Obj.cells (rowA x) 56)).cell? ⟨wr.heap.size, k, none⟩ = some (.int .i64 v)
              rw [cell_of_row _ _ _ _ _ _ (heap_alloc_new wr (Obj.cells (rowA x) 56)), rowA_get (by rw [HR.out]; omega), HV2.out]
            have stX : CSt w1 X w1.heap.size on := by
              rw [hX]
              exact ⟨(Below.heap_alloc _ _ _ (lt_of_block hst3.out.on)).trans hst3.out.on, hst3.out.bl.alloc hst3.out.bl.size _⟩
            have b3X : Below w2.heap.size w2 X := by rw [hX]; exact hb3.out.alloc hb3.out.size _
            have og : X.cell? ⟨w1.heap.size, k, none⟩ = some (.bool (on.getD k false)) := by rw [cell_of_row _ _ _ _ _ _ stX.on, boolA_get (by rw [HB3.out]; omega)]
            have ogf : X.frozen? ⟨w1.heap.size, k, none⟩ = false := frozen_of_row _ _ _ _ _ stX.on
            have STX := hidE stX
            have B3X := hidE b3X
            clear hX stX b3X
            by_cases hneg : v < 0
            · have hv2 : decide (v ≥ 0) = false := by simp; omega
              have hix : idxOf (fun r : List Int => decide (r.getD k 0 < 0)) rows = j := idxOf_found (by have := HLEN2.out; omega) hno.out (by rw [HX.out, HV2.out]; simpa using hneg)
              have hca2 := HCA.out
              rw [hix, if_neg (by omega)] at hca2
              by_cases hjm : j < mn
              · rw [if_pos (by simpa using hjm)] at hca2
                have HCA2 := hidE hca2
                obtain ⟨Y, hclr, y1, y2, y3⟩ := run_clear_bools X 0 w1.heap.size R R on STX.out.on HB3.out (by omega)
                have yg : Y.cell? ⟨w1.heap.size, k, none⟩ = some (.bool ((List.replicate R false).getD k false)) := by rw [cell_of_row _ _ _ _ _ _ y1, boolA_get (by simpa using hlt)]
                have ygf : Y.frozen? ⟨w1.heap.size, k, none⟩ = false := frozen_of_row _ _ _ _ _ y1
                have Y1 := hidE y1
                have Y3 := hidE y3
                clear hca2 hix y1 y2 y3 og ogf
                go_wp2_with fail
                go_meet
                exact ⟨by rw [HCA2.out]; rfl, hidE (by
                  rw [HCA2.out]
                  exact ⟨by rw [heap_setCell_same _ _ _ _ _ _ Y1.out, boolA_set], (STX.out.bl.trans Y3.out).setCell (Nat.le_refl _) _⟩)⟩
              · rw [if_neg (by simpa using hjm)] at hca2
                have hjm2 : ¬ (j : Int) < (mn : Int) := by omega
                have HCA2 := hidE hca2
                clear hca2 hix
                go_wp2_with fail
                go_meet
                exact ⟨by rw [HCA2.out], hidE (by
                  rw [HCA2.out]
                  exact ⟨by rw [heap_setCell_same _ _ _ _ _ _ STX.out.on, boolA_set], STX.out.bl.setCell (Nat.le_refl _) _⟩)⟩
            · have hv2 : decide (v ≥ 0) = true := by simp; omega
              go_wp2_with fail
              go_roundw
              case rel => exact ⟨j + 1, by omega, by go_num, rfl, hidE (take_any_succ (by have := HLEN2.out; omega) hno.out (by rw [HX.out, HV2.out]; simpa using hneg)), STX, B3X⟩
              case measure => simp [intOf]; omega
          · have hix : idxOf (fun r : List Int => decide (r.getD k 0 < 0)) rows = -1 := idxOf_none (any_of_take (by have := HLEN2.out; omega) hno.out)
            have hca2 := HCA.out
            rw [hix, if_pos (by omega)] at hca2
            have HCA2 := hidE hca2
            clear hca2 hix
            go_wp2_with fail
            go_meet
            exact ⟨by rw [HCA2.out], hidE (by rw [HCA2.out]; exact hst3.out)⟩
      case rest =>
        obtain ⟨rfl, hst4⟩ := hcut
        obtain ⟨w4, rfl⟩ : ∃ x : World, x = wc := ⟨wc, rfl⟩
        go_wp2_with fail
        go_roundw
        case rel => exact ⟨k + 1, by omega, by go_num, rfl, hst4⟩
        case measure => simp [intOf]; omega
    · obtain rfl : R = k := by omega
      have hp0 := circleP_none HC.out HO.out
      have hp1 := fun i => circleP_hit HC.out HO.out (i := i)
      obtain ⟨S, hS⟩ : ∃ S, circS bs R R = S := ⟨_, rfl⟩
      rw [hS] at hst b1 b2 b3 hp0 hp1 ⊢
      obtain ⟨M, on⟩ := S
      simp only at hst b1 b2 b3 ⊢
      have HP0 := hidE hp0
      have HP1 := hidE hp1
      have HB3 := hidE b3
      clear hS hp0 hp1 b3 q1
      go_wp2_with fail
      go_loopw [70] (fun t wv => ∃ i : Nat, i ≤ bs.length ∧ t = .int .i64 i ∧ Hid (∀ q, q < i → circHit bs (M, on) q = false) ∧ Hid (CSt w1 wv w1.heap.size on)) (fun t _ => bs.length - (intOf t).toNat)
      case atStart => exact ⟨0, Nat.zero_le _, rfl, hidE (fun q h => by omega), hst⟩
      case round =>
        clear c0 c1 lgb lbr bw
        obtain ⟨i, hi, rfl, hno, hst2⟩ := hrel
        have bw : Below w.heap.size w wr := HB1.out.trans (hst2.out.bl.mono HB1.out.size)
        by_cases hil : i < bs.length
        · obtain ⟨b, off, rfl, hbl, hcs⟩ := H.out.at hil
          have q1 := (hst2.out.bl.block w.heap.size lbx).trans HBX.out
          have hval := HV.out bs[i] (List.getElem_mem _)
          have hcs' := hcs.below bw hbl
          obtain ⟨c0, c1, c2, c3⟩ := hcs'
          have hgd : bs.getD i bd0 = bs[i] := getD_get bs bd0 hil
          obtain ⟨y, hy⟩ : ∃ y, bs[i] = y := ⟨_, rfl⟩
          rw [hy] at c0 c1 c2 c3 hval hgd
          obtain ⟨ys, yd, ym, yr⟩ := y
          obtain ⟨v1, v2, v3, v4, v5, v6⟩ := hval
          simp only at c0 c1 c2 c3 v1 v2 v3 v4 v5 v6
          obtain ⟨si, rfl⟩ := Int.eq_ofNat_of_zero_le v1
          obtain ⟨di, rfl⟩ := Int.eq_ofNat_of_zero_le v3
          have HGD := hidE hgd
          have Q1 := hidE q1
          clear hcs hy hgd q1
          go_upto_region 22 with fail
          obtain ⟨X, hX⟩ : ∃ X, X = (wr.alloc (Obj.cells #[.int .i64 (i : Int)] 3)).alloc (Obj.cells #[.int .i64 (si : Int), .int .i64 (di : Int), .int .i64 ym, .int .i64 yr] 47) := ⟨_, rfl⟩
          rw [← hX]
          have xb : Below wr.heap.size wr X := by rw [hX]; exact ((Below.refl _ _).alloc (Nat.le_refl _) _).alloc (by simp) _
          have x12 : X.heap[wr.heap.size]? = some (.cells #[.int .i64 (i : Int)] 3 (0,0)) := by rw [hX, Below.heap_alloc _ _ _ (by simp), heap_alloc_new]
          have x13 : X.heap[wr.heap.size + 1]? = some (.cells #[.int .i64 (si : Int), .int .i64 (di : Int), .int .i64 ym, .int .i64 yr] 47 (0,0)) := by rw [hX, heap_alloc_at _ _ _ (by simp)]
          have lgb := lt_of_block hst2.out.on
          have lbr := lt_of_block Q1.out
          have xon := blk_below xb lgb hst2.out.on
          have xbx := blk_below xb lbr Q1.out
          have stX : CSt w1 X w1.heap.size on := ⟨xon, hst2.out.bl.trans (xb.mono hst2.out.bl.size)⟩
          have bX : Below w.heap.size w X := bw.trans (xb.mono bw.size)
          have z0 : X.cell? ⟨wr.heap.size + 1, 0, none⟩ = some (.int .i64 (si : Int)) := by rw [cell_of_row _ _ _ _ _ _ x13]; rfl
          have z1 : X.cell? ⟨wr.heap.size + 1, 1, none⟩ = some (.int .i64 (di : Int)) := by rw [cell_of_row _ _ _ _ _ _ x13]; rfl
          have z2 : X.cell? ⟨wr.heap.size + 1, 2, none⟩ = some (.int .i64 ym) := by rw [cell_of_row _ _ _ _ _ _ x13]; rfl
          have z3 : X.cell? ⟨wr.heap.size, 0, none⟩ = some (.int .i64 (i : Int)) := cell_of_one x12
          have e0 : X.cell? ⟨w.heap.size, 0, none⟩ = some (.int .i64 (R : Int)) := by rw [cell_of_row _ _ _ _ _ _ xbx]; rfl
          have e1 : X.cell? ⟨w.heap.size, 1, none⟩ = some (.slice (some ⟨b, off, none⟩) bs.length cap) := by rw [cell_of_row _ _ _ _ _ _ xbx]; rfl
          obtain ⟨fs, hfs⟩ : ∃ x, on.getD si false = x := ⟨_, rfl⟩
          obtain ⟨fd, hfd⟩ : ∃ x, on.getD di false = x := ⟨_, rfl⟩
          have os : X.cell? ⟨w1.heap.size, si, none⟩ = some (.bool fs) := by rw [cell_of_row _ _ _ _ _ _ xon, boolA_get (by rw [HB3.out]; omega), hfs]
          have od : X.cell? ⟨w1.heap.size, di, none⟩ = some (.bool fd) := by rw [cell_of_row _ _ _ _ _ _ xon, boolA_get (by rw [HB3.out]; omega), hfd]
          obtain ⟨V, hV⟩ : ∃ V, circV bs M i = V := ⟨_, rfl⟩
          have hhit : circHit bs (M, on) i = (fs && fd && (decide (V < 1125899906842624) && decide (ym + V < 0))) := by
            unfold circHit
            rw [HGD.out, hV]
            simp only [Int.toNat_natCast]
            rw [hfs, hfd]
          have s0 : (si : Int) < R := by omega
          have d0 : (di : Int) < R := by omega
          have sl0 : si < R := by omega
          have dl0 : di < R := by omega
          have HHIT := hidE hhit
          have HVV := hidE hV
          have STX := hidE stX
          have BX := hidE bX
          have X12 := hidE x12
          have X13 := hidE x13
          have XBX := hidE xbx
          have XS := hidE (show X.heap.size = wr.heap.size + 2 by rw [hX]; simp)
          clear hX xb x12 x13 xon xbx stX bX hfs hfd hhit hV c0 c1 c2 c3 bw
          have skip : circHit bs (M, on) i = false → ∀ q, q < i + 1 → circHit bs (M, on) q = false := fun hf q hq => by
            by_cases e : q = i
            · rw [e]; exact hf
            · exact hno.out q (by omega)
          have SKIP := hidE skip
          clear skip
          cases fs with
          | false =>
            go_wp2_with fail
            go_roundw
            case rel => exact ⟨i + 1, by omega, by go_num, hidE (SKIP.out (by rw [HHIT.out]; rfl)), STX⟩
            case measure => simp [intOf]; omega
          | true =>
            cases fd with
            | false =>
              go_wp2_with fail
              go_roundw
              case rel => exact ⟨i + 1, by omega, by go_num, hidE (SKIP.out (by rw [HHIT.out]; rfl)), STX⟩
              case measure => simp [intOf]; omega
            | true =>
              obtain ⟨m1, hm2⟩ : ∃ m1, M - 1 = m1 := ⟨M - 1, rfl⟩
              have hmi : (M : Int) - 1 = (m1 : Int) := by omega
              have hm1R : m1 ≤ R := by omega
              have hwk := walks_any X R R (some ⟨b, off, none⟩) cap bs si m1 46 #[.pointer (some ⟨wr.heap.size, 0, none⟩)] (laterT i) r1 (by omega) (H.out.below BX.out (Nat.le_refl _)) HV.out sl0 (by omega)
                (fun q hq W hk => (later_any W q i wr.heap.size ((hk.cell (by have := XS.out; show wr.heap.size < _; omega)).trans z3)).mono fun _ _ ⟨he, hw⟩ => ⟨he, hw ▸ Below.refl _ _⟩)
                (enters_of Tryz.func46 (by kernel_rfl) rfl)
              have hsub : ∀ x ∈ selB bs (passes (laterT i) bs.length), x ∈ bs := fun x hx => mem_selB (fun q hq => (passes_mem.1 hq).1) hx
              have hcr : circRows bs M i = walksP (selB bs (passes (laterT i) bs.length)) si m1 := by unfold circRows; rw [HGD.out, hm2]; simp
              have hvs : AllValid R (selB bs (passes (laterT i) bs.length)) := fun x hx => HV.out x (hsub x hx)
              have hrm := walksP_len (N := (R : Int)) hvs si m1
              have hln := walksP_length (selB bs (passes (laterT i) bs.length)) si m1
              have hrbd : ∀ q p, q ≤ m1 → -1000000000 ≤ ((walksP (selB bs (passes (laterT i) bs.length)) si m1).getD q []).getD p 0 ∧ ((walksP (selB bs (passes (laterT i) bs.length)) si m1).getD q []).getD p 0 ≤ 1125899906842624 := by
                intro q p hq
                rw [walksP_get _ _ _ hq]
                exact walkRow_bd hvs _ _ _ (by omega)
              have hVV : circV bs M i = ((circRows bs M i).getD m1 []).getD di 0 := by unfold circV; rw [HGD.out, hm2]; simp only [Int.toNat_natCast]
              have hrest : circRest bs M i = followedP bs (passes (laterT i) bs.length) (gdCirc (circRows bs M i) ym) (di : Int) m1 := by unfold circRest; rw [HGD.out, hm2]
              rw [hcr] at hVV hrest
              obtain ⟨rows, hrows⟩ : ∃ rows, walksP (selB bs (passes (laterT i) bs.length)) si m1 = rows := ⟨_, rfl⟩
              rw [hrows] at hwk hrm hln hrbd hVV hrest
              have hVb := hrbd m1 di (Nat.le_refl _)
              have hVe := HVV.out
              rw [hVV] at hVe
              have HWK := hidE hwk
              have HRM := hidE hrm
              have HLN := hidE hln
              have HRB := hidE hrbd
              have HREST := hidE hrest
              have HVE := hidE hVe
              rw [hVe] at hVb
              obtain ⟨Vb1, Vb2⟩ := hVb
              clear hwk hsub hcr hvs hrm hln hrbd hVV hrest hrows hVe hm2
              go_wp2_with fail
              refine HWK.out.mono ?_
              rintro e w2 ⟨g, cp, rfl, hb2, hown⟩
              obtain ⟨hra, hgl⟩ := rowsAt_of_owns hown HRM.out
              have y12 := blk_below hb2 (lt_of_block X12.out) X12.out
              have y13 := blk_below hb2 (lt_of_block X13.out) X13.out
              have ybx := blk_below hb2 (lt_of_block XBX.out) XBX.out
              have yst : CSt w1 w2 w1.heap.size on := ⟨blk_below hb2 (lt_of_block STX.out.on) STX.out.on, STX.out.bl.trans (hb2.mono STX.out.bl.size)⟩
              have yb := BX.out.trans (hb2.mono BX.out.size)
              have HRA := hidE hra
              have Y12 := hidE y12
              have Y13 := hidE y13
              have YBX := hidE ybx
              have YST := hidE yst
              have YB := hidE yb
              clear hra hown y12 y13 ybx yst yb z0 z1 z2 z3 e0 e1 os od
              go_upto_region 25 with fail
              obtain ⟨Z, hZ⟩ : ∃ Z, Z = w2.alloc (Obj.cells #[.slice (some ⟨g, 0, none⟩) (m1 + 1) cp] 53) := ⟨_, rfl⟩
              rw [← hZ]
              have zb : Below w2.heap.size w2 Z := by rw [hZ]; exact (Below.refl _ _).alloc (Nat.le_refl _) _
              have z15 : Z.heap[w2.heap.size]? = some (.cells #[.slice (some ⟨g, 0, none⟩) (m1 + 1) cp] 53 (0,0)) := by rw [hZ]; exact heap_alloc_new _ _
              have z12 := blk_below zb (lt_of_block Y12.out) Y12.out
              have z13 := blk_below zb (lt_of_block Y13.out) Y13.out
              have zbx := blk_below zb (lt_of_block YBX.out) YBX.out
              have zst : CSt w1 Z w1.heap.size on := ⟨blk_below zb (lt_of_block YST.out.on) YST.out.on, YST.out.bl.trans (zb.mono YST.out.bl.size)⟩
              have zB := YB.out.trans (zb.mono YB.out.size)
              have zra := HRA.out.below zb hgl
              have z0 : Z.cell? ⟨w2.heap.size, 0, none⟩ = some (.slice (some ⟨g, 0, none⟩) (m1 + 1) cp) := cell_of_one z15
              have z1 : Z.cell? ⟨wr.heap.size + 1, 1, none⟩ = some (.int .i64 (di : Int)) := by rw [cell_of_row _ _ _ _ _ _ z13]; rfl
              have z2 : Z.cell? ⟨wr.heap.size + 1, 2, none⟩ = some (.int .i64 ym) := by rw [cell_of_row _ _ _ _ _ _ z13]; rfl
              have z3 : Z.cell? ⟨wr.heap.size, 0, none⟩ = some (.int .i64 (i : Int)) := cell_of_one z12
              have zg : Z.cell? ⟨g, m1 * 128 + di, none⟩ = some (.int .i64 V) := by
                rw [zra m1 di (by rw [HLN.out]; omega) (by omega), HVE.out]
              have e0 : Z.cell? ⟨w.heap.size, 0, none⟩ = some (.int .i64 (R : Int)) := by rw [cell_of_row _ _ _ _ _ _ zbx]; rfl
              have e1 : Z.cell? ⟨w.heap.size, 1, none⟩ = some (.slice (some ⟨b, off, none⟩) bs.length cap) := by rw [cell_of_row _ _ _ _ _ _ zbx]; rfl
              have m0 : (0 : Int) ≤ (m1 : Int) := by omega
              have m2 : (m1 : Int) < (m1 : Int) + 1 := by omega
              have d128 : (di : Int) < 128 := by omega
              have d00 : (0 : Int) ≤ (di : Int) := by omega
              have Z12 := hidE z12
              have Z13 := hidE z13
              have Z15 := hidE z15
              have ZST := hidE zst
              have ZB := hidE zB
              have ZRA := hidE zra
              have ZS := hidE (show Z.heap.size = w2.heap.size + 1 by rw [hZ]; simp)
              have hsz : wr.heap.size + 2 ≤ w2.heap.size := by have := lt_of_block Y13.out; omega
              clear hZ zb z12 z13 z15 zbx zst zB zra
              go_quiet (fail)
              obtain ⟨Y, hY⟩ : ∃ Y, Y = Z.drewN nq := ⟨_, rfl⟩
              rw [← hY]
              have yheap : Y.heap = Z.heap := by rw [hY]; rfl
              have yz2 : Y.cell? ⟨wr.heap.size + 1, 2, none⟩ = some (.int .i64 ym) := by rw [hY]; exact z2
              have yz1 : Y.cell? ⟨wr.heap.size + 1, 1, none⟩ = some (.int .i64 (di : Int)) := by rw [hY]; exact z1
              have yz3 : Y.cell? ⟨wr.heap.size, 0, none⟩ = some (.int .i64 (i : Int)) := by rw [hY]; exact z3
              have yz0 : Y.cell? ⟨w2.heap.size, 0, none⟩ = some (.slice (some ⟨g, 0, none⟩) (m1 + 1) cp) := by rw [hY]; exact z0
              have ye0 : Y.cell? ⟨w.heap.size, 0, none⟩ = some (.int .i64 (R : Int)) := by rw [hY]; exact e0
              have ye1 : Y.cell? ⟨w.heap.size, 1, none⟩ = some (.slice (some ⟨b, off, none⟩) bs.length cap) := by rw [hY]; exact e1
              have ySt : CSt w1 Y w1.heap.size on := ⟨by rw [yheap]; exact ZST.out.on, by rw [hY]; exact ZST.out.bl.trans (below_drewN' _ _)⟩
              have yB : Below w.heap.size w Y := by rw [hY]; exact ZB.out.trans (below_drewN' _ _)
              have YST2 := hidE ySt
              have YB2 := hidE yB
              have YH := hidE yheap
              clear hY z0 z1 z2 z3 zg e0 e1 yheap ySt yB
              by_cases hfar : V < 1125899906842624
              · have hw0 : IntKind.i64.wrap (ym + V) = ym + V := IntWalk.i64_in _ (by omega)
                have hg1 : decide (V ≥ 1125899906842624) = false := by simp; omega
                by_cases hneg : ym + V < 0
                · have hg2 : decide (ym + V ≥ 0) = false := by simp; omega
                  have hhit2 : circHit bs (M, on) i = true := by rw [HHIT.out]; simp [hfar, hneg]
                  have hp := HP1.out i hil hno.out hhit2
                  have HP := hidE hp
                  clear hp hhit2
                  have YS : Y.heap.size = w2.heap.size + 1 := by rw [YH.out, ZS.out]
                  have hraY : RowsAt Y g rows := fun q p hq hp => (World.cell?_of_block (w := Z) (by rw [YH.out])).trans (ZRA.out q p hq hp)
                  have hfo := followed_any Y (R : Int) R (some ⟨b, off, none⟩) cap bs di m1 46 47 #[.pointer (some ⟨wr.heap.size, 0, none⟩)] #[.pointer (some ⟨w2.heap.size, 0, none⟩), .pointer (some ⟨wr.heap.size + 1, 0, none⟩)] (laterT i) (gdCirc rows ym) r1 (by omega) (H.out.below YB2.out (Nat.le_refl _)) HV.out dl0 (by omega)
                    (fun q hq W hk => (later_any W q i wr.heap.size ((hk.cell (by show wr.heap.size < Y.heap.size; omega)).trans yz3)).mono fun _ _ ⟨he, hw⟩ => ⟨he, hw ▸ Below.refl _ _⟩)
                    (enters_of Tryz.func46 (by kernel_rfl) rfl)
                    (fun left at_ sum W h1 h2 h3 h4 hk => circ2_any W g cp (m1 + 1) rows ym w2.heap.size (wr.heap.size + 1) left at_ sum 0 0 0 HLN.out (by omega) (fun q p hq hp => (hk.cell (by show g < Y.heap.size; omega)).trans (hraY q p hq hp)) (by omega) (by omega) h3 h4 (by omega) (by omega) (HRB.out left at_ (by omega))
                      ((hk.cell (by show w2.heap.size < Y.heap.size; omega)).trans yz0) ((hk.cell (by show wr.heap.size + 1 < Y.heap.size; omega)).trans yz2))
                    (enters_of Tryz.func47 (by kernel_rfl) rfl)
                  obtain ⟨FL, hFL⟩ : ∃ FL, followedP bs (passes (laterT i) bs.length) (gdCirc rows ym) (di : Int) m1 = FL := ⟨_, rfl⟩
                  have hFLl : FL.length ≤ 50000 := by
                    rw [← hFL]
                    have := followedP_len bs (passes (laterT i) bs.length) (gdCirc rows ym) (di : Int) m1
                    omega
                  have hrs := HREST.out
                  rw [hFL] at hfo hrs
                  have HFO := hidE hfo
                  have HRS := hidE hrs
                  have HYS := hidE YS
                  have wlt : wr.heap.size < Y.heap.size := by omega
                  clear hfo hFL hrs hraY YS
                  go_wp2_with fail
                  refine HFO.out.mono ?_
                  rintro e w6 ⟨vv, rfl, hb6, hown6⟩
                  obtain ⟨o, oc, rfl, hia, _⟩ := intsAt_of_owns hown6
                  have u3 : w6.cell? ⟨wr.heap.size, 0, none⟩ = some (.int .i64 (i : Int)) := (hb6.cell (p := ⟨wr.heap.size, 0, none⟩) wlt).trans yz3
                  have HIA := hidE hia
                  have B6 := hidE (YB2.out.trans (hb6.mono YB2.out.size))
                  clear hown6 hia hb6
                  go_wp2_with fail
                  have hcc : Calls Tryz.prog 48 #[.slice (some ⟨w6.heap.size + 1, 0, none⟩) 2 2] ((w6.alloc (.cells #[.int .i64 (i : Int)] 3)).alloc (.cells #[.slice (some ⟨w6.heap.size, 0, none⟩) 1 1, .slice o FL.length oc] 35)) _ :=
                    concat_ints _ (w6.heap.size + 1) 2 (some ⟨w6.heap.size, 0, none⟩) 1 [(i : Int)] o oc FL ((ints_one w6 (i : Int)).alloc _) ((HIA.out.alloc _).alloc _) (by simp) hFLl (heap_alloc_at _ _ _ (by simp))
                  refine hcc.mono ?_
                  rintro e w7 ⟨v7, rfl, hown7, hb7⟩
                  have HO7 := hidE hown7
                  have B7 := hidE (((B6.out.alloc B6.out.size (.cells #[.int .i64 (i : Int)] 3)).alloc (by have := B6.out.size; simp; omega) (.cells #[.slice (some ⟨w6.heap.size, 0, none⟩) 1 1, .slice o FL.length oc] 35)).trans (hb7.mono (by have := B6.out.size; simp; omega)))
                  have hb6s := B6.out.size
                  clear hcc hown7 hb7 u3
                  go_wp2_with fail
                  go_ret3
                  refine ⟨?_, B7.out⟩
                  rw [HP.out]
                  simp only
                  rw [HRS.out]
                  exact ⟨_, rfl, ownsRow_base HO7.out (by simp; omega)⟩
                · have hg2 : decide (ym + V ≥ 0) = true := by simp; omega
                  have hsk : circHit bs (M, on) i = false := by rw [HHIT.out]; simp [hneg]
                  have HSK := hidE hsk
                  clear hsk
                  go_wp2_with fail
                  go_roundw
                  case rel => exact ⟨i + 1, by omega, by go_num, hidE (SKIP.out HSK.out), YST2⟩
                  case measure => simp [intOf]; omega
              · have hg1 : decide (V ≥ 1125899906842624) = true := by simp; omega
                have hsk : circHit bs (M, on) i = false := by rw [HHIT.out]; simp [hfar]
                have HSK := hidE hsk
                clear hsk
                go_wp2_with fail
                go_roundw
                case rel => exact ⟨i + 1, by omega, by go_num, hidE (SKIP.out HSK.out), YST2⟩
                case measure => simp [intOf]; omega
        · have hp := HP0.out (fun q hq => hno.out q (by omega))
          have HP := hidE hp
          clear hp
          go_wp2_with fail
          go_ret3
          refine ⟨?_, bw⟩
          rw [HP.out]
          exact ⟨_, rfl, World.ownsRow_nil _ _ _ _⟩

theorem circle_any (w : World) (N : Int) (a : Option Addr) (cap : Nat) (bs : List Bd) (hN : i64ok N) (hl : bs.length ≤ 9223372036854775807) (h : BoundsAt w a bs) :
    Calls Tryz.prog 18 #[.agg #[.int .i64 N, .slice a bs.length cap]] w fun e w' => ThroughPost (circleP N bs).1 (circleP N bs).2.1 (circleP N bs).2.2 w.heap.size e w' ∧ Below w.heap.size w w' := by
  by_cases hc : checkP N bs = 0 ∧ openedP N bs = none
  · obtain ⟨R, rfl, _⟩ := allValid_of hc.1
    exact circle_main w R a cap bs hc.1 hc.2 h
  · exact circle_not w N a cap bs hN hl h hc

end Go.Proofs.YthcmjhellpjllaaGreat

/- Plain laws: the records of a list, sorted and without doubles, are those put in one by one. No conditions beyond those stated. -/
namespace Go.Proofs.YthcmjhellpjllaaGreat
open Go

theorem compactUpTo_asc (d : Array Int) (hs : ∀ i j, i ≤ j → j < d.size → d[i]! ≤ d[j]!) : ∀ m, m ≤ d.size → (Lib.compactUpTo d m).Pairwise (· < ·) ∧ ∀ x, x ∈ Lib.compactUpTo d m ↔ ∃ j, j < m ∧ d[j]! = x
  | 0, _ => by simp [Lib.compactUpTo]
  | m + 1, hm => by
    obtain ⟨h1, h2⟩ := compactUpTo_asc d hs m (by omega)
    rw [Lib.compactUpTo_succ]
    by_cases hk : Lib.keeps d m = true
    · rw [if_pos hk]
      refine ⟨?_, fun x => ?_⟩
      · rw [List.pairwise_append]
        refine ⟨h1, by simp, fun x hx y hy => ?_⟩
        rw [List.mem_singleton.1 hy]
        obtain ⟨j, hj, rfl⟩ := (h2 x).1 hx
        have hk2 := of_decide_eq_true hk
        rcases hk2 with e | e
        · omega
        · have := hs j (m - 1) (by omega) (by omega)
          have := hs (m - 1) m (by omega) (by omega)
          omega
      · rw [List.mem_append, h2 x, List.mem_singleton]
        constructor
        · rintro (⟨j, hj, e⟩ | e)
          · exact ⟨j, by omega, e⟩
          · exact ⟨m, by omega, e.symm⟩
        · rintro ⟨j, hj, e⟩
          by_cases he : j = m
          · subst he; exact .inr e.symm
          · exact .inl ⟨j, by omega, e⟩
    · rw [if_neg hk, List.append_nil]
      refine ⟨h1, fun x => ?_⟩
      rw [h2 x]
      have hk2 : ¬ (m = 0 ∨ d[m]! ≠ d[m - 1]!) := fun e => hk (decide_eq_true e)
      have hk3 : m ≠ 0 ∧ d[m]! = d[m - 1]! := ⟨fun e => hk2 (.inl e), Classical.byContradiction fun e => hk2 (.inr e)⟩
      constructor
      · rintro ⟨j, hj, e⟩; exact ⟨j, by omega, e⟩
      · rintro ⟨j, hj, e⟩
        by_cases he : j = m
        · subst he; exact ⟨j - 1, by omega, by rw [← e, hk3.2]⟩
        · exact ⟨j, by omega, e⟩

theorem compact_asc {l : List Int} (hs : l.Pairwise (· ≤ ·)) : (Lib.compact l).Pairwise (· < ·) ∧ ∀ x, x ∈ Lib.compact l ↔ x ∈ l := by
  have hs' : ∀ i j, i ≤ j → j < l.toArray.size → l.toArray[i]! ≤ l.toArray[j]! := by
    intro i j hij hj
    have hj' : j < l.length := by simpa using hj
    rw [List.getElem!_toArray, List.getElem!_toArray, getElem!_pos l i (by omega), getElem!_pos l j hj']
    rcases Nat.lt_or_eq_of_le hij with h | h
    · exact List.pairwise_iff_getElem.1 hs i j (by omega) hj' h
    · subst h; exact Int.le_refl _
  obtain ⟨h1, h2⟩ := compactUpTo_asc l.toArray hs' l.length (by simp)
  refine ⟨h1, fun x => (h2 x).trans ⟨?_, ?_⟩⟩
  · rintro ⟨j, hj, rfl⟩
    rw [List.getElem!_toArray, getElem!_pos l j hj]; exact List.getElem_mem _
  · intro hx
    obtain ⟨j, hj, e⟩ := List.mem_iff_getElem.1 hx
    exact ⟨j, hj, by rw [List.getElem!_toArray, getElem!_pos l j hj, e]⟩

theorem sortP_le (l : List Int) : (sortP l).Pairwise (· ≤ ·) := by
  have h := List.pairwise_mergeSort (le := fun x y : Int => decide (x ≤ y)) (fun a b c h1 h2 => by simp at *; omega) (fun a b => by simp; omega) l
  exact h.imp (fun h => by simpa using h)
theorem mem_sortP {l : List Int} {x : Int} : x ∈ sortP l ↔ x ∈ l := by unfold sortP; exact List.mem_mergeSort
theorem recordsP_asc (bs : List Bd) : (recordsP bs).Pairwise (· < ·) := (compact_asc (sortP_le _)).1
theorem mem_recordsP {bs : List Bd} {x : Int} : x ∈ recordsP bs ↔ ∃ b ∈ bs, 0 < b.rcd ∧ b.rcd = x := by
  unfold recordsP
  rw [(compact_asc (sortP_le _)).2, mem_sortP]
  unfold rcds
  simp only [List.mem_map, List.mem_filter, decide_eq_true_eq, and_assoc]

/-- The reference's Blame: the records put in one by one. -/
def blStep (fine : Int → Bool) (out : List Int) (b : Bd) : List Int := if 0 < b.rcd ∧ fine b.rcd = true then insertP out b.rcd else out
theorem blFold_asc (fine : Int → Bool) : ∀ (bs : List Bd) (out : List Int), out.Pairwise (· < ·) → (bs.foldl (blStep fine) out).Pairwise (· < ·) ∧ ∀ x, x ∈ bs.foldl (blStep fine) out ↔ x ∈ out ∨ ∃ b ∈ bs, 0 < b.rcd ∧ fine b.rcd = true ∧ b.rcd = x
  | [], out, h => by simp [h]
  | b :: bs, out, h => by
    rw [List.foldl_cons]
    have hs : (blStep fine out b).Pairwise (· < ·) ∧ ∀ x, x ∈ blStep fine out b ↔ x ∈ out ∨ (0 < b.rcd ∧ fine b.rcd = true ∧ b.rcd = x) := by
      unfold blStep
      split
      · rename_i hc
        refine ⟨insertP_asc h, fun x => ?_⟩
        rw [mem_insertP]
        constructor
        · rintro (e | e)
          · exact .inr ⟨hc.1, hc.2, e.symm⟩
          · exact .inl e
        · rintro (e | ⟨_, _, e⟩)
          · exact .inr e
          · exact .inl e.symm
      · rename_i hc
        refine ⟨h, fun x => ⟨.inl, ?_⟩⟩
        rintro (e | ⟨e1, e2, _⟩)
        · exact e
        · exact absurd ⟨e1, e2⟩ hc
    obtain ⟨h1, h2⟩ := blFold_asc fine bs _ hs.1
    refine ⟨h1, fun x => ?_⟩
    rw [h2 x, hs.2 x]
    simp only [List.mem_cons, exists_eq_or_imp]
    constructor
    · rintro ((e | e) | e)
      · exact .inl e
      · exact .inr (.inl e)
      · exact .inr (.inr e)
    · rintro (e | e | e)
      · exact .inl (.inl e)
      · exact .inl (.inr e)
      · exact .inr e

theorem blame_fold (fine : Int → Bool) (bs : List Bd) : bs.foldl (blStep fine) [] = (recordsP bs).filter fine := by
  obtain ⟨h1, h2⟩ := blFold_asc fine bs [] List.Pairwise.nil
  refine asc_ext h1 ((recordsP_asc bs).sublist List.filter_sublist) (fun x => ?_)
  rw [h2 x, List.mem_filter, mem_recordsP]
  constructor
  · rintro (e | ⟨b, hb, e1, e2, rfl⟩)
    · simp at e
    · exact ⟨⟨b, hb, e1, rfl⟩, e2⟩
  · rintro ⟨⟨b, hb, e1, rfl⟩, e2⟩
    exact .inr ⟨b, hb, e1, e2, rfl⟩

theorem blFold_len (fine : Int → Bool) : ∀ (bs : List Bd) (out : List Int), (bs.foldl (blStep fine) out).length ≤ out.length + bs.length
  | [], out => Nat.le_refl _
  | b :: bs, out => by
    rw [List.foldl_cons]
    have := blFold_len fine bs (blStep fine out b)
    have h2 : (blStep fine out b).length ≤ out.length + 1 := by
      unfold blStep insertP
      split
      · split
        · omega
        · simp; have := insAt_le out b.rcd; omega
      · omega
    simp only [List.length_cons]; omega

end Go.Proofs.YthcmjhellpjllaaGreat

/- Plain facts: what the calls of alive come to. No conditions. -/
namespace Go.Proofs.YthcmjhellpjllaaGreat

def circP : List Bd := sampleP ++ [⟨2, 0, -9, 5⟩]

theorem al_distance : distanceP 4 sampleP 0 2 = (8, true, 0) := by decide +kernel
theorem al_path : pathE 4 sampleP 0 2 = ([0, 2], 0) := by decide +kernel
theorem al_range0 : askedE 4 sampleP [0, 2] = 0 := by decide +kernel
theorem al_range1 : distN 4 sampleP 0 2 = 8 := by decide +kernel
theorem al_range2 : distN 4 sampleP 2 0 = -3 := by decide +kernel
theorem al_range : betweenP 4 sampleP 0 2 = (⟨3, 8, true, true⟩, 0) := by
  unfold betweenP spP
  rw [if_pos al_range0]
  show (_, _) = _
  rw [show distN (4 : Int).toNat sampleP (0 : Int).toNat (2 : Int).toNat = 8 from al_range1, show distN (4 : Int).toNat sampleP (2 : Int).toNat (0 : Int).toNat = -3 from al_range2]
  rfl
theorem al_some : someE 4 sampleP = ([0, 5, 8, 0], 0) := by decide +kernel
theorem al_through : throughE 4 sampleP 1 3 = ([0, 3, 6, 0], true, 0) := by decide +kernel
theorem al_needless : needlessE 4 sampleP = ([4], 0) := by decide +kernel
theorem al_circle : circleP 4 circP = ([0, 2, 5], true, 0) := by decide +kernel
theorem al_blame0 : circP.foldl (blStep (blamed 4 circP)) [] = [1, 3, 5] := by decide +kernel
theorem al_blame1 : checkP 4 circP = 0 := by decide +kernel
theorem al_blame2 : (openedP 4 circP).isSome = false := by decide +kernel
theorem al_blame : blameE 4 circP = ([1, 3, 5], 0) := by
  unfold blameE
  rw [if_pos al_blame1, al_blame2, ← blame_fold, al_blame0]; rfl

end Go.Proofs.YthcmjhellpjllaaGreat

/- Walks: alive. -/
namespace Go.Proofs.YthcmjhellpjllaaGreat
open Go Go.RowKit Go.Shelf

theorem owns_intsAt {W : World} {base : Nat} {v : Value} {l : List Int} (h : W.ownsRow base 3 1 v l.length (intsV l)) : ∃ o c, v = .slice o l.length c ∧ IntsAt W o l := by
  obtain ⟨o, c, h1, h2, _⟩ := intsAt_of_owns h
  exact ⟨o, c, h1, h2⟩

/-- A list that a composite literal makes. -/
theorem ints_lit (w : World) (l : List Int) : IntsAt (w.alloc (.cells (intsV l).toArray 3)) (some ⟨w.heap.size, 0, none⟩) l := by
  refine .inr ⟨w.heap.size, 0, rfl, by simp, fun i hi => ?_⟩
  rw [cell_of_row _ _ _ _ _ _ (heap_alloc_new w _), Nat.zero_add]
  simp [intsV, hi]

/-- The same lists. -/
theorem same_lit (w : World) (o : Option Addr) (c : Nat) (p l : List Int) (hp : Hid (p = l)) (h : IntsAt w o p) (hl : l.length ≤ 1000) (n : Nat) (hn : l.length = n) :
    Calls Tryz.prog 20 #[.slice o p.length c, .slice (some ⟨w.heap.size, 0, none⟩) n n] (w.alloc (.cells (intsV l).toArray 3)) fun e w' => e = .returned (.bool true) ∧ Below (w.heap.size + 1) (w.alloc (.cells (intsV l).toArray 3)) w' := by
  subst hn
  have e := hp.out
  have H := sameInts_any (w.alloc (.cells (intsV l).toArray 3)) o c p (some ⟨w.heap.size, 0, none⟩) l.length l (h.alloc _) (ints_lit w l) (by rw [e]; omega) (by omega)
  rw [show decide (p = l) = true by simpa using e] at H
  refine H.mono fun e w' ⟨h1, h2⟩ => ⟨h1, ?_⟩
  simpa using h2

set_option maxRecDepth 100000 in
set_option maxHeartbeats 4000000 in
theorem alive_any (w : World) : Calls Tryz.prog 5 #[] w fun e w' => e = .returned (.bool true) ∧ Below w.heap.size w w' := by
  go_enter Tryz.func5, Tryz.ntmps5
  go_wp2_with fail
  refine (sample_any _).mono ?_
  rintro e w0 ⟨v, rfl, ho, hb0⟩
  obtain ⟨o, c, rfl, hbs, hsl⟩ := boundsAt_of_out ho
  have B0 := hidE hb0
  have S0 := hidE hbs
  clear ho hbs hsl hb0
  go_upto_region 2 with fail
  obtain ⟨W0, hW⟩ : ∃ W0, W0 = w0.alloc (.cells #[.int .i64 4, .slice o sampleP.length c] 24) := ⟨_, rfl⟩
  rw [← hW]
  have BB0 : Hid (Below w.heap.size w W0) := hidE (by rw [hW]; exact B0.out.alloc B0.out.size _)
  have SS0 : Hid (BoundsAt W0 o sampleP) := hidE (by rw [hW]; exact S0.out.alloc _)
  have XX0 : Hid (W0.heap[w0.heap.size]? = some (.cells #[.int .i64 4, .slice o sampleP.length c] 24 (0,0))) := hidE (by rw [hW]; exact heap_alloc_new _ _)
  clear hW B0 S0
  have e0 : W0.cell? ⟨w0.heap.size, 0, none⟩ = some (.int .i64 4) := by rw [cell_of_row _ _ _ _ _ _ XX0.out]; rfl
  have e1 : W0.cell? ⟨w0.heap.size, 1, none⟩ = some (.slice o sampleP.length c) := by rw [cell_of_row _ _ _ _ _ _ XX0.out]; rfl
  have hc : Calls Tryz.prog 11 #[.agg #[.int .i64 4, .slice o sampleP.length c], .int .i64 0, .int .i64 2] W0 fun e w' => e = .returned (.tuple #[.int .i64 8, .bool true, .int .i64 0]) ∧ Below W0.heap.size W0 w' := by
    have h := distance_any W0 4 o c sampleP 0 2 (by unfold i64ok; omega) (by decide) SS0.out
    rw [al_distance] at h; exact h
  have HC := hidE hc
  clear hc
  go_wp2_with fail
  refine HC.out.mono ?_
  rintro e W1 ⟨rfl, hbx⟩
  clear HC e0 e1
  have hb : Below W0.heap.size W0 W1 := hbx
  have BB1 : Hid (Below w.heap.size w W1) := hidE (BB0.out.trans (hb.mono BB0.out.size))
  have SS1 : Hid (BoundsAt W1 o sampleP) := hidE (SS0.out.below hb (Nat.le_refl _))
  have XX1 := hidE (blk_below hb (lt_of_block XX0.out) XX0.out)
  clear hb BB0 SS0 XX0
  clear hbx
  obtain ⟨p, hp⟩ : ∃ l : List Int, l = [0, 2] := ⟨_, rfl⟩
  have e0 : W1.cell? ⟨w0.heap.size, 0, none⟩ = some (.int .i64 4) := by rw [cell_of_row _ _ _ _ _ _ XX1.out]; rfl
  have e1 : W1.cell? ⟨w0.heap.size, 1, none⟩ = some (.slice o sampleP.length c) := by rw [cell_of_row _ _ _ _ _ _ XX1.out]; rfl
  have hc : Calls Tryz.prog 12 #[.agg #[.int .i64 4, .slice o sampleP.length c], .int .i64 0, .int .i64 2] W1 fun e w' => (∃ v, e = .returned (.tuple #[v, .int .i64 0]) ∧ w'.ownsRow W1.heap.size 3 1 v p.length (intsV p)) ∧ Below W1.heap.size W1 w' := by
    have h := path_any W1 4 o c sampleP 0 2 (by unfold i64ok; omega) (by decide) SS1.out
    rw [al_path] at h; rw [hp]; exact h
  have HC := hidE hc
  clear hc
  go_wp2_with fail
  refine HC.out.mono ?_
  rintro e W2 ⟨⟨v, rfl, hown⟩, hbx⟩
  clear HC e0 e1
  obtain ⟨op, cp, rfl, hli⟩ := owns_intsAt hown
  have Ep := hidE hp
  clear hp hown
  have hb : Below W1.heap.size W1 W2 := hbx
  have BB2 : Hid (Below w.heap.size w W2) := hidE (BB1.out.trans (hb.mono BB1.out.size))
  have SS2 : Hid (BoundsAt W2 o sampleP) := hidE (SS1.out.below hb (Nat.le_refl _))
  have XX2 := hidE (blk_below hb (lt_of_block XX1.out) XX1.out)
  clear hb BB1 SS1 XX1
  have Lp2 := hidE hli
  clear hli hbx
  have e0 : W2.cell? ⟨w0.heap.size, 0, none⟩ = some (.int .i64 4) := by rw [cell_of_row _ _ _ _ _ _ XX2.out]; rfl
  have e1 : W2.cell? ⟨w0.heap.size, 1, none⟩ = some (.slice o sampleP.length c) := by rw [cell_of_row _ _ _ _ _ _ XX2.out]; rfl
  have hc : Calls Tryz.prog 13 #[.agg #[.int .i64 4, .slice o sampleP.length c], .int .i64 2] W2 fun e w' => e = .returned (.tuple #[.agg #[.int .i64 3, .int .i64 8, .bool true, .bool true], .int .i64 0]) ∧ Below W2.heap.size W2 w' := by
    have h := range_any W2 4 o c sampleP 2 (by unfold i64ok; omega) (by decide) SS2.out
    rw [al_range] at h; exact h
  have HC := hidE hc
  clear hc
  go_wp2_with fail
  refine HC.out.mono ?_
  rintro e W3 ⟨rfl, hbx⟩
  clear HC e0 e1
  have hb : Below W2.heap.size W2 W3 := hbx
  have BB3 : Hid (Below w.heap.size w W3) := hidE (BB2.out.trans (hb.mono BB2.out.size))
  have SS3 : Hid (BoundsAt W3 o sampleP) := hidE (SS2.out.below hb (Nat.le_refl _))
  have XX3 := hidE (blk_below hb (lt_of_block XX2.out) XX2.out)
  have Lp3 : Hid (IntsAt W3 op p) := hidE (Lp2.out.below hb (Nat.le_refl _))
  clear hb BB2 SS2 XX2 Lp2
  clear hbx
  go_upto_region 5 with fail
  obtain ⟨W4, hW⟩ : ∃ W', W' = W3.alloc (.cells #[.int .i64 3, .int .i64 8, .bool true, .bool true] 39) := ⟨_, rfl⟩
  rw [← hW]
  have hsp : W4.heap[W3.heap.size]? = some (.cells #[.int .i64 3, .int .i64 8, .bool true, .bool true] 39 (0,0)) := by rw [hW]; exact heap_alloc_new _ _
  have hb : Below W3.heap.size W3 W4 := by rw [hW]; exact (Below.refl _ _).alloc (Nat.le_refl _) _
  have BB4 : Hid (Below w.heap.size w W4) := hidE (BB3.out.trans (hb.mono BB3.out.size))
  have SS4 : Hid (BoundsAt W4 o sampleP) := hidE (SS3.out.below hb (Nat.le_refl _))
  have XX4 := hidE (blk_below hb (lt_of_block XX3.out) XX3.out)
  have Lp4 : Hid (IntsAt W4 op p) := hidE (Lp3.out.below hb (Nat.le_refl _))
  clear hb BB3 SS3 XX3 Lp3
  have SP4 := hidE hsp
  clear hW hsp
  obtain ⟨y, hy⟩ : ∃ l : List Int, l = [0, 5, 8, 0] := ⟨_, rfl⟩
  have e0 : W4.cell? ⟨w0.heap.size, 0, none⟩ = some (.int .i64 4) := by rw [cell_of_row _ _ _ _ _ _ XX4.out]; rfl
  have e1 : W4.cell? ⟨w0.heap.size, 1, none⟩ = some (.slice o sampleP.length c) := by rw [cell_of_row _ _ _ _ _ _ XX4.out]; rfl
  have hc : Calls Tryz.prog 14 #[.agg #[.int .i64 4, .slice o sampleP.length c]] W4 fun e w' => (∃ v, e = .returned (.tuple #[v, .int .i64 0]) ∧ w'.ownsRow W4.heap.size 3 1 v y.length (intsV y)) ∧ Below W4.heap.size W4 w' := by
    have h := someE_any W4 4 o c sampleP (by unfold i64ok; omega) (by decide) SS4.out
    rw [al_some] at h; rw [hy]; exact h
  have HC := hidE hc
  clear hc
  go_wp2_with fail
  refine HC.out.mono ?_
  rintro e W5 ⟨⟨v, rfl, hown⟩, hbx⟩
  clear HC e0 e1
  obtain ⟨oy, cy, rfl, hli⟩ := owns_intsAt hown
  have Ey := hidE hy
  clear hy hown
  have hb : Below W4.heap.size W4 W5 := hbx
  have BB5 : Hid (Below w.heap.size w W5) := hidE (BB4.out.trans (hb.mono BB4.out.size))
  have SS5 : Hid (BoundsAt W5 o sampleP) := hidE (SS4.out.below hb (Nat.le_refl _))
  have XX5 := hidE (blk_below hb (lt_of_block XX4.out) XX4.out)
  have Lp5 : Hid (IntsAt W5 op p) := hidE (Lp4.out.below hb (Nat.le_refl _))
  have SP5 := hidE (blk_below hb (lt_of_block SP4.out) SP4.out)
  clear hb BB4 SS4 XX4 Lp4 SP4
  have Ly5 := hidE hli
  clear hli hbx
  obtain ⟨x, hx⟩ : ∃ l : List Int, l = [0, 3, 6, 0] := ⟨_, rfl⟩
  have e0 : W5.cell? ⟨w0.heap.size, 0, none⟩ = some (.int .i64 4) := by rw [cell_of_row _ _ _ _ _ _ XX5.out]; rfl
  have e1 : W5.cell? ⟨w0.heap.size, 1, none⟩ = some (.slice o sampleP.length c) := by rw [cell_of_row _ _ _ _ _ _ XX5.out]; rfl
  have hc : Calls Tryz.prog 15 #[.agg #[.int .i64 4, .slice o sampleP.length c], .int .i64 1, .int .i64 3] W5 fun e w' => (∃ v, e = .returned (.tuple #[v, .bool true, .int .i64 0]) ∧ w'.ownsRow W5.heap.size 3 1 v x.length (intsV x)) ∧ Below W5.heap.size W5 w' := by
    have h := through_any W5 4 o c sampleP 1 3 (by unfold i64ok; omega) (by decide) SS5.out
    rw [al_through] at h; rw [hx]; exact h
  have HC := hidE hc
  clear hc
  go_wp2_with fail
  refine HC.out.mono ?_
  rintro e W6 ⟨⟨v, rfl, hown⟩, hbx⟩
  clear HC e0 e1
  obtain ⟨ox, cx, rfl, hli⟩ := owns_intsAt hown
  have Ex := hidE hx
  clear hx hown
  have hb : Below W5.heap.size W5 W6 := hbx
  have BB6 : Hid (Below w.heap.size w W6) := hidE (BB5.out.trans (hb.mono BB5.out.size))
  have SS6 : Hid (BoundsAt W6 o sampleP) := hidE (SS5.out.below hb (Nat.le_refl _))
  have XX6 := hidE (blk_below hb (lt_of_block XX5.out) XX5.out)
  have Lp6 : Hid (IntsAt W6 op p) := hidE (Lp5.out.below hb (Nat.le_refl _))
  have Ly6 : Hid (IntsAt W6 oy y) := hidE (Ly5.out.below hb (Nat.le_refl _))
  have SP6 := hidE (blk_below hb (lt_of_block SP5.out) SP5.out)
  clear hb BB5 SS5 XX5 Lp5 Ly5 SP5
  have Lx6 := hidE hli
  clear hli hbx
  obtain ⟨n, hn⟩ : ∃ l : List Int, l = [4] := ⟨_, rfl⟩
  have e0 : W6.cell? ⟨w0.heap.size, 0, none⟩ = some (.int .i64 4) := by rw [cell_of_row _ _ _ _ _ _ XX6.out]; rfl
  have e1 : W6.cell? ⟨w0.heap.size, 1, none⟩ = some (.slice o sampleP.length c) := by rw [cell_of_row _ _ _ _ _ _ XX6.out]; rfl
  have hc : Calls Tryz.prog 16 #[.agg #[.int .i64 4, .slice o sampleP.length c]] W6 fun e w' => (∃ v, e = .returned (.tuple #[v, .int .i64 0]) ∧ w'.ownsRow W6.heap.size 3 1 v n.length (intsV n)) ∧ Below W6.heap.size W6 w' := by
    have h := needless_any W6 4 o c sampleP (by unfold i64ok; omega) (by decide) SS6.out
    rw [al_needless] at h; rw [hn]; exact h
  have HC := hidE hc
  clear hc
  go_wp2_with fail
  refine HC.out.mono ?_
  rintro e W7 ⟨⟨v, rfl, hown⟩, hbx⟩
  clear HC e0 e1
  obtain ⟨on, cn, rfl, hli⟩ := owns_intsAt hown
  have En := hidE hn
  clear hn hown
  have hb : Below W6.heap.size W6 W7 := hbx
  have BB7 : Hid (Below w.heap.size w W7) := hidE (BB6.out.trans (hb.mono BB6.out.size))
  have SS7 : Hid (BoundsAt W7 o sampleP) := hidE (SS6.out.below hb (Nat.le_refl _))
  have XX7 := hidE (blk_below hb (lt_of_block XX6.out) XX6.out)
  have Lp7 : Hid (IntsAt W7 op p) := hidE (Lp6.out.below hb (Nat.le_refl _))
  have Ly7 : Hid (IntsAt W7 oy y) := hidE (Ly6.out.below hb (Nat.le_refl _))
  have Lx7 : Hid (IntsAt W7 ox x) := hidE (Lx6.out.below hb (Nat.le_refl _))
  have SP7 := hidE (blk_below hb (lt_of_block SP6.out) SP6.out)
  clear hb BB6 SS6 XX6 Lp6 Ly6 Lx6 SP6
  have Ln7 := hidE hli
  clear hli hbx
  have e0 : W7.cell? ⟨w0.heap.size, 0, none⟩ = some (.int .i64 4) := by rw [cell_of_row _ _ _ _ _ _ XX7.out]; rfl
  have e1 : W7.cell? ⟨w0.heap.size, 1, none⟩ = some (.slice o sampleP.length c) := by rw [cell_of_row _ _ _ _ _ _ XX7.out]; rfl
  have HC := hidE (with_any W7 4 o c sampleP ⟨2, 0, -9, 5⟩ (by decide) SS7.out)
  go_wp2_with fail
  refine HC.out.mono ?_
  rintro e W8 ⟨v, rfl, ho, hbx⟩
  clear HC e0 e1
  obtain ⟨o2, c2, rfl, hbs, hsl⟩ := boundsAt_of_out ho
  have hb : Below W7.heap.size W7 W8 := hbx
  have BB8 : Hid (Below w.heap.size w W8) := hidE (BB7.out.trans (hb.mono BB7.out.size))
  have SS8 : Hid (BoundsAt W8 o sampleP) := hidE (SS7.out.below hb (Nat.le_refl _))
  have XX8 := hidE (blk_below hb (lt_of_block XX7.out) XX7.out)
  have Lp8 : Hid (IntsAt W8 op p) := hidE (Lp7.out.below hb (Nat.le_refl _))
  have Ly8 : Hid (IntsAt W8 oy y) := hidE (Ly7.out.below hb (Nat.le_refl _))
  have Lx8 : Hid (IntsAt W8 ox x) := hidE (Lx7.out.below hb (Nat.le_refl _))
  have Ln8 : Hid (IntsAt W8 on n) := hidE (Ln7.out.below hb (Nat.le_refl _))
  have SP8 := hidE (blk_below hb (lt_of_block SP7.out) SP7.out)
  clear hb BB7 SS7 XX7 Lp7 Ly7 Lx7 Ln7 SP7
  have S2 : Hid (BoundsAt W8 o2 circP) := hidE hbs
  have SL2 : Hid (SliceOk o2 circP.length c2) := hidE hsl
  clear ho hbs hsl hbx
  have hcl : (sampleP ++ [(⟨2, 0, -9, 5⟩ : Bd)]).length = circP.length := rfl
  rw [hcl]
  clear hcl
  go_upto_region 9 with fail
  obtain ⟨W9, hW⟩ : ∃ W', W' = W8.alloc (.cells #[.int .i64 4, .slice o2 circP.length c2] 24) := ⟨_, rfl⟩
  rw [← hW]
  have hx2 : W9.heap[W8.heap.size]? = some (.cells #[.int .i64 4, .slice o2 circP.length c2] 24 (0,0)) := by rw [hW]; exact heap_alloc_new _ _
  have hs2 : BoundsAt W9 o2 circP := by rw [hW]; exact S2.out.alloc _
  have hb : Below W8.heap.size W8 W9 := by rw [hW]; exact (Below.refl _ _).alloc (Nat.le_refl _) _
  have BB9 : Hid (Below w.heap.size w W9) := hidE (BB8.out.trans (hb.mono BB8.out.size))
  have SS9 : Hid (BoundsAt W9 o sampleP) := hidE (SS8.out.below hb (Nat.le_refl _))
  have XX9 := hidE (blk_below hb (lt_of_block XX8.out) XX8.out)
  have Lp9 : Hid (IntsAt W9 op p) := hidE (Lp8.out.below hb (Nat.le_refl _))
  have Ly9 : Hid (IntsAt W9 oy y) := hidE (Ly8.out.below hb (Nat.le_refl _))
  have Lx9 : Hid (IntsAt W9 ox x) := hidE (Lx8.out.below hb (Nat.le_refl _))
  have Ln9 : Hid (IntsAt W9 on n) := hidE (Ln8.out.below hb (Nat.le_refl _))
  have SP9 := hidE (blk_below hb (lt_of_block SP8.out) SP8.out)
  clear hb BB8 SS8 XX8 Lp8 Ly8 Lx8 Ln8 SP8
  clear SS9 XX9 S2 hW
  have XX9 := hidE hx2
  have SS9 := hidE hs2
  clear hx2 hs2
  obtain ⟨k, hk⟩ : ∃ l : List Int, l = [0, 2, 5] := ⟨_, rfl⟩
  have e0 : W9.cell? ⟨W8.heap.size, 0, none⟩ = some (.int .i64 4) := by rw [cell_of_row _ _ _ _ _ _ XX9.out]; rfl
  have e1 : W9.cell? ⟨W8.heap.size, 1, none⟩ = some (.slice o2 circP.length c2) := by rw [cell_of_row _ _ _ _ _ _ XX9.out]; rfl
  have hc : Calls Tryz.prog 18 #[.agg #[.int .i64 4, .slice o2 circP.length c2]] W9 fun e w' => (∃ v, e = .returned (.tuple #[v, .bool true, .int .i64 0]) ∧ w'.ownsRow W9.heap.size 3 1 v k.length (intsV k)) ∧ Below W9.heap.size W9 w' := by
    have h := circle_any W9 4 o2 c2 circP (by unfold i64ok; omega) (by decide) SS9.out
    rw [al_circle] at h; rw [hk]; exact h
  have HC := hidE hc
  clear hc
  go_wp2_with fail
  refine HC.out.mono ?_
  rintro e W10 ⟨⟨v, rfl, hown⟩, hbx⟩
  clear HC e0 e1
  obtain ⟨ok, ck, rfl, hli⟩ := owns_intsAt hown
  have Ek := hidE hk
  clear hk hown
  have hb : Below W9.heap.size W9 W10 := hbx
  have BB10 : Hid (Below w.heap.size w W10) := hidE (BB9.out.trans (hb.mono BB9.out.size))
  have SS10 : Hid (BoundsAt W10 o2 circP) := hidE (SS9.out.below hb (Nat.le_refl _))
  have XX10 := hidE (blk_below hb (lt_of_block XX9.out) XX9.out)
  have Lp10 : Hid (IntsAt W10 op p) := hidE (Lp9.out.below hb (Nat.le_refl _))
  have Ly10 : Hid (IntsAt W10 oy y) := hidE (Ly9.out.below hb (Nat.le_refl _))
  have Lx10 : Hid (IntsAt W10 ox x) := hidE (Lx9.out.below hb (Nat.le_refl _))
  have Ln10 : Hid (IntsAt W10 on n) := hidE (Ln9.out.below hb (Nat.le_refl _))
  have SP10 := hidE (blk_below hb (lt_of_block SP9.out) SP9.out)
  clear hb BB9 SS9 XX9 Lp9 Ly9 Lx9 Ln9 SP9
  have Lk10 := hidE hli
  clear hli hbx
  obtain ⟨b, hb⟩ : ∃ l : List Int, l = [1, 3, 5] := ⟨_, rfl⟩
  have e0 : W10.cell? ⟨W8.heap.size, 0, none⟩ = some (.int .i64 4) := by rw [cell_of_row _ _ _ _ _ _ XX10.out]; rfl
  have e1 : W10.cell? ⟨W8.heap.size, 1, none⟩ = some (.slice o2 circP.length c2) := by rw [cell_of_row _ _ _ _ _ _ XX10.out]; rfl
  have hc : Calls Tryz.prog 19 #[.agg #[.int .i64 4, .slice o2 circP.length c2]] W10 fun e w' => (∃ v, e = .returned (.tuple #[v, .int .i64 0]) ∧ w'.ownsRow W10.heap.size 3 1 v b.length (intsV b)) ∧ Below W10.heap.size W10 w' := by
    have h := blame_any W10 4 o2 c2 circP (by unfold i64ok; omega) (by decide) SL2.out SS10.out
    rw [al_blame] at h; rw [hb]; exact h
  have HC := hidE hc
  clear hc
  go_wp2_with fail
  refine HC.out.mono ?_
  rintro e W11 ⟨⟨v, rfl, hown⟩, hbx⟩
  clear HC e0 e1
  obtain ⟨ob, cb, rfl, hli⟩ := owns_intsAt hown
  have Eb := hidE hb
  clear hb hown
  have hb : Below W10.heap.size W10 W11 := hbx
  have BB11 : Hid (Below w.heap.size w W11) := hidE (BB10.out.trans (hb.mono BB10.out.size))
  have SS11 : Hid (BoundsAt W11 o2 circP) := hidE (SS10.out.below hb (Nat.le_refl _))
  have XX11 := hidE (blk_below hb (lt_of_block XX10.out) XX10.out)
  have Lp11 : Hid (IntsAt W11 op p) := hidE (Lp10.out.below hb (Nat.le_refl _))
  have Ly11 : Hid (IntsAt W11 oy y) := hidE (Ly10.out.below hb (Nat.le_refl _))
  have Lx11 : Hid (IntsAt W11 ox x) := hidE (Lx10.out.below hb (Nat.le_refl _))
  have Ln11 : Hid (IntsAt W11 on n) := hidE (Ln10.out.below hb (Nat.le_refl _))
  have Lk11 : Hid (IntsAt W11 ok k) := hidE (Lk10.out.below hb (Nat.le_refl _))
  have SP11 := hidE (blk_below hb (lt_of_block SP10.out) SP10.out)
  clear hb BB10 SS10 XX10 Lp10 Ly10 Lx10 Ln10 Lk10 SP10
  have Lb11 := hidE hli
  clear hli hbx
  have zz : ∀ x : Int, x = x := fun _ => rfl
  have HC := hidE (same_lit W11 op cp p [0, 2] Ep Lp11.out (by decide) 2 rfl)
  go_wp2_with fail
  refine HC.out.mono ?_
  rintro e W12 ⟨rfl, hbx⟩
  clear HC
  have hb : Below W11.heap.size W11 W12 := ((Below.refl _ _).alloc (Nat.le_refl _) _).trans (hbx.mono (by omega))
  have BB12 : Hid (Below w.heap.size w W12) := hidE (BB11.out.trans (hb.mono BB11.out.size))
  have SS12 : Hid (BoundsAt W12 o2 circP) := hidE (SS11.out.below hb (Nat.le_refl _))
  have XX12 := hidE (blk_below hb (lt_of_block XX11.out) XX11.out)
  have Lp12 : Hid (IntsAt W12 op p) := hidE (Lp11.out.below hb (Nat.le_refl _))
  have Ly12 : Hid (IntsAt W12 oy y) := hidE (Ly11.out.below hb (Nat.le_refl _))
  have Lx12 : Hid (IntsAt W12 ox x) := hidE (Lx11.out.below hb (Nat.le_refl _))
  have Ln12 : Hid (IntsAt W12 on n) := hidE (Ln11.out.below hb (Nat.le_refl _))
  have Lk12 : Hid (IntsAt W12 ok k) := hidE (Lk11.out.below hb (Nat.le_refl _))
  have Lb12 : Hid (IntsAt W12 ob b) := hidE (Lb11.out.below hb (Nat.le_refl _))
  have SP12 := hidE (blk_below hb (lt_of_block SP11.out) SP11.out)
  clear hb BB11 SS11 XX11 Lp11 Ly11 Lx11 Ln11 Lk11 Lb11 SP11
  clear hbx
  have HC := hidE (same_lit W12 oy cy y [0, 5, 8, 0] Ey Ly12.out (by decide) 4 rfl)
  go_wp2_with fail
  refine HC.out.mono ?_
  rintro e W13 ⟨rfl, hbx⟩
  clear HC
  have hb : Below W12.heap.size W12 W13 := ((Below.refl _ _).alloc (Nat.le_refl _) _).trans (hbx.mono (by omega))
  have BB13 : Hid (Below w.heap.size w W13) := hidE (BB12.out.trans (hb.mono BB12.out.size))
  have SS13 : Hid (BoundsAt W13 o2 circP) := hidE (SS12.out.below hb (Nat.le_refl _))
  have XX13 := hidE (blk_below hb (lt_of_block XX12.out) XX12.out)
  have Lp13 : Hid (IntsAt W13 op p) := hidE (Lp12.out.below hb (Nat.le_refl _))
  have Ly13 : Hid (IntsAt W13 oy y) := hidE (Ly12.out.below hb (Nat.le_refl _))
  have Lx13 : Hid (IntsAt W13 ox x) := hidE (Lx12.out.below hb (Nat.le_refl _))
  have Ln13 : Hid (IntsAt W13 on n) := hidE (Ln12.out.below hb (Nat.le_refl _))
  have Lk13 : Hid (IntsAt W13 ok k) := hidE (Lk12.out.below hb (Nat.le_refl _))
  have Lb13 : Hid (IntsAt W13 ob b) := hidE (Lb12.out.below hb (Nat.le_refl _))
  have SP13 := hidE (blk_below hb (lt_of_block SP12.out) SP12.out)
  clear hb BB12 SS12 XX12 Lp12 Ly12 Lx12 Ln12 Lk12 Lb12 SP12
  clear hbx
  have HC := hidE (same_lit W13 ox cx x [0, 3, 6, 0] Ex Lx13.out (by decide) 4 rfl)
  go_wp2_with fail
  refine HC.out.mono ?_
  rintro e W14 ⟨rfl, hbx⟩
  clear HC
  have hb : Below W13.heap.size W13 W14 := ((Below.refl _ _).alloc (Nat.le_refl _) _).trans (hbx.mono (by omega))
  have BB14 : Hid (Below w.heap.size w W14) := hidE (BB13.out.trans (hb.mono BB13.out.size))
  have SS14 : Hid (BoundsAt W14 o2 circP) := hidE (SS13.out.below hb (Nat.le_refl _))
  have XX14 := hidE (blk_below hb (lt_of_block XX13.out) XX13.out)
  have Lp14 : Hid (IntsAt W14 op p) := hidE (Lp13.out.below hb (Nat.le_refl _))
  have Ly14 : Hid (IntsAt W14 oy y) := hidE (Ly13.out.below hb (Nat.le_refl _))
  have Lx14 : Hid (IntsAt W14 ox x) := hidE (Lx13.out.below hb (Nat.le_refl _))
  have Ln14 : Hid (IntsAt W14 on n) := hidE (Ln13.out.below hb (Nat.le_refl _))
  have Lk14 : Hid (IntsAt W14 ok k) := hidE (Lk13.out.below hb (Nat.le_refl _))
  have Lb14 : Hid (IntsAt W14 ob b) := hidE (Lb13.out.below hb (Nat.le_refl _))
  have SP14 := hidE (blk_below hb (lt_of_block SP13.out) SP13.out)
  clear hb BB13 SS13 XX13 Lp13 Ly13 Lx13 Ln13 Lk13 Lb13 SP13
  clear hbx
  have HC := hidE (same_lit W14 on cn n [4] En Ln14.out (by decide) 1 rfl)
  go_wp2_with fail
  refine HC.out.mono ?_
  rintro e W15 ⟨rfl, hbx⟩
  clear HC
  have hb : Below W14.heap.size W14 W15 := ((Below.refl _ _).alloc (Nat.le_refl _) _).trans (hbx.mono (by omega))
  have BB15 : Hid (Below w.heap.size w W15) := hidE (BB14.out.trans (hb.mono BB14.out.size))
  have SS15 : Hid (BoundsAt W15 o2 circP) := hidE (SS14.out.below hb (Nat.le_refl _))
  have XX15 := hidE (blk_below hb (lt_of_block XX14.out) XX14.out)
  have Lp15 : Hid (IntsAt W15 op p) := hidE (Lp14.out.below hb (Nat.le_refl _))
  have Ly15 : Hid (IntsAt W15 oy y) := hidE (Ly14.out.below hb (Nat.le_refl _))
  have Lx15 : Hid (IntsAt W15 ox x) := hidE (Lx14.out.below hb (Nat.le_refl _))
  have Ln15 : Hid (IntsAt W15 on n) := hidE (Ln14.out.below hb (Nat.le_refl _))
  have Lk15 : Hid (IntsAt W15 ok k) := hidE (Lk14.out.below hb (Nat.le_refl _))
  have Lb15 : Hid (IntsAt W15 ob b) := hidE (Lb14.out.below hb (Nat.le_refl _))
  have SP15 := hidE (blk_below hb (lt_of_block SP14.out) SP14.out)
  clear hb BB14 SS14 XX14 Lp14 Ly14 Lx14 Ln14 Lk14 Lb14 SP14
  clear hbx
  have HC := hidE (same_lit W15 ok ck k [0, 2, 5] Ek Lk15.out (by decide) 3 rfl)
  go_wp2_with fail
  refine HC.out.mono ?_
  rintro e W16 ⟨rfl, hbx⟩
  clear HC
  have hb : Below W15.heap.size W15 W16 := ((Below.refl _ _).alloc (Nat.le_refl _) _).trans (hbx.mono (by omega))
  have BB16 : Hid (Below w.heap.size w W16) := hidE (BB15.out.trans (hb.mono BB15.out.size))
  have SS16 : Hid (BoundsAt W16 o2 circP) := hidE (SS15.out.below hb (Nat.le_refl _))
  have XX16 := hidE (blk_below hb (lt_of_block XX15.out) XX15.out)
  have Lp16 : Hid (IntsAt W16 op p) := hidE (Lp15.out.below hb (Nat.le_refl _))
  have Ly16 : Hid (IntsAt W16 oy y) := hidE (Ly15.out.below hb (Nat.le_refl _))
  have Lx16 : Hid (IntsAt W16 ox x) := hidE (Lx15.out.below hb (Nat.le_refl _))
  have Ln16 : Hid (IntsAt W16 on n) := hidE (Ln15.out.below hb (Nat.le_refl _))
  have Lk16 : Hid (IntsAt W16 ok k) := hidE (Lk15.out.below hb (Nat.le_refl _))
  have Lb16 : Hid (IntsAt W16 ob b) := hidE (Lb15.out.below hb (Nat.le_refl _))
  have SP16 := hidE (blk_below hb (lt_of_block SP15.out) SP15.out)
  clear hb BB15 SS15 XX15 Lp15 Ly15 Lx15 Ln15 Lk15 Lb15 SP15
  clear hbx
  have HC := hidE (same_lit W16 ob cb b [1, 3, 5] Eb Lb16.out (by decide) 3 rfl)
  go_wp2_with fail
  refine HC.out.mono ?_
  rintro e W17 ⟨rfl, hbx⟩
  clear HC
  have hb : Below W16.heap.size W16 W17 := ((Below.refl _ _).alloc (Nat.le_refl _) _).trans (hbx.mono (by omega))
  have BB17 : Hid (Below w.heap.size w W17) := hidE (BB16.out.trans (hb.mono BB16.out.size))
  have SS17 : Hid (BoundsAt W17 o2 circP) := hidE (SS16.out.below hb (Nat.le_refl _))
  have XX17 := hidE (blk_below hb (lt_of_block XX16.out) XX16.out)
  have Lp17 : Hid (IntsAt W17 op p) := hidE (Lp16.out.below hb (Nat.le_refl _))
  have Ly17 : Hid (IntsAt W17 oy y) := hidE (Ly16.out.below hb (Nat.le_refl _))
  have Lx17 : Hid (IntsAt W17 ox x) := hidE (Lx16.out.below hb (Nat.le_refl _))
  have Ln17 : Hid (IntsAt W17 on n) := hidE (Ln16.out.below hb (Nat.le_refl _))
  have Lk17 : Hid (IntsAt W17 ok k) := hidE (Lk16.out.below hb (Nat.le_refl _))
  have Lb17 : Hid (IntsAt W17 ob b) := hidE (Lb16.out.below hb (Nat.le_refl _))
  have SP17 := hidE (blk_below hb (lt_of_block SP16.out) SP16.out)
  clear hb BB16 SS16 XX16 Lp16 Ly16 Lx16 Ln16 Lk16 Lb16 SP16
  clear hbx
  have f0 : W17.cell? ⟨W3.heap.size, 0, none⟩ = some (.int .i64 3) := by rw [cell_of_row _ _ _ _ _ _ SP17.out]; rfl
  have f1 : W17.cell? ⟨W3.heap.size, 1, none⟩ = some (.int .i64 8) := by rw [cell_of_row _ _ _ _ _ _ SP17.out]; rfl
  have f2 : W17.cell? ⟨W3.heap.size, 2, none⟩ = some (.bool true) := by rw [cell_of_row _ _ _ _ _ _ SP17.out]; rfl
  have f3 : W17.cell? ⟨W3.heap.size, 3, none⟩ = some (.bool true) := by rw [cell_of_row _ _ _ _ _ _ SP17.out]; rfl
  go_wp2_with fail
  go_ret
  exact ⟨rfl, BB17.out⟩

end Go.Proofs.YthcmjhellpjllaaGreat
