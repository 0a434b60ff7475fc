/- Merged text 2 of the base: Wi, Wj, Wi3, Wl, Wm2, Wp, Ws, Wr, Wv, PureI, X4, PlJ, PlH, Wq2, X6, Y1, Fa, Fc, Oa, PlM, PlQ, Sm, Aa. No conditions beyond those stated. -/
import Derived.Test.YthjmkmjojlfejaaGreatB01
import Derived.StillTailTactics
import Derived.Great.Walk
import Derived.Great.BuildSlice
import Derived.Deep.LoopGhost
import Derived.Deep.WholeRow
import Derived.Deep.MidRow
import Derived.Deep.OwnRows
import Derived.WalkMore
import Derived.Deep.RegionHeld3
import Derived.Deep.DeepCutAuto
import Derived.Lib.OwnBridge
import Derived.WalkSpells
import Derived.Lib.SliceRun
import Derived.Deep.RegionWith
import Derived.Deep.CutBlock
import Derived.Lib.AppendZerosOnto
import Derived.Maps.AppendAt
namespace Go.Proofs.YthjmkmjojlfejaaGreat
open Go Go.RowKit Go.Shelf
theorem wpList_op_append {P : Program} {ops : Array Oper} {rest : List Oper} {o : Oper} {a : Act} {w : World} {Q : Exit → Act → World → Prop} (hg : o.guard = none) {w' : World} {s x : Operand} {t : TypeId} {vs vx v : Value}
 (hop : o.op = Op.call { callee := Callee.builtin Builtin.append, args := #[s, x], argTypes := #[t, t] }) (hs : a.eval s = vs) (hx : a.eval x = vx) (hrun : (Builtin.append_ #[t, t] o.type #[vs, vx]).run P w = .ok v w')
 (h : wpList P ops Q rest (a.put o.dst v) w') : wpList P ops Q (o :: rest) a w :=
 wpList_plain hg fun K hK => by
  unfold Oper.wp
  rw [run_op_append hop hs hx hrun]
  exact hK _ _ h
structure KeepsD (B : Nat) (W W' : World) : Prop where
 below : Below B W W'
 cells : ∀ (k : Nat) (c : Array Value) (t : TypeId) (f : Nat × Nat), W.heap[k]? = some (.cells c t f) → W'.heap[k]? = some (.cells c t f)
theorem KeepsD.refl (B : Nat) (W : World) : KeepsD B W W := ⟨Below.refl _ _, fun _ _ _ _ h => h⟩
def Marks (B : Nat) (ds : List Deferred) (W : World) : Prop :=
 ∃ Ds : List Nat, ds = Ds.map (fun D => { target := .collected D, args := #[] }) ∧ Ds.Nodup ∧ ∀ D ∈ Ds, B ≤ D ∧ W.heap[D]? = some (.deferred (some []))
theorem Marks.nil (B : Nat) (W : World) : Marks B [] W := ⟨[], rfl, List.nodup_nil, fun _ h => by cases h⟩
theorem Marks.keep {B : Nat} {ds : List Deferred} {W W' : World} (h : Marks B ds W) (hk : ∀ D, B ≤ D → W.heap[D]? = some (.deferred (some [])) → W'.heap[D]? = some (.deferred (some []))) : Marks B ds W' := by
 obtain ⟨Ds, e, hn, hD⟩ := h
 exact ⟨Ds, e, hn, fun D hm => ⟨(hD D hm).1, hk D (hD D hm).1 (hD D hm).2⟩⟩
theorem Marks.cons {B : Nat} {ds : List Deferred} {W W' : World} {D : Nat} (h : Marks B ds W) (hk : ∀ D, B ≤ D → W.heap[D]? = some (.deferred (some [])) → W'.heap[D]? = some (.deferred (some []))) (hB : B ≤ D) (hf : W.heap.size ≤ D) (hD : W'.heap[D]? = some (.deferred (some []))) :
 Marks B ({ target := .collected D, args := #[] } :: ds) W' := by
 obtain ⟨Ds, e, hn, hDs⟩ := h
 refine ⟨D :: Ds, by rw [e]; rfl, List.nodup_cons.2 ⟨fun hm => ?_, hn⟩, fun D' hm => ?_⟩
 ·have := lt_of_block (hDs D hm).2
  omega
 ·rcases List.mem_cons.1 hm with rfl | hm
  ·exact ⟨hB, hD⟩
  ·exact ⟨(hDs D' hm).1, hk D' (hDs D' hm).1 (hDs D' hm).2⟩
theorem leaves_marks {P : Program} {F : Fence} {n : Nat} {fn : Func} {tmps : Array Value} {R : Ending → World → Prop} {B : Nat} : ∀ (ds : List Deferred) (W : World), Marks B ds W →
 (∀ W', KeepsD B W W' → ∃ v, (results fn tmps).run P W' = .ok v W' ∧ R (.returned v) W') → LeavesInM F n P fn tmps R ds .returning W := by
 rintro ds W ⟨Ds, rfl, hn, hD⟩
 induction Ds generalizing W with
 | nil => intro h; exact h W (KeepsD.refl _ _)
 | cons D Ds ih =>
   intro h
   have h0 := hD D (List.mem_cons_self ..)
   have k0 : KeepsD B W (W.putObj D (.deferred none)) := ⟨below_putObj (Below.refl _ _) h0.1 _, fun k c t f hk => by
    rw [World.putObj_heap_other (fun e => by rw [e, h0.2] at hk; cases hk)]; exact hk⟩
   refine ⟨by simp, .inl ⟨_, _, rfl, run_takeDeferred h0.2, ih _ (List.nodup_cons.1 hn).2 (fun D' hm => ⟨(hD D' (List.mem_cons_of_mem _ hm)).1, ?_⟩) (fun W' k1 => h W' ⟨k0.below.trans k1.below, fun k c t f hk => k1.cells k c t f (k0.cells k c t f hk)⟩)⟩⟩
   have hne : D' ≠ D := by intro e; rw [e] at hm; exact (List.nodup_cons.1 hn).1 hm
   rw [World.putObj_heap_other hne]
   exact (hD D' (List.mem_cons_of_mem _ hm)).2
attribute [local go_sem] Oper.semAt_some
theorem ownsRow_of_block {W W' : World} {base : Nat} {e : TypeId} {size : Nat} {v : Value} {n : Nat} {xs : List Value} (h : W.ownsRow base e size v n xs) (hb : ∀ g, v.ownBlock = some g → W'.heap[g]? = W.heap[g]?) : W'.ownsRow base e size v n xs := by
 refine ⟨h.1, ?_⟩
 rcases h.2 with h0 | ⟨g, cp, cur, e, hg, hh, r⟩
 ·exact .inl h0
 ·exact .inr ⟨g, cp, cur, e, hg, by rw [hb g (by rw [e]; rfl)]; exact hh, r⟩
theorem ownsRow_base {W : World} {base base' : Nat} {e : TypeId} {size : Nat} {v : Value} {n : Nat} {xs : List Value} (h : W.ownsRow base e size v n xs) (hb : base' ≤ base) : W.ownsRow base' e size v n xs := by
 refine ⟨h.1, ?_⟩
 rcases h.2 with h0 | ⟨g, cp, cur, e, hg, r⟩
 ·exact .inl h0
 ·exact .inr ⟨g, cp, cur, e, Nat.le_trans hb hg, r⟩
section
variable {P : Program} {ops : Array Oper} {Q : Exit → Act → World → Prop} {md : Region.Mode} {S : World → Prop} {last : Nat}
def waitsAll (md : Region.Mode) (ops : Array Oper) (last : Nat) : Bool :=
 match ops[last]? with
 | none => false
 | some o => (List.range ops.size).all fun k => k == last || o.after.any fun e => Region.binds md e && e.on == k
def wpAnyF (P : Program) (md : Region.Mode) (ops : Array Oper) (Q : Exit → Act → World → Prop) (S : World → Prop) (last : Nat) : Nat → Array Bool → Act → World → Prop
 | 0, listed, a, w => Region.ready md ops listed = [] ∧ Q .normal a w
 | fuel + 1, listed, a, w => (Region.ready md ops listed = [] → Q .normal a w) ∧
   ∀ i ∈ Region.ready md ops listed, wpOp P ops Q i (fun a' w' => (i = last ∨ S w') ∧ wpAnyF P md ops Q S last fuel (listed.setIfInBounds i true) a' w') a w
theorem wpAny_of_F : ∀ (fuel : Nat) (listed : Array Bool) (a : Act) (w : World), wpAnyF P md ops Q S last fuel listed a w → wpAny P md ops Q fuel listed a w
 | 0, _, _, _, h => h
 | fuel + 1, _, _, _, h => ⟨h.1, fun i hi => wpOp_mono (fun a' w' h' => wpAny_of_F fuel _ a' w' h'.2) (h.2 i hi)⟩
theorem last_waits (hl : waitsAll md ops last = true) {listed : Array Bool} (hr : last ∈ Region.ready md ops listed) {k : Nat} (hk : k ≠ last) (hks : k < ops.size) : listed.getD k false = true := by
 obtain ⟨_, o, ho, hall⟩ := mem_ready.1 hr
 unfold waitsAll at hl
 simp only [ho, List.all_eq_true, List.mem_range] at hl
 have := hl k hks
 simp only [Bool.or_eq_true, beq_iff_eq] at this
 rcases this with h | h
 ·exact absurd h hk
 ·obtain ⟨e, he, hb⟩ := Array.any_eq_true'.1 h
  simp only [Bool.and_eq_true, beq_iff_eq] at hb
  rw [← hb.2]
  exact hall e he hb.1
theorem wpAnyF_first {i : Nat} {oi : Oper} {v : Value} (hl : waitsAll md ops last = true) (hil : i ≠ last) (hi : ops[i]? = some oi) (hsel : ∀ (j : Nat) (o : Oper) cs b, ops[j]? = some o → o.op ≠ .select cs b)
 (hQ : ∀ c a w, Q (.panic c) (a.put oi.dst v) w → Q (.panic c) a w) :
 ∀ (fuel : Nat) (listed : Array Bool) (a : Act) (w : World),
  (∀ j oj, ops[j]? = some oj → j ≠ i → listed.getD j true = false → (∀ e ∈ oj.after, Region.binds md e = true → e.on ≠ i) → oi.apart ops oj = true) →
  i ∈ Region.ready md ops listed → YieldsIf P ops S oi v a → S w →
  wpAnyF P md ops Q S last fuel (listed.setIfInBounds i true) (a.put oi.dst v) w → wpAnyF P md ops Q S last (fuel + 1) listed a w := by
 have his : i < ops.size := (Array.getElem?_eq_some_iff.1 hi).1
 intro fuel
 induction fuel with
 | zero =>
   intro listed a w _ hr hy hS H
   refine ⟨fun h => (by rw [h] at hr; cases hr), fun j hj => ?_⟩
   by_cases hji : j = i
   ·subst hji; exact hy.wpOp hi hS ⟨.inr hS, H⟩
   ·have := ready_mono hj hji
    rw [H.1] at this
    cases this
 | succ fuel ih =>
   intro listed a w hfree hr hy hS H
   refine ⟨fun h => (by rw [h] at hr; cases hr), fun j hj => ?_⟩
   by_cases hji : j = i
   ·subst hji; exact hy.wpOp hi hS ⟨.inr hS, H⟩
   ·have hjl : j ≠ last := by
     intro e
     subst e
     have h1 := last_waits hl hj hil his
     have h0 := (mem_ready.1 hr).1
     rcases Nat.lt_or_ge i listed.size with h' | h'
     ·simp [h'] at h0 h1; rw [h0] at h1; cases h1
     ·simp [Array.getElem?_eq_none h'] at h1
    have h1 := H.2 j (ready_mono hj hji)
    obtain ⟨hjun, oj, hoj, hall⟩ := mem_ready.1 hj
    have hnot : ∀ e ∈ oj.after, Region.binds md e = true → e.on ≠ i := fun e he hb heq => by
     have h1 := hall e he hb
     have h0 := (mem_ready.1 hr).1
     rw [heq] at h1
     rcases Nat.lt_or_ge i listed.size with h' | h'
     ·simp [h'] at h0 h1; rw [h0] at h1; cases h1
     ·simp [Array.getElem?_eq_none h'] at h1
    have h2 := wpOp_putIf hoj (hfree j oj hoj hji hjun hnot) (fun cs b => hsel i oi cs b hi) (fun cs b => hsel j oj cs b hoj) hQ hy h1
    have hfree' : ∀ k ok, ops[k]? = some ok → k ≠ i → (listed.setIfInBounds j true).getD k true = false →
     (∀ e ∈ ok.after, Region.binds md e = true → e.on ≠ i) → oi.apart ops ok = true := fun k ok hk hki hun hno => by
     refine hfree k ok hk hki ?_ hno
     by_cases hjk : j = k
     ·subst hjk; exact hjun
     ·rw [getD_set_ne true hjk] at hun; exact hun
    refine wpOp_mono (fun a' w' h3 => ?_) h2
    have hSw : S w' := h3.2.1.resolve_left hjl
    refine ⟨.inr hSw, ih (listed.setIfInBounds j true) a' w' hfree' (ready_mono hr (Ne.symm hji)) h3.1 hSw ?_⟩
    rw [Array.setIfInBounds_comm _ _ hji]
    exact h3.2.2
theorem wpAnyF_take {i : Nat} {oi : Oper} {v : Value} {fuel : Nat} {listed : Array Bool} {a : Act} {w : World} (hl : waitsAll md ops last = true) (hil : i ≠ last) (hi : ops[i]? = some oi)
 (hs : Region.noSelect ops = true) (hf : Region.free md ops listed i = true) (hr : (Region.ready md ops listed).contains i = true)
 (hQ : ∀ c a w, Q (.panic c) (a.put oi.dst v) w → Q (.panic c) a w) (hy : YieldsIf P ops S oi v a) (hS : S w)
 (h : wpAnyF P md ops Q S last fuel (listed.setIfInBounds i true) (a.put oi.dst v) w) : wpAnyF P md ops Q S last (fuel + 1) listed a w :=
 wpAnyF_first hl hil hi (Region.noSelect_spec hs) hQ fuel listed a w (Region.free_spec hi hf) (by simpa using hr) hy hS h
theorem wpAnyF_one {fuel : Nat} {listed : Array Bool} {a : Act} {w : World} (i : Nat) (hr : Region.ready md ops listed = [i])
 (h : wpOp P ops Q i (fun a' w' => (i = last ∨ S w') ∧ wpAnyF P md ops Q S last fuel (listed.setIfInBounds i true) a' w') a w) : wpAnyF P md ops Q S last (fuel + 1) listed a w :=
 ⟨fun h0 => (by rw [hr] at h0; cases h0), fun j hj => (by rw [hr, List.mem_singleton] at hj; rw [hj]; exact h)⟩
theorem wpAnyF_done {listed : Array Bool} {a : Act} {w : World} (hr : Region.ready md ops listed = []) (h : Q .normal a w) : ∀ fuel, wpAnyF P md ops Q S last fuel listed a w
 | 0 => ⟨hr, h⟩
 | _ + 1 => ⟨fun _ => h, by rw [hr]; simp⟩
theorem wp_region_F {id : Nat} {a : Act} {w : World} (hm : P.follows .mixedOrders = true)
 (h : wpAnyF P .any ops Q S last ops.size (Array.replicate ops.size false) a w.drew) : (Code.region id ops true).wp P Q a w :=
 wp_region_any hm (wpAny_of_F _ _ _ _ h)
end
theorem below_drewN' (w : World) (n : Nat) {B : Nat} : Below B w (w.drewN n) := ⟨rfl, rfl, rfl, Nat.le_refl _, fun _ _ => rfl⟩
theorem getD_get {α : Type} (l : List α) (d : α) {k : Nat} (h : k < l.length) : l.getD k d = l[k] := by
 rw [List.getD_eq_getElem?_getD, List.getElem?_eq_getElem h]; rfl
def PathPost (l : List Int) (err : Int) (base : Nat) (e : Ending) (w' : World) : Prop := ∃ v, e = .returned (.tuple #[v, .int .i64 err]) ∧ w'.ownsRow base 3 1 v l.length (intsV l)
theorem Tryz.info3' : (Tryz.prog.info? 3).map (fun i => (i.zero, i.size, i.bytes)) = some (some (.int .i64 0), 1, 8) := by kernel_rfl
theorem madeInts (R : Nat) : madeCells #[Value.int .i64 0] R = rowA (List.replicate R 0) := by
 apply Array.toList_inj.1
 rw [toList_madeCells_one]; simp [rowA, intsV]
theorem owns_of_block {w : World} {base b : Nat} {l : List Int} (hb : base ≤ b) (h : w.heap[b]? = some (.cells (rowA l) 3 (0,0))) (hl : l.length ≤ 100000) : w.ownsRow base 3 1 (.slice (some ⟨b, 0, none⟩) l.length l.length) l.length (intsV l) :=
 ⟨by simp [intsV], .inr ⟨b, l.length, rowA l, rfl, hb, h, Nat.le_refl _, by unfold maxLen; omega, by simp [rowA, intsV], by simp only [rowA, List.toList_toArray]; rw [Nat.mul_one, List.take_of_length_le (by simp [intsV])]⟩⟩
theorem heap_grow (w : World) (os : Array Obj) {k : Nat} (h : k < w.heap.size) : (Sort.grow w os).heap[k]? = w.heap[k]? := by
 show (w.heap ++ os)[k]? = _
 rw [Array.getElem?_append_left h]
theorem below_grow {B : Nat} {w0 w : World} (h : Below B w0 w) (hB : B ≤ w.heap.size) (os : Array Obj) : Below B w0 (Sort.grow w os) :=
 ⟨h.os, h.tape, h.output, by have := h.size; simp; omega, fun k hk => by rw [heap_grow w os (by omega)]; exact h.block k hk⟩
theorem owns_lt' {W : World} {base : Nat} {e : TypeId} {size : Nat} {v : Value} {n : Nat} {xs : List Value} (h : W.ownsRow base e size v n xs) {g : Nat} (hg : v.ownBlock = some g) : g < W.heap.size := by
 rcases h.2 with ⟨e1, _⟩ | ⟨g1, cp', cu, e1, hb, hh, _⟩
 ·rw [e1] at hg; simp [Value.ownBlock] at hg
 ·rw [e1] at hg
  simp only [Value.ownBlock, Option.some.injEq] at hg
  subst hg
  exact lt_of_block hh
def sortP (l : List Int) : List Int := l.mergeSort fun x y => decide (x ≤ y)
theorem sortP_length (l : List Int) : (sortP l).length = l.length := by simp [sortP]
theorem sort_own (w : World) (base : Nat) (v : Value) (l : List Int) (hl : l.length < 4611686018427387904) (h : w.ownsRow base 3 1 v l.length (intsV l)) (hb0 : base ≤ w.heap.size) :
 Calls Tryz.prog 129 #[v] w fun e w' => e = .returned (.tuple #[]) ∧ w'.ownsRow base 3 1 v l.length (intsV (sortP l)) ∧ Below base w w' := by
 by_cases hv : v = .slice none 0 0
 ·subst hv
  have h0 : l = [] := by
   rcases h.2 with ⟨_, e⟩ | ⟨g, cp, cu, e, _⟩
   ·exact List.length_eq_zero_iff.1 e
   ·cases e
  subst h0
  exact (Tryz.slices_Sort_int_none none 0 w).mono fun e w' ⟨h1, h2⟩ => ⟨h1, by rw [h2, show sortP [] = [] from by simp [sortP]]; exact World.ownsRow_nil _ _ _ _, by rw [h2]; exact Below.refl _ _⟩
 ·obtain ⟨g, cap, rfl, hb, hg, hc, _, _, hH⟩ := Lib.holds_of_ownsRow (enc := Value.int .i64) (zs := l) h hv
  refine (Tryz.slices_Sort_int g 0 cap l w hH hg hl).mono fun e w' ⟨h1, n, os, h2⟩ => ⟨h1, ?_, ?_⟩
  ·rw [h2]
   have := Lib.ownsRow_putRow (enc := Value.int .i64) (zs := l) (q := n) (k := l.length) (ys := sortP l) h (sortP_length l) (Nat.le_refl _)
   rw [List.take_of_length_le (by rw [sortP_length]; exact Nat.le_refl _)] at this
   exact ownsRow_of_block this (fun q e => heap_grow _ _ (owns_lt' this e))
  ·rw [h2]; exact below_grow (Lib.below_putRow (Below.refl _ _) hb) (by simp; omega) os
theorem compact_own (w : World) (base : Nat) (v : Value) (l : List Int) (hl : l.length ≤ 9223372036854775807) (h : w.ownsRow base 3 1 v l.length (intsV l)) :
 Calls Tryz.prog 90 #[v] w fun e w' => ∃ v', e = .returned v' ∧ w'.ownsRow base 3 1 v' (Lib.compact l).length (intsV (Lib.compact l)) ∧ Below base w w' := by
 by_cases hv : v = .slice none 0 0
 ·subst hv
  have h0 : l = [] := by
   rcases h.2 with ⟨_, e⟩ | ⟨g, cp, cu, e, _⟩
   ·exact List.length_eq_zero_iff.1 e
   ·cases e
  subst h0
  exact (Tryz.slices_Compact_int_empty none 0 w).mono fun e w' ⟨h1, h2⟩ => ⟨_, h1, by rw [h2]; exact World.ownsRow_nil _ _ _ _, by rw [h2]; exact Below.refl _ _⟩
 ·obtain ⟨g, cap, rfl, hb, hg, hc, _, _, hH⟩ := Lib.holds_of_ownsRow (enc := Value.int .i64) (zs := l) h hv
  refine (Tryz.slices_Compact_int g 0 cap l w hH hl hc).mono fun e w' ⟨h1, n, h2⟩ => ⟨_, h1, ?_, ?_⟩
  ·rw [h2]
   have hle : (Lib.compact l).length ≤ l.length := Lib.compact_length_le l
   have := Lib.ownsRow_putRow (enc := Value.int .i64) (zs := l) (q := n) (k := (Lib.compact l).length) (ys := Lib.compact l ++ List.replicate (l.length - (Lib.compact l).length) 0) h (by simp; omega) hle
   rwa [List.take_left' rfl] at this
  ·rw [h2]; exact Lib.below_putRow (Below.refl _ _) hb
def consistentE (N : Int) (bs : List Bd) : Bool × Int := if checkP N bs = 0 then ((openedP N bs).isSome, 0) else (false, checkP N bs)
set_option maxHeartbeats 400000 in
theorem consistent_any (w : World) (N : Int) (a : Option Addr) (cap : Nat) (bs : List Bd) (hN : i64ok N) (hl : bs.length ≤ 9223372036854775807) (h : BoundsAt w a bs) :
 Calls Tryz.prog 183 #[.agg #[.int .i64 N, .slice a bs.length cap]] w fun e w' => e = .returned (.tuple #[.bool (consistentE N bs).1, .int .i64 (consistentE N bs).2]) ∧ Below w.heap.size w w' := by
 have H := hidE h
 have HN := hidE hN
 clear h hN
 have hB0 : Below w.heap.size w (w.alloc (.cells #[.int .i64 N, .slice a bs.length cap] 24)) := (Below.refl _ _).alloc (Nat.le_refl _) _
 have hck := check_any (w.alloc (.cells #[.int .i64 N, .slice a bs.length cap] 24)) N a cap bs HN.out hl (H.out.alloc _)
 by_cases hc : checkP N bs = 0
 ·obtain ⟨n0, n1, n2, nv⟩ := checkP_zero hc
  obtain ⟨o, ho⟩ : ∃ o, openedP N bs = o := ⟨_, rfl⟩
  have hd : consistentE N bs = (o.isSome, 0) := by unfold consistentE; rw [if_pos hc, ho]
  rw [hc] at hck
  have HC := hidE hck
  have HD := hidE hd
  have HO := hidE ho
  have NV := hidE nv
  clear hc hck hd ho nv
  go_enter Tryz.func183, Tryz.ntmps183
  go_wp2_with fail
  refine HC.out.mono ?_
  rintro e w1 ⟨rfl, hb1⟩
  have hbx := blk_below hb1 (by simp) (heap_alloc_new w (.cells #[.int .i64 N, .slice a bs.length cap] 24))
  have c0 : w1.cell? ⟨w.heap.size, 0, none⟩ = some (.int .i64 N) := c_e hbx rfl
  have c1 : w1.cell? ⟨w.heap.size, 1, none⟩ = some (.slice a bs.length cap) := c_e hbx rfl
  have B1 := hB0.trans (hb1.mono hB0.size)
  have hop := opened_any w1 N a cap bs n0 n1 (by omega) (H.out.below B1 (Nat.le_refl _)) (fun b hb => (NV.out b hb).1)
  rw [HO.out] at hop
  have HOP := hidE hop
  have HB1 := hidE B1
  clear hbx hb1 B1 hop
  go_wp2_with fail
  refine HOP.out.mono ?_
  rintro e w2 ⟨hp, hb2⟩
  have HB2 := hidE (HB1.out.trans (hb2.mono HB1.out.size))
  clear hb2
  cases o with
  | none =>
    simp only [OpenedPost] at hp
    subst hp
    go_wp2_with fail
    go_ret2
    exact ⟨by rw [HD.out]; rfl, HB2.out⟩
  | some t =>
    obtain ⟨b, rfl, _, _⟩ := hp
    go_wp2_with fail
    go_ret2
    exact ⟨by rw [HD.out]; rfl, HB2.out⟩
 ·have hd : consistentE N bs = (false, checkP N bs) := by unfold consistentE; rw [if_neg hc]
  obtain ⟨c, hcc⟩ : ∃ c, checkP N bs = c := ⟨_, rfl⟩
  rw [hcc] at hck hd hc
  have hc1 : (c == 0) = false := by simpa using hc
  have hc2 : (c != 0) = true := by simpa using hc
  have HC := hidE hck
  have HD := hidE hd
  clear hcc hck hd hc
  go_enter Tryz.func183, Tryz.ntmps183
  go_wp2_with fail
  refine HC.out.mono ?_
  rintro e w1 ⟨rfl, hb1⟩
  go_wp2_with fail
  go_ret2
  exact ⟨by rw [HD.out]; rfl, hB0.trans (hb1.mono hB0.size)⟩
def BoundsOut (l : List Bd) (base : Nat) (v : Value) (w' : World) : Prop := w'.ownsRow base 81 4 v l.length (flat l)
theorem flat_one (l : List Bd) : ∀ u ∈ flat l, u.oneCell' = true := by
 intro u hu
 simp only [flat, List.mem_flatMap, Bd.cells, List.mem_cons, List.not_mem_nil, or_false] at hu
 obtain ⟨b, _, h⟩ := hu
 rcases h with rfl | rfl | rfl | rfl <;> rfl
def SliceOk (a : Option Addr) (n cap : Nat) : Prop := a = none → n = 0 ∧ cap = 0
theorem boundsAt_of_out {W : World} {base : Nat} {v : Value} {l : List Bd} (h : BoundsOut l base v W) : ∃ o cap, v = .slice o l.length cap ∧ BoundsAt W o l ∧ SliceOk o l.length cap := by
 unfold BoundsOut at h
 rcases h.2 with ⟨e, h0⟩ | ⟨gb, cp, cur, e, _, hh, hn, _, hsz, htk⟩
 ·exact ⟨none, 0, by rw [e, h0], .inl (List.length_eq_zero_iff.1 h0), fun _ => ⟨h0, rfl⟩⟩
 ·refine ⟨_, _, e, .inr ⟨gb, 0, rfl, lt_of_block hh, fun i hi => ?_⟩, fun e => by cases e⟩
  have key : ∀ j v, j < 4 → (l[i]).cells[j]? = some v → W.cell? ⟨gb, 0 + i * 4 + j, none⟩ = some v := by
   intro j v hj hv
   rw [cell_of_row _ _ _ _ _ _ hh, Nat.zero_add]
   have hlt : i * 4 + j < l.length * 4 := by omega
   have := flat_get l i hi j hj
   rw [← htk, List.getElem?_take_of_lt hlt, hv] at this
   simpa using this
  exact ⟨key 0 _ (by omega) rfl, key 1 _ (by omega) rfl, key 2 _ (by omega) rfl, key 3 _ (by omega) rfl⟩
end Go.Proofs.YthjmkmjojlfejaaGreat
namespace Go.Proofs.YthjmkmjojlfejaaGreat
theorem idxOf_lt {α : Type} {p : α → Bool} : ∀ (l : List α), idxOf p l < l.length
 | [] => by simp [idxOf]
 | x :: l => by
   have := idxOf_lt (p := p) l
   simp only [idxOf, List.length_cons]
   split
   ·omega
   ·split <;> omega
end Go.Proofs.YthjmkmjojlfejaaGreat
namespace Go.Proofs.YthjmkmjojlfejaaGreat
open Go Go.RowKit Go.Shelf
theorem intsAt_of_owns {W : World} {base : Nat} {v : Value} {l : List Int} (h : W.ownsRow base 3 1 v l.length (intsV l)) : ∃ o cap, v = .slice o l.length cap ∧ IntsAt W o l ∧ SliceOk o l.length cap := by
 rcases h.2 with ⟨e, h0⟩ | ⟨gb, cp, cur, e, _, hh, hn, _, hsz, htk⟩
 ·exact ⟨none, 0, by rw [e, h0], .inl (List.length_eq_zero_iff.1 h0), fun _ => ⟨h0, rfl⟩⟩
 ·refine ⟨_, _, e, .inr ⟨gb, 0, rfl, lt_of_block hh, fun i hi => ?_⟩, fun e => by cases e⟩
  rw [cell_of_row _ _ _ _ _ _ hh, Nat.zero_add]
  have hlt : i < l.length * 1 := by omega
  have h2 : (cur.toList.take (l.length * 1))[i]? = (intsV l)[i]? := by rw [htk]
  rw [List.getElem?_take_of_lt hlt] at h2
  rw [← Array.getElem?_toList, h2]
  simp [intsV, hi]
end Go.Proofs.YthjmkmjojlfejaaGreat
namespace Go.Proofs.YthjmkmjojlfejaaGreat
theorem allValid_of {N : Int} {bs : List Bd} (h : checkP N bs = 0) : ∃ R : Nat, N = R ∧ 1 ≤ R ∧ R ≤ 128 ∧ bs.length ≤ 2000 ∧ AllValid R bs := by
 obtain ⟨n0, n1, n2, nv⟩ := checkP_zero h
 obtain ⟨R, rfl⟩ := Int.eq_ofNat_of_zero_le (show 0 ≤ N by omega)
 exact ⟨R, rfl, by omega, by omega, n2, fun b hb => (nv b hb).1⟩
end Go.Proofs.YthjmkmjojlfejaaGreat
namespace Go.Proofs.YthjmkmjojlfejaaGreat
open Go
theorem compactUpTo_asc (d : Array Int) (hs : ∀ i j, i ≤ j → j < d.size → d[i]! ≤ d[j]!) : ∀ m, m ≤ d.size → (Lib.compactUpTo d m).Pairwise (· < ·) ∧ ∀ x, x ∈ Lib.compactUpTo d m ↔ ∃ j, j < m ∧ d[j]! = x
 | 0, _ => by simp [Lib.compactUpTo]
 | m + 1, hm => by
   obtain ⟨h1, h2⟩ := compactUpTo_asc d hs m (by omega)
   rw [Lib.compactUpTo_succ]
   by_cases hk : Lib.keeps d m = true
   ·rw [if_pos hk]
    refine ⟨?_, fun x => ?_⟩
    ·rw [List.pairwise_append]
     refine ⟨h1, by simp, fun x hx y hy => ?_⟩
     rw [List.mem_singleton.1 hy]
     obtain ⟨j, hj, rfl⟩ := (h2 x).1 hx
     have hk2 := of_decide_eq_true hk
     rcases hk2 with e | e
     ·omega
     ·have := hs j (m - 1) (by omega) (by omega)
      have := hs (m - 1) m (by omega) (by omega)
      omega
    ·rw [List.mem_append, h2 x, List.mem_singleton]
     constructor
     ·rintro (⟨j, hj, e⟩ | e)
      ·exact ⟨j, by omega, e⟩
      ·exact ⟨m, by omega, e.symm⟩
     ·rintro ⟨j, hj, e⟩
      by_cases he : j = m
      ·subst he; exact .inr e.symm
      ·exact .inl ⟨j, by omega, e⟩
   ·rw [if_neg hk, List.append_nil]
    refine ⟨h1, fun x => ?_⟩
    rw [h2 x]
    have hk2 : ¬ (m = 0 ∨ d[m]! ≠ d[m - 1]!) := fun e => hk (decide_eq_true e)
    have hk3 : m ≠ 0 ∧ d[m]! = d[m - 1]! := ⟨fun e => hk2 (.inl e), Classical.byContradiction fun e => hk2 (.inr e)⟩
    constructor
    ·rintro ⟨j, hj, e⟩; exact ⟨j, by omega, e⟩
    ·rintro ⟨j, hj, e⟩
     by_cases he : j = m
     ·subst he; exact ⟨j - 1, by omega, by rw [← e, hk3.2]⟩
     ·exact ⟨j, by omega, e⟩
theorem compact_asc {l : List Int} (hs : l.Pairwise (· ≤ ·)) : (Lib.compact l).Pairwise (· < ·) ∧ ∀ x, x ∈ Lib.compact l ↔ x ∈ l := by
 have hs' : ∀ i j, i ≤ j → j < l.toArray.size → l.toArray[i]! ≤ l.toArray[j]! := by
  intro i j hij hj
  have hj' : j < l.length := by simpa using hj
  rw [List.getElem!_toArray, List.getElem!_toArray, getElem!_pos l i (by omega), getElem!_pos l j hj']
  rcases Nat.lt_or_eq_of_le hij with h | h
  ·exact List.pairwise_iff_getElem.1 hs i j (by omega) hj' h
  ·subst h; exact Int.le_refl _
 obtain ⟨h1, h2⟩ := compactUpTo_asc l.toArray hs' l.length (by simp)
 refine ⟨h1, fun x => (h2 x).trans ⟨?_, ?_⟩⟩
 ·rintro ⟨j, hj, rfl⟩
  rw [List.getElem!_toArray, getElem!_pos l j hj]; exact List.getElem_mem _
 ·intro hx
  obtain ⟨j, hj, e⟩ := List.mem_iff_getElem.1 hx
  exact ⟨j, hj, by rw [List.getElem!_toArray, getElem!_pos l j hj, e]⟩
theorem sortP_le (l : List Int) : (sortP l).Pairwise (· ≤ ·) := by
 have h := List.pairwise_mergeSort (le := fun x y : Int => decide (x ≤ y)) (fun a b c h1 h2 => by simp at *; omega) (fun a b => by simp; omega) l
 exact h.imp (fun h => by simpa using h)
theorem mem_sortP {l : List Int} {x : Int} : x ∈ sortP l ↔ x ∈ l := by unfold sortP; exact List.mem_mergeSort
end Go.Proofs.YthjmkmjojlfejaaGreat
namespace Go.Proofs.YthjmkmjojlfejaaGreat
open Go Go.RowKit Go.Shelf
theorem owns_lt {W : World} {base : Nat} {e : TypeId} {size : Nat} {v : Value} {n : Nat} {xs : List Value} (h : W.ownsRow base e size v n xs) {g : Nat} (hg : v.ownBlock = some g) : g < W.heap.size ∧ base ≤ g ∧ ∃ c f, W.heap[g]? = some (.cells c e f) := by
 rcases h.2 with ⟨e1, _⟩ | ⟨g1, cp', cu, e1, hb, hh, _⟩
 ·rw [e1] at hg; simp [Value.ownBlock] at hg
 ·rw [e1] at hg
  simp only [Value.ownBlock, Option.some.injEq] at hg
  subst hg
  exact ⟨lt_of_block hh, hb, _, _, hh⟩
theorem owns_intsAt {W : World} {base : Nat} {v : Value} {l : List Int} (h : W.ownsRow base 3 1 v l.length (intsV l)) : ∃ o c, v = .slice o l.length c ∧ IntsAt W o l := by
 obtain ⟨o, c, h1, h2, _⟩ := intsAt_of_owns h
 exact ⟨o, c, h1, h2⟩
theorem ints_lit (w : World) (l : List Int) : IntsAt (w.alloc (.cells (intsV l).toArray 3)) (some ⟨w.heap.size, 0, none⟩) l := by
 refine .inr ⟨w.heap.size, 0, rfl, by simp, fun i hi => ?_⟩
 rw [cell_of_row _ _ _ _ _ _ (heap_alloc_new w _), Nat.zero_add]
 simp [intsV, hi]
theorem refwithin_at {n a b : Int} {r : Bool} (h : inR n a b = r) (w : World) : Calls Tryz.prog 180 #[.int .i64 n, .int .i64 a, .int .i64 b] w fun e w' => e = .returned (.bool r) ∧ w = w' := by
 rw [← h]; exact refwithin_any n a b w
def RecsAt {α : Type} (k : Nat) (f : α → List Value) (w : World) (a : Option Addr) (xs : List α) : Prop :=
 xs = [] ∨ ∃ b off, a = some ⟨b, off, none⟩ ∧ b < w.heap.size ∧ ∀ i (h : i < xs.length) j, j < k → w.cell? ⟨b, off + i * k + j, none⟩ = (f xs[i])[j]?
theorem RecsAt.below {α : Type} {k : Nat} {f : α → List Value} {B : Nat} {w w' : World} {a : Option Addr} {xs : List α} (h : RecsAt k f w a xs) (hb : Below B w w') (hB : w.heap.size ≤ B) : RecsAt k f w' a xs := by
 rcases h with h | ⟨b, off, e, hl, hc⟩
 ·exact .inl h
 ·exact .inr ⟨b, off, e, Nat.lt_of_lt_of_le hl hb.size, fun i hi j hj => (hb.cell (by exact Nat.lt_of_lt_of_le hl hB)).trans (hc i hi j hj)⟩
theorem RecsAt.alloc {α : Type} {k : Nat} {f : α → List Value} {w : World} {a : Option Addr} {xs : List α} (h : RecsAt k f w a xs) (o : Obj) : RecsAt k f (w.alloc o) a xs := h.below ((Below.refl w.heap.size w).alloc (Nat.le_refl _) o) (Nat.le_refl _)
theorem RecsAt.at {α : Type} {k : Nat} {f : α → List Value} {w : World} {a : Option Addr} {xs : List α} (h : RecsAt k f w a xs) {i : Nat} (hi : i < xs.length) : ∃ b off, a = some ⟨b, off, none⟩ ∧ b < w.heap.size ∧ ∀ j, j < k → w.cell? ⟨b, off + i * k + j, none⟩ = (f xs[i])[j]? := by
 rcases h with h | ⟨b, off, e, hl, hc⟩
 ·subst h; simp at hi
 ·exact ⟨b, off, e, hl, hc i hi⟩
def Sta.cells (s : Sta) : List Value := [.string s.name, .int .i64 s.x]
def Par.cells (p : Par) : List Value := [.string p.name, .int .i64 p.south, .int .i64 p.wst, .int .i64 p.est]
def Vrn.cells (v : Vrn) : List Value := [.int .i64 v.year, .int .i64 v.east]
def strCells (s : ByteArray) : List Value := [.string s]
def Sta.val (s : Sta) : Value := .agg #[.string s.name, .int .i64 s.x]
def Par.val (p : Par) : Value := .agg #[.string p.name, .int .i64 p.south, .int .i64 p.wst, .int .i64 p.est]
abbrev StasAt := RecsAt 2 Sta.cells
abbrev ParsAt := RecsAt 4 Par.cells
abbrev VrnsAt := RecsAt 2 Vrn.cells
abbrev StrsAt := RecsAt 1 strCells
theorem inD_any (n a b : Int) (w : World) : Calls Tryz.prog 207 #[.int .i64 n, .int .i64 a, .int .i64 b] w fun e w' => e = .returned (.bool (inR n a b)) ∧ w = w' := by
 unfold inR
 go_enter Tryz.func207, Tryz.ntmps207
 go_wp2
 all_goals go_ret
 all_goals refine ⟨?_, rfl⟩
 all_goals simp [*]
 omega
theorem inC_any (n a b : Int) (w : World) : Calls Tryz.prog 225 #[.int .i64 n, .int .i64 a, .int .i64 b] w fun e w' => e = .returned (.bool (inR n a b)) ∧ w = w' := by
 unfold inR
 go_enter Tryz.func225, Tryz.ntmps225
 go_wp2
 all_goals go_ret
 all_goals refine ⟨?_, rfl⟩
 all_goals simp [*]
 omega
theorem inD_at {n a b : Int} {r : Bool} (h : inR n a b = r) (w : World) : Calls Tryz.prog 207 #[.int .i64 n, .int .i64 a, .int .i64 b] w fun e w' => e = .returned (.bool r) ∧ w = w' := h ▸ inD_any n a b w
theorem str_at (s : ByteArray) (k : Nat) (h : k < s.size) : s.data.toList.getD k 0 = s[k] := by
 rw [List.getD_eq_getElem?_getD, List.getElem?_eq_getElem (by simpa using h)]; rfl
theorem str_take (s : ByteArray) (k : Nat) (h : k < s.size) : s.data.toList.take (k + 1) = s.data.toList.take k ++ [s[k]] := by
 rw [List.take_succ_eq_append_getElem (by simpa using h)]; rfl
theorem nameCh_iff (c : UInt8) : nameCh c = true ↔ (97 ≤ c.toNat ∧ c.toNat ≤ 122) ∨ (48 ≤ c.toNat ∧ c.toNat ≤ 57) ∨ c.toNat = 45 := by
 unfold nameCh lowCh
 simp [or_assoc]
theorem lowCh_iff (c : UInt8) : lowCh c = true ↔ 97 ≤ c.toNat ∧ c.toNat ≤ 122 := by
 unfold lowCh
 simp
theorem all_take {α : Type} {p : α → Bool} {l : List α} {k : Nat} {x : α} (hk : k < l.length) (hx : l[k] = x) (h : p x = false) : l.all p = false := by
 rw [← Bool.not_eq_true, List.all_eq_true]
 intro hh
 have := hh l[k] (List.getElem_mem hk)
 rw [hx, h] at this
 cases this
set_option maxHeartbeats 1000000 in
theorem isName_any (s : ByteArray) (w : World) (hs : s.size ≤ 9223372036854775807) :
 Calls Tryz.prog 205 #[.string s] w fun e w' => e = .returned (.bool (isNameB s)) ∧ w = w' := by
 obtain ⟨P, hP⟩ : ∃ P, isNameB s = P := ⟨_, rfl⟩
 rw [hP]
 by_cases h1 : inR s.size 1 24 = true
 ·have hsz : 1 ≤ s.size ∧ s.size ≤ 24 := by unfold inR at h1; simp at h1; omega
  have hin := fun W => inD_at (n := s.size) (a := 1) (b := 24) h1 W
  have h0 := str_at s 0 (by omega)
  have HP : Hid ((lowCh s[0] && s.data.toList.all nameCh) = P) := hidE (by rw [← hP]; unfold isNameB; rw [h0]; simp [hsz])
  have HIN := hidE hin
  obtain ⟨hz1, hz2⟩ := hsz
  clear h1 hin hP h0
  by_cases hlow : lowCh s[0] = true
  ·have hb : 97 ≤ s[0].toNat ∧ s[0].toNat ≤ 122 := by unfold lowCh at hlow; simpa using hlow
   have d1 : decide ((s[0].toNat : Int) < 97) = false := by simp; omega
   have d2 : decide ((s[0].toNat : Int) > 122) = false := by simp; omega
   have HL := hidE hlow
   clear hlow hb
   go_enter Tryz.func205, Tryz.ntmps205
   go_wp2_with fail
   refine (HIN.out _).mono ?_
   rintro e w1 ⟨rfl, rfl⟩
   go_wp2_with fail
   go_loop [21] (fun i => ∃ k : Nat, k ≤ s.size ∧ i = .int .i64 k ∧ Hid ((s.data.toList.take k).all nameCh = true)) (fun i => s.size - (intOf i).toNat)
   case atStart => exact ⟨0, Nat.zero_le _, rfl, hidE rfl⟩
   case round =>
    obtain ⟨k, hk, rfl, HA⟩ := hrel
    by_cases hlt : k < s.size
    ·have HS := hidE (str_take s k hlt)
     clear d1 d2
     by_cases g : s[k].toNat = 45
     ·have gb : ((s[k].toNat : Int) != 45) = false := by simp; omega
      go_wp2
      all_goals first
       | (go_ret
          have hn : nameCh s[k] = false := by rw [← Bool.not_eq_true, nameCh_iff]; omega
          obtain rfl : false = P := by rw [← HP.out, all_take (l := s.data.toList) (k := k) (by simpa using hlt) rfl hn, Bool.and_false]
          exact ⟨rfl, rfl⟩)
       | (have hn : nameCh s[k] = true := by rw [nameCh_iff]; omega
          go_round
          case rel => exact ⟨k + 1, by omega, by go_num, hidE (by rw [HS.out, List.all_append, HA.out]; simp [hn])⟩
          case measure => simp [intOf]; omega)
     ·have gb : ((s[k].toNat : Int) != 45) = true := by simp; omega
      go_wp2
      all_goals first
       | (go_ret
          have hn : nameCh s[k] = false := by rw [← Bool.not_eq_true, nameCh_iff]; omega
          obtain rfl : false = P := by rw [← HP.out, all_take (l := s.data.toList) (k := k) (by simpa using hlt) rfl hn, Bool.and_false]
          exact ⟨rfl, rfl⟩)
       | (have hn : nameCh s[k] = true := by rw [nameCh_iff]; omega
          go_round
          case rel => exact ⟨k + 1, by omega, by go_num, hidE (by rw [HS.out, List.all_append, HA.out]; simp [hn])⟩
          case measure => simp [intOf]; omega)
    ·have hall : s.data.toList.all nameCh = true := by have := HA.out; rwa [List.take_of_length_le (by simp; omega)] at this
     obtain rfl : true = P := by rw [← HP.out, hall, HL.out]; rfl
     clear hall
     go_wp2_with fail
     go_ret
     exact ⟨rfl, rfl⟩
  ·obtain rfl : false = P := by rw [← HP.out]; simp [hlow]
   have hb : ¬ (97 ≤ s[0].toNat ∧ s[0].toNat ≤ 122) := by rw [← lowCh_iff]; exact hlow
   clear hlow HP
   by_cases g : s[0].toNat < 97
   ·have d1 : decide ((s[0].toNat : Int) < 97) = true := by simp; omega
    clear hb
    go_enter Tryz.func205, Tryz.ntmps205
    go_wp2_with fail
    refine (HIN.out _).mono ?_
    rintro e w1 ⟨rfl, rfl⟩
    go_wp2_with fail
    go_ret
    exact ⟨rfl, rfl⟩
   ·have d1 : decide ((s[0].toNat : Int) < 97) = false := by simp; omega
    have d2 : decide ((s[0].toNat : Int) > 122) = true := by simp; omega
    clear hb
    go_enter Tryz.func205, Tryz.ntmps205
    go_wp2_with fail
    refine (HIN.out _).mono ?_
    rintro e w1 ⟨rfl, rfl⟩
    go_wp2_with fail
    go_ret
    exact ⟨rfl, rfl⟩
 ·have h1' : inR s.size 1 24 = false := by simpa using h1
  have HIN := hidE (fun W => inD_at (n := s.size) (a := 1) (b := 24) h1' W)
  obtain rfl : false = P := by
   rw [← hP]; unfold isNameB; unfold inR at h1
   simp at h1
   by_cases g : 1 ≤ s.size
   ·simp [show ¬ s.size ≤ 24 by omega]
   ·simp [show ¬ 1 ≤ s.size by omega]
  clear h1 h1' hP
  go_enter Tryz.func205, Tryz.ntmps205
  go_wp2_with fail
  refine (HIN.out _).mono ?_
  rintro e w1 ⟨rfl, rfl⟩
  go_wp2_with fail
  go_ret
  exact ⟨rfl, rfl⟩
theorem StrsAt.cell {w : World} {a : Option Addr} {l : List ByteArray} (h : StrsAt w a l) {i : Nat} (hi : i < l.length) : ∃ b off, a = some ⟨b, off, none⟩ ∧ b < w.heap.size ∧ w.cell? ⟨b, off + i, none⟩ = some (.string l[i]) := by
 obtain ⟨b, off, e, hb, hc⟩ := RecsAt.at h hi
 have := hc 0 (by omega)
 rw [Nat.mul_one, Nat.add_zero] at this
 exact ⟨b, off, e, hb, this⟩
theorem StrsAt.all {w : World} {b off : Nat} {l : List ByteArray} (h : StrsAt w (some ⟨b, off, none⟩) l) (j : Nat) (hj : j < l.length) : w.cell? ⟨b, off + j, none⟩ = some (.string (l.getD j ByteArray.empty)) := by
 obtain ⟨b', off', e, _, hc⟩ := StrsAt.cell h hj
 cases e
 rw [hc, List.getD_eq_getElem?_getD, List.getElem?_eq_getElem hj]; rfl
theorem containsS_any (l : List ByteArray) (x : ByteArray) : Go.Lib.containsS l x = l.any (fun y => decide (y = x)) := by
 rw [Bool.eq_iff_iff, Go.Lib.containsS_iff, List.any_eq_true]
 constructor
 ·intro h; exact ⟨x, h, by simp⟩
 ·rintro ⟨y, hy, e⟩; have : y = x := by simpa using e
  rw [← this]; exact hy
theorem twiceTo_succ (l : List ByteArray) (k : Nat) : twiceTo l (k + 1) = (twiceTo l k || (l.take k).any fun y => decide (y = l.getD k default)) := by
 unfold twiceTo
 rw [List.range_succ, List.any_append]
 simp
theorem twiceTo_mono {l : List ByteArray} {k n : Nat} (h : k ≤ n) (hk : twiceTo l k = true) : twiceTo l n = true := by
 unfold twiceTo at *
 rw [List.any_eq_true] at *
 obtain ⟨x, hx, e⟩ := hk
 exact ⟨x, List.mem_range.2 (by have := List.mem_range.1 hx; omega), e⟩
set_option maxHeartbeats 1000000 in
theorem twice_any (w : World) (a : Option Addr) (cap : Nat) (l : List ByteArray) (hl : l.length ≤ cap) (hcap : cap ≤ 9223372036854775807) (h : StrsAt w a l) :
 Calls Tryz.prog 206 #[.slice a l.length cap] w fun e w' => e = .returned (.bool (twiceTo l l.length)) ∧ w = w' := by
 have H := hidE h
 clear h
 go_enter Tryz.func206, Tryz.ntmps206
 go_wp2_with fail
 go_loop [7] (fun i => ∃ k : Nat, k ≤ l.length ∧ i = .int .i64 k ∧ Hid (twiceTo l k = false)) (fun i => l.length - (intOf i).toNat)
 case atStart => exact ⟨0, Nat.zero_le _, rfl, hidE rfl⟩
 case round =>
  obtain ⟨k, hk, rfl, HT⟩ := hrel
  by_cases hlt : k < l.length
  ·obtain ⟨b, off, rfl, hbl, hc⟩ := StrsAt.cell H.out hlt
   have HCon := hidE (fun (W : World) (e : W = w) => Tryz.slices_Contains_string b off k cap l l[k] W (by omega) (by omega) (by subst e; exact fun j hj => StrsAt.all H.out j hj))
   have HS := hidE (twiceTo_succ l k)
   have hg : l.getD k default = l[k] := by simp [hlt]
   rw [hg] at HS
   rw [containsS_any] at HCon
   have hkc : k ≤ cap := by omega
   have hkd : decide (k ≤ cap) = true := by simpa using hkc
   obtain ⟨x, hx⟩ : ∃ x, l[k] = x := ⟨_, rfl⟩
   rw [hx] at hc HS HCon
   obtain ⟨q, hq⟩ : ∃ q, (l.take k).any (fun y => decide (y = x)) = q := ⟨_, rfl⟩
   rw [hq] at HS HCon
   clear hx hq hg
   cases q with
   | true =>
     have HF := hidE (twiceTo_mono (l := l) (k := k + 1) (n := l.length) (by omega) (by rw [HS.out]; simp))
     go_wp2_with fail
     refine (HCon.out _ rfl).mono ?_
     rintro e w' ⟨rfl, rfl⟩
     go_wp2_with fail
     go_ret
     exact ⟨by rw [HF.out]; rfl, rfl⟩
   | false =>
     go_wp2_with fail
     refine (HCon.out _ rfl).mono ?_
     rintro e w' ⟨rfl, rfl⟩
     go_wp2_with fail
     go_round
     case rel => exact ⟨k + 1, by omega, by go_num, hidE (by rw [HS.out, HT.out]; rfl)⟩
     case measure => simp [intOf]; omega
  ·obtain rfl : k = l.length := by omega
   go_wp2_with fail
   go_ret
   exact ⟨by rw [HT.out]; rfl, rfl⟩
def yearTo (l : List Vrn) (k : Nat) : Int := if k = 0 then 0 else (l.getD (k - 1) ⟨0, 0⟩).year
theorem vrnsB_drop {l : List Vrn} {k : Nat} (hk : k < l.length) (y : Int) : vrnsB y (l.drop k) = (inR l[k].year (y + 1) 3000 && inR l[k].east (-60) 60 && vrnsB l[k].year (l.drop (k + 1))) := by
 rw [List.drop_eq_getElem_cons hk]; rfl
set_option maxHeartbeats 1000000 in
theorem checkVrns_any (w : World) (a : Option Addr) (cap : Nat) (l : List Vrn) (hl : l.length ≤ 9223372036854775807) (h : VrnsAt w a l) :
 Calls Tryz.prog 201 #[.slice a l.length cap] w fun e w' => e = .returned (.int .i64 (checkVrns l)) ∧ Below w.heap.size w w' := by
 obtain ⟨P, hP⟩ : ∃ P, checkVrns l = P := ⟨_, rfl⟩
 rw [hP]
 unfold checkVrns at hP
 by_cases h40 : 40 < l.length
 ·obtain rfl : (2 : Int) = P := by rw [if_pos h40] at hP; exact hP
  have hd : decide ((l.length : Int) > 40) = true := by simp; omega
  clear hP h
  go_enter Tryz.func201, Tryz.ntmps201
  go_wp2_with fail
  go_ret
  exact ⟨rfl, Below.refl _ _⟩
 ·rw [if_neg h40] at hP
  have hd : decide ((l.length : Int) > 40) = false := by simp; omega
  have HP := hidE hP
  have H := hidE h
  clear hP h
  go_enter Tryz.func201, Tryz.ntmps201
  go_wp2_with fail
  go_loopw [3, 11] (fun y i wr => ∃ (k : Nat) (yr : Int), k ≤ l.length ∧ i = .int .i64 k ∧ y = .int .i64 yr ∧ 0 ≤ yr ∧ yr ≤ 3000 ∧ Hid (vrnsB 0 l = vrnsB yr (l.drop k)) ∧ Below w.heap.size w wr) (fun _ i _ => l.length - (intOf i).toNat)
  case atStart => exact ⟨0, 0, Nat.zero_le _, rfl, rfl, by omega, by omega, hidE rfl, Below.refl _ _⟩
  case round =>
   obtain ⟨k, yr, hk, rfl, rfl, hy0, hy1, HV, hb⟩ := hrel
   by_cases hlt : k < l.length
   ·obtain ⟨b, off, rfl, hbl, hc⟩ := RecsAt.at H.out hlt
    have c0 := hc 0 (by omega)
    have c1 := hc 1 (by omega)
    rw [← hb.cell hbl, Nat.add_zero] at c0
    rw [← hb.cell hbl] at c1
    have HS := hidE (vrnsB_drop hlt yr)
    obtain ⟨x, hx⟩ : ∃ x, l[k] = x := ⟨_, rfl⟩
    rw [hx] at c0 c1 HS
    obtain ⟨xy, xe⟩ := x
    simp only [Vrn.cells, List.getElem?_cons_zero, List.getElem?_cons_succ] at c0 c1
    simp only at HS
    clear hx hc
    have hi1 := fun W => inC_any xy (yr + 1) 3000 W
    have hi2 := fun W => inC_any xe (-60) 60 W
    have HYB : Hid (inR xy (yr + 1) 3000 = true → yr < xy ∧ xy ≤ 3000) := hidE (by unfold inR; simp; omega)
    obtain ⟨q1, hq1⟩ : ∃ q, inR xy (yr + 1) 3000 = q := ⟨_, rfl⟩
    obtain ⟨q2, hq2⟩ : ∃ q, inR xe (-60) 60 = q := ⟨_, rfl⟩
    rw [hq1] at hi1 HS HYB
    rw [hq2] at hi2 HS
    have HI1 := hidE hi1
    have HI2 := hidE hi2
    have B := hidE hb
    have l1 := B.out.size
    clear hi1 hi2 hq1 hq2 hb
    cases q1 with
    | false =>
      obtain rfl : (1 : Int) = P := by rw [← HP.out, HV.out, HS.out]; rfl
      go_wp2_with fail
      refine (HI1.out _).mono ?_
      rintro e w1 ⟨rfl, rfl⟩
      go_wp2_with fail
      go_ret
      exact ⟨rfl, B.out.alloc B.out.size _⟩
    | true =>
      have hyb := HYB.out rfl
      cases q2 with
      | false =>
        obtain rfl : (1 : Int) = P := by rw [← HP.out, HV.out, HS.out]; rfl
        go_wp2_with fail
        refine (HI1.out _).mono ?_
        rintro e w1 ⟨rfl, rfl⟩
        go_wp2_with fail
        refine (HI2.out _).mono ?_
        rintro e w1 ⟨rfl, rfl⟩
        go_wp2_with fail
        go_ret
        exact ⟨rfl, B.out.alloc B.out.size _⟩
      | true =>
        go_wp2_with fail
        refine (HI1.out _).mono ?_
        rintro e w1 ⟨rfl, rfl⟩
        go_wp2_with fail
        refine (HI2.out _).mono ?_
        rintro e w1 ⟨rfl, rfl⟩
        go_wp2_with fail
        go_roundw
        case rel => exact ⟨k + 1, xy, by omega, by go_num, rfl, by omega, hyb.2, hidE (by rw [HV.out, HS.out]; rfl), B.out.alloc B.out.size _⟩
        case measure => simp [intOf]; omega
   ·obtain rfl : k = l.length := by omega
    obtain rfl : (0 : Int) = P := by rw [← HP.out, HV.out, List.drop_length]; rfl
    go_wp2_with fail
    go_ret
    exact ⟨rfl, hb⟩
theorem flatMap_len {α : Type} {k : Nat} {f : α → List Value} (hf : ∀ x, (f x).length = k) : ∀ l : List α, (l.flatMap f).length = l.length * k
 | [] => by simp
 | x :: l => by rw [List.flatMap_cons, List.length_append, hf, flatMap_len hf l, List.length_cons, Nat.succ_mul, Nat.add_comm]
theorem flatMap_get {α : Type} {k : Nat} {f : α → List Value} (hf : ∀ x, (f x).length = k) : ∀ (l : List α) (i : Nat) (h : i < l.length) (j : Nat), j < k → (l.flatMap f)[i * k + j]? = (f l[i])[j]?
 | [], i, h, _, _ => by simp at h
 | x :: l, 0, h, j, hj => by
   rw [List.flatMap_cons, Nat.zero_mul, Nat.zero_add, List.getElem?_append_left (by rw [hf]; exact hj)]; rfl
 | x :: l, i + 1, h, j, hj => by
   have := flatMap_get hf l i (by simpa using h) j hj
   rw [List.flatMap_cons, List.getElem?_append_right (by rw [hf, Nat.succ_mul]; omega), hf, show (i + 1) * k + j - k = i * k + j from by rw [Nat.succ_mul]; omega, this]
   rfl
theorem append_rec {w : World} {base : Nat} {tS tE : TypeId} {k bytes : Nat} {z : Value} (hu : Tryz.prog.underlying tS = some (.slice tE)) (hinfo : (Tryz.prog.info? tE).map (fun i => (i.zero, i.size, i.bytes)) = some (some z, k, bytes)) (hz : z.cells.size = k) (hk : 0 < k) (hby : bytes ≤ 1000)
 {v : Value} {n : Nat} {cs : List Value} (hown : w.ownsRow base tE k v n cs) {b : Nat} {news : List Value} (hn : news.length = k) (h : w.heap[b]? = some (.cells news.toArray tE (0,0))) (h1 : ∀ u ∈ news, u.oneCell' = true) (hx : n ≤ 100000) (hb : base ≤ w.heap.size) (ty : TypeId) :
 ∃ v' w', (Builtin.append_ #[tS, tS] ty #[v, .slice (some ⟨b, 0, none⟩) 1 1]).run Tryz.prog w = .ok v' w' ∧ w'.ownsRow base tE k v' (n + 1) (cs ++ news) ∧ Below base w w' ∧ (∀ q, q < w.heap.size → v.ownBlock ≠ some q → w'.heap[q]? = w.heap[q]?) := by
 obtain ⟨i0, hi, hz0, hz1, hz2⟩ := info_parts hinfo
 have hnews : ∀ j u, news[j]? = some u → w.cell? ((⟨b, 0, none⟩ : Addr).add j) = some u := by
  intro j u hj
  rw [show ((⟨b, 0, none⟩ : Addr).add j) = ⟨b, 0 + j, none⟩ from by unfold Addr.add; split <;> simp_all]
  rw [cell_of_row _ _ _ _ _ _ h, Nat.zero_add]
  simpa using hj
 have hm : (n + 1) * bytes ≤ 100001 * 1000 := Nat.mul_le_mul (by omega) hby
 obtain ⟨v', w', hrun, h2, h3, _, h5⟩ := run_append_own_at (P := Tryz.prog) w base tS ty tE i0 _ k bytes hu hi hz0 hz1 hz2 hz hk v _ _ hown ⟨b, 0, none⟩ 1 1 news (by rw [hn, Nat.one_mul]) hnews h1 (by unfold maxLen; omega) (by omega) hb
 refine ⟨v', w', hrun, h2, (Below.refl base w).grown h3 hb (fun q e => ?_), fun q hq hne => h3.block q hq (fun e => hne e.symm)⟩
 rcases hown.2 with ⟨e1, _⟩ | ⟨g1, cp', cu, e1, hge, hh, _⟩
 ·rw [e1] at e; simp [Value.ownBlock] at e
 ·rw [e1] at e
  simp only [Value.ownBlock, Option.some.injEq] at e
  omega
theorem recsAt_of_owns {α : Type} {k : Nat} {f : α → List Value} (hf : ∀ x, (f x).length = k) {W : World} {base : Nat} {tE : TypeId} {v : Value} {l : List α} (h : W.ownsRow base tE k v l.length (l.flatMap f)) :
 ∃ o cap, v = .slice o l.length cap ∧ RecsAt k f W o l ∧ l.length ≤ cap ∧ cap ≤ 9223372036854775807 ∧ ∀ q, o = some q → base ≤ q.block := by
 rcases h.2 with ⟨e, h0⟩ | ⟨gb, cp, cur, e, hge, hh, hn, hm, hsz, htk⟩
 ·exact ⟨none, 0, by rw [e, h0], .inl (List.length_eq_zero_iff.1 h0), by omega, by omega, fun q e => by cases e⟩
 ·refine ⟨_, _, e, .inr ⟨gb, 0, rfl, lt_of_block hh, fun i hi j hj => ?_⟩, hn, by unfold maxLen at hm; omega, fun q e => by cases e; exact hge⟩
  rw [cell_of_row _ _ _ _ _ _ hh, Nat.zero_add]
  have hlt : i * k + j < l.length * k := by
   have : (i + 1) * k ≤ l.length * k := Nat.mul_le_mul (by omega) (Nat.le_refl _)
   rw [Nat.succ_mul] at this
   omega
  have h2 : (cur.toList.take (l.length * k))[i * k + j]? = (l.flatMap f)[i * k + j]? := by rw [htk]
  rw [List.getElem?_take_of_lt hlt, flatMap_get hf l i hi j hj] at h2
  rw [← Array.getElem?_toList, h2]
theorem RecsAt.set {α : Type} {k : Nat} {f : α → List Value} {w : World} {o : Option Addr} {l : List α} (h : RecsAt k f w o l) {p : Addr} (hp : ∀ q, o = some q → q.block ≠ p.block) (v : Value) : RecsAt k f (w.setCell p v) o l := by
 rcases h with h | ⟨b, off, e, hl, hc⟩
 ·exact .inl h
 ·refine .inr ⟨b, off, e, by simpa using hl, fun i hi j hj => ?_⟩
  have hne := hp _ e
  rw [World.cell?_setCell_other _ _ _ _ (fun e2 => hne (by rw [e2]))]
  exact hc i hi j hj
theorem info9 : (Tryz.prog.info? 9).map (fun i => (i.zero, i.size, i.bytes)) = some (some (.string ⟨#[]⟩), 1, 16) := by kernel_rfl
end Go.Proofs.YthjmkmjojlfejaaGreat
namespace Go.Proofs.YthjmkmjojlfejaaGreat
theorem idxOf_before {α : Type} {p : α → Bool} {d : α} : ∀ (l : List α) (j : Nat), j < l.length → (idxOf p l < 0 ∨ (j : Int) < idxOf p l) → p (l.getD j d) = false
 | [], j, h, _ => by simp at h
 | x :: l, j, hj, h => by
   cases hx : p x with
   | true => rw [idxOf, if_pos hx] at h; omega
   | false =>
     cases j with
     | zero => simpa using hx
     | succ j =>
       rw [idxOf, if_neg (by rw [hx]; simp)] at h
       have := idxOf_before (d := d) l j (by simpa using hj) (by
        by_cases hn : idxOf p l < 0
        ·exact .inl hn
        ·rw [if_neg hn] at h; right; omega)
       simpa using this
def valuesB (N : Int) (y : List Int) : Bool := decide ((y.length : Int) = N) && (y.getD 0 0 == 0) && !(y.any fun v => !inR v (-400000000) 400000000)
theorem valuesB_iff {N : Nat} {y : List Int} : valuesB N y = true ↔ y.length = N ∧ y.getD 0 0 = 0 ∧ ∀ v ∈ y, -400000000 ≤ v ∧ v ≤ 400000000 := by
 unfold valuesB
 simp only [Bool.and_eq_true, decide_eq_true_eq, beq_iff_eq, Bool.not_eq_true', List.any_eq_false, and_assoc]
 constructor
 ·rintro ⟨h1, h2, h3⟩; exact ⟨by omega, h2, fun v hv => inR_true.1 (by simpa using h3 v hv)⟩
 ·rintro ⟨h1, h2, h3⟩; exact ⟨by omega, h2, fun v hv => by simp [inR_true.2 (h3 v hv)]⟩
def sumN (f : Nat → Int) : Nat → Int
 | 0 => 0
 | n + 1 => sumN f n + f n
theorem sumN_congr {f g : Nat → Int} : ∀ {n : Nat}, (∀ i, i < n → f i = g i) → sumN f n = sumN g n
 | 0, _ => rfl
 | n + 1, h => by simp only [sumN]; rw [sumN_congr fun i hi => h i (by omega), h n (by omega)]
theorem sumN_bd {f : Nat → Int} {c : Int} : ∀ {n : Nat}, (∀ i, i < n → -c ≤ f i ∧ f i ≤ c) → -(n * c) ≤ sumN f n ∧ sumN f n ≤ n * c
 | 0, _ => by simp [sumN]
 | n + 1, h => by
   have h1 := sumN_bd (n := n) fun i hi => h i (by omega)
   have h2 := h n (by omega)
   simp only [sumN]
   rw [Int.natCast_add, Int.add_mul]
   simp only [Int.natCast_one, Int.one_mul]
   omega
theorem mul_bd {a b A B : Int} (h1 : -A ≤ a) (h2 : a ≤ A) (h3 : -B ≤ b) (h4 : b ≤ B) : -(A * B) ≤ a * b ∧ a * b ≤ A * B := by
 have hA : a.natAbs ≤ A.toNat := by omega
 have hB : b.natAbs ≤ B.toNat := by omega
 have h : (a * b).natAbs ≤ A.toNat * B.toNat := by rw [Int.natAbs_mul]; exact Nat.mul_le_mul hA hB
 have e : ((A.toNat * B.toNat : Nat) : Int) = A * B := by rw [Int.natCast_mul, Int.toNat_of_nonneg (by omega), Int.toNat_of_nonneg (by omega)]
 omega
def formP (w y : List Int) : Int := sumN (fun i => w.getD i 0 * y.getD i 0) w.length
end Go.Proofs.YthjmkmjojlfejaaGreat
namespace Go.Proofs.YthjmkmjojlfejaaGreat
open Go Go.RowKit Go.Shelf
theorem in_any (n a b : Int) (w : World) : Calls Tryz.prog 86 #[.int .i64 n, .int .i64 a, .int .i64 b] w fun e w' => e = .returned (.bool (inR n a b)) ∧ w = w' := by
 unfold inR
 go_enter Tryz.func86, Tryz.ntmps86
 go_wp2
 all_goals go_ret
 all_goals refine ⟨?_, rfl⟩
 all_goals simp [*]
 omega
theorem in_at {n a b : Int} {r : Bool} (h : inR n a b = r) (w : World) : Calls Tryz.prog 86 #[.int .i64 n, .int .i64 a, .int .i64 b] w fun e w' => e = .returned (.bool r) ∧ w = w' := h ▸ in_any n a b w
theorem right_any (r : Bool) (w : World) : Calls Tryz.prog 161 #[.bool r] w fun e w' => e = .returned (.int .i64 (if r then 0 else 1)) ∧ w = w' := by
 cases r with
 | true =>
   go_enter Tryz.func161, Tryz.ntmps161
   go_wp2
   go_ret
   exact ⟨rfl, rfl⟩
 | false =>
   go_enter Tryz.func161, Tryz.ntmps161
   go_wp2
   go_ret
   exact ⟨rfl, rfl⟩
theorem all1_any (w : World) (x : Int) (b : Nat) (f : FuncId) (caps : Array Value) (p : Int → Bool) (hc : w.cell? ⟨b, 0, none⟩ = some (.func (.func f) #[] caps))
 (hf : Calls Tryz.prog f (#[.int .i64 x] ++ caps) w fun e W' => e = .returned (.bool (p x)) ∧ Below w.heap.size w W') (eg : Enters Tryz.prog f) :
 Calls Tryz.prog 152 #[.int .i64 x, .pointer (some ⟨b, 0, none⟩)] w fun e w' => e = .returned (.bool (!p x)) ∧ Below w.heap.size w w' := by
 unfold Enters at eg
 have HF := hidE hf
 clear hf
 obtain ⟨q, hq⟩ : ∃ q, p x = q := ⟨_, rfl⟩
 rw [hq] at HF ⊢
 clear hq
 go_enter Tryz.func152, Tryz.ntmps152
 go_wp2_with (go_at_fn f; refine HF.out.mono ?_; rintro e w' ⟨rfl, hb'⟩)
 go_ret
 exact ⟨rfl, hb'⟩
set_option maxHeartbeats 400000 in
theorem all_any (w : World) (a : Option Addr) (cap : Nat) (xs : List Int) (f : FuncId) (caps : Array Value) (p : Int → Bool) (hl : xs.length ≤ 9223372036854775807) (h : IntsAt w a xs)
 (hf : TestsInts Tryz.prog f caps w xs p) (eg : Enters Tryz.prog f) :
 Calls Tryz.prog 84 #[.slice a xs.length cap, .func (.func f) #[] caps] w fun e w' => e = .returned (.bool (xs.all p)) ∧ Below w.heap.size w w' := by
 have b0 : Below w.heap.size w (w.alloc (.cells #[.func (.func f) #[] caps] 111)) := (Below.refl _ _).alloc (Nat.le_refl _) _
 have hq := containsFuncInts_any (w.alloc (.cells #[.func (.func f) #[] caps] 111)) a cap xs 152 #[.pointer (some ⟨w.heap.size, 0, none⟩)] (fun x => !p x) hl (h.alloc _)
  (fun k hk W hb => all1_any W xs[k] w.heap.size f caps p (by
   rw [hb.cell (p := ⟨w.heap.size, 0, none⟩) (by simp), cell_of_row _ _ _ _ _ _ (heap_alloc_new w _)]; rfl) (hf k hk W (b0.trans (hb.mono (by simp)))) eg) (enters_of Tryz.func152 (by kernel_rfl) rfl)
 have e : xs.all p = !(xs.any fun x => !p x) := List.all_eq_not_any_not
 rw [e]
 obtain ⟨r, hr⟩ : ∃ r, (xs.any fun x => !p x) = r := ⟨_, rfl⟩
 rw [hr] at hq ⊢
 have HQ := hidE hq
 clear hq hr e hf h b0
 go_enter Tryz.func84, Tryz.ntmps84
 go_wp2_with fail
 refine HQ.out.mono ?_
 rintro e w1 ⟨rfl, hb1⟩
 go_wp2_with fail
 go_ret
 exact ⟨rfl, ((Below.refl _ _).alloc (Nat.le_refl _) _).trans (hb1.mono (by simp))⟩
theorem valued1_any (w : World) (v : Int) : Calls Tryz.prog 163 #[.int .i64 v] w fun e w' => e = .returned (.bool (inR v (-400000000) 400000000)) ∧ w = w' := by
 go_enter Tryz.func163, Tryz.ntmps163
 go_wp2_with (go_at_call 86; refine (in_any _ _ _ _).mono ?_; rintro e w' ⟨rfl, rfl⟩)
 go_ret
 exact ⟨rfl, rfl⟩
theorem weighed1_any (w : World) (v : Int) : Calls Tryz.prog 166 #[.int .i64 v] w fun e w' => e = .returned (.bool (inR v (-1000000) 1000000)) ∧ w = w' := by
 go_enter Tryz.func166, Tryz.ntmps166
 go_wp2_with (go_at_call 86; refine (in_any _ _ _ _).mono ?_; rintro e w' ⟨rfl, rfl⟩)
 go_ret
 exact ⟨rfl, rfl⟩
theorem flowing1_any (w : World) (v : Int) : Calls Tryz.prog 177 #[.int .i64 v] w fun e w' => e = .returned (.bool (inR v 0 1000000000)) ∧ w = w' := by
 go_enter Tryz.func177, Tryz.ntmps177
 go_wp2_with (go_at_call 86; refine (in_any _ _ _ _).mono ?_; rintro e w' ⟨rfl, rfl⟩)
 go_ret
 exact ⟨rfl, rfl⟩
theorem any_all_neg (y : List Int) (a b : Int) : (y.all fun v => inR v a b) = !(y.any fun v => !inR v a b) := List.all_eq_not_any_not
set_option maxHeartbeats 1000000 in
theorem valued_any (w : World) (N : Int) (a : Option Addr) (cap : Nat) (y : List Int) (hN0 : 1 ≤ N) (hl : y.length ≤ 9223372036854775807) (h : IntsAt w a y) :
 Calls Tryz.prog 105 #[.int .i64 N, .slice a y.length cap] w fun e w' => e = .returned (.bool (valuesB N y)) ∧ Below w.heap.size w w' := by
 by_cases h1 : (y.length : Int) = N
 ·have h1b : ((y.length : Int) == N) = true := by simpa using h1
  have hlt : 0 < y.length := by omega
  obtain ⟨b, off, rfl, hbl, hc⟩ := h.at hlt
  have hg : y.getD 0 0 = y[0] := getD_get y 0 hlt
  obtain ⟨v, hv⟩ : ∃ v, y[0] = v := ⟨_, rfl⟩
  rw [hv] at hc hg
  rw [Nat.add_zero] at hc
  by_cases h2 : v = 0
  ·have h2b : (v == 0) = true := by simpa using h2
   have hq := all_any w (some ⟨b, off, none⟩) cap y 163 #[] (fun v => inR v (-400000000) 400000000) hl h (fun k hk W hb => (valued1_any W y[k]).mono fun _ _ ⟨he, hw⟩ => ⟨he, hw ▸ Below.refl _ _⟩) (enters_of Tryz.func163 (by kernel_rfl) rfl)
   have hval : valuesB N y = (y.all fun v => inR v (-400000000) 400000000) := by rw [any_all_neg]; unfold valuesB; rw [hg, h1]; simp [h2]
   obtain ⟨r, hr⟩ : ∃ r, (y.all fun v => inR v (-400000000) 400000000) = r := ⟨_, rfl⟩
   rw [hr] at hq hval
   have HQ := hidE hq
   have HV := hidE hval
   clear hq hval hr hg hv h1 h2 h
   go_enter Tryz.func105, Tryz.ntmps105
   go_wp2_with fail
   refine HQ.out.mono ?_
   rintro e w1 ⟨rfl, hb1⟩
   go_wp2_with fail
   go_ret
   exact ⟨by rw [HV.out]; rfl, hb1⟩
  ·have h2b : (v == 0) = false := by simpa using h2
   have hval : valuesB N y = false := by unfold valuesB; rw [hg]; simp [h2]
   have HV := hidE hval
   clear hval hg hv h1 h2 h
   go_enter Tryz.func105, Tryz.ntmps105
   go_wp2_with fail
   go_ret
   exact ⟨by rw [HV.out]; rfl, Below.refl _ _⟩
 ·have h1b : ((y.length : Int) == N) = false := by simpa using h1
  have hval : valuesB N y = false := by unfold valuesB; simp [h1]
  have HV := hidE hval
  clear hval h1 h
  go_enter Tryz.func105, Tryz.ntmps105
  go_wp2_with fail
  go_ret
  exact ⟨by rw [HV.out]; rfl, Below.refl _ _⟩
end Go.Proofs.YthjmkmjojlfejaaGreat
