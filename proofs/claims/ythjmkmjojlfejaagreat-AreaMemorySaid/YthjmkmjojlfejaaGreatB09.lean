/- Merged text 9 of the base: Ar3, Rp, Nd, Fy, Rq, Gv, Nw, Va, As, Cl, Rk1. No conditions beyond those stated. -/
import Derived.Test.YthjmkmjojlfejaaGreatB07
import Derived.Test.YthjmkmjojlfejaaGreatB03
import Derived.Test.YthjmkmjojlfejaaGreatB01
import Derived.Test.YthjmkmjojlfejaaGreatB08
import Derived.Test.YthjmkmjojlfejaaGreatB02
import Derived.RangeFuncBox
import Derived.Test.YthjmkmjojlfejaaGreatB05
import Derived.Test.YthjmkmjojlfejaaGreatB04
import Derived.OwnWalkIn
namespace Go.Proofs.YthjmkmjojlfejaaGreat
def more (total : Int) (parts : List Int) : List Nat := (remOrd (shRem total parts)).take (shLeft total parts).toNat
theorem shares_at {total : Int} {parts : List Int} {j : Nat} (hj : j < parts.length) : (sharesP total parts).getD j 0 = total * parts.getD j 0 / shWhole parts + (if j ∈ more total parts then 1 else 0) := by
 unfold sharesP
 rw [bumps_get _ _ _ ((remOrd_nodup _).sublist (List.take_sublist _ _)) (fun i hi => by have := remOrd_lt (List.mem_of_mem_take hi); simpa [shQuo, shRem] using this)]
 congr 1
 simp [shQuo, List.getD_eq_getElem?_getD, hj]
theorem shRem_at {total : Int} {parts : List Int} {j : Nat} (hj : j < parts.length) : (shRem total parts).getD j 0 = total * parts.getD j 0 % shWhole parts := by
 simp [shRem, List.getD_eq_getElem?_getD, hj]
theorem more_pos {total : Int} {parts : List Int} (h : ShOk total parts) {j : Nat} (hj : j ∈ more total parts) : 0 < (shRem total parts).getD j 0 := by
 unfold more at hj
 obtain ⟨q, hq, e⟩ := List.mem_take_iff_getElem.1 hj
 have := ord_pos h (k := q) (by omega) (by omega)
 rw [e] at this
 exact this
theorem shares_near {total : Int} {parts : List Int} (h : ShOk total parts) {j : Nat} (hj : j < parts.length) :
 -shWhole parts < (sharesP total parts).getD j 0 * shWhole parts - total * parts.getD j 0 ∧ (sharesP total parts).getD j 0 * shWhole parts - total * parts.getD j 0 < shWhole parts := by
 rw [shares_at hj]
 have hw := shWhole_pos parts
 have e := Int.mul_ediv_add_emod (total * parts.getD j 0) (shWhole parts)
 have r0 := Int.emod_nonneg (total * parts.getD j 0) (show shWhole parts ≠ 0 by omega)
 have r1 := Int.emod_lt_of_pos (total * parts.getD j 0) (show 0 < shWhole parts by omega)
 rw [Int.add_mul, Int.mul_comm (total * parts.getD j 0 / shWhole parts)]
 by_cases hm : j ∈ more total parts
 ·have hp := more_pos h hm
  rw [shRem_at hj] at hp
  rw [if_pos hm]
  omega
 ·rw [if_neg hm]
  omega
theorem getD_nonneg {parts : List Int} (h : ∀ x ∈ parts, 0 ≤ x) (j : Nat) : 0 ≤ parts.getD j 0 := by
 rw [List.getD_eq_getElem?_getD]
 by_cases hj : j < parts.length
 ·rw [List.getElem?_eq_getElem hj]; exact h _ (List.getElem_mem hj)
 ·rw [List.getElem?_eq_none (by omega)]; simp
theorem shares_nonneg {total : Int} {parts : List Int} (h : ShOk total parts) : ∀ x ∈ sharesP total parts, 0 ≤ x := by
 intro x hx
 obtain ⟨j, hj, rfl⟩ := List.getElem_of_mem hx
 have hj' : j < parts.length := by rw [← sharesP_len total parts]; exact hj
 have e : (sharesP total parts)[j] = (sharesP total parts).getD j 0 := by rw [List.getD_eq_getElem?_getD, List.getElem?_eq_getElem hj]; rfl
 rw [e, shares_at hj']
 have hw := shWhole_pos parts
 have := Int.ediv_nonneg (Int.mul_nonneg h.tot (getD_nonneg h.pos j)) (show 0 ≤ shWhole parts by omega)
 split <;> omega
theorem le_isum {l : List Int} (h : ∀ x ∈ l, 0 ≤ x) {x : Int} (hx : x ∈ l) : x ≤ isum l := by
 induction l with
 | nil => simp at hx
 | cons y l ih =>
   have h0 := h y (by simp)
   have h1 := isum_nonneg fun z hz => h z (List.mem_cons_of_mem _ hz)
   simp only [isum]
   rcases List.mem_cons.1 hx with e | e
   ·omega
   ·have := ih (fun z hz => h z (by simp [hz])) e; omega
theorem shares_le {total : Int} {parts : List Int} (h : ShOk total parts) : ∀ x ∈ sharesP total parts, 0 ≤ x ∧ x ≤ total := fun x hx =>
 ⟨shares_nonneg h x hx, by have := le_isum (shares_nonneg h) hx; rw [sharesP_sum h] at this; exact this⟩
def whoTo (ranks : List Int) (r : Int) (k : Nat) : List Nat := (List.range k).filter fun i => ranks.getD i 0 == r
def whoP (ranks : List Int) (r : Int) : List Nat := whoTo ranks r ranks.length
def wantTo (claims ranks : List Int) (r : Int) (k : Nat) : List Int := (whoTo ranks r k).map fun i => claims.getD i 0
def wantP (claims ranks : List Int) (r : Int) : List Int := wantTo claims ranks r ranks.length
theorem whoTo_succ (ranks : List Int) (r : Int) (k : Nat) : whoTo ranks r (k + 1) = whoTo ranks r k ++ (if ranks.getD k 0 == r then [k] else []) := by
 unfold whoTo; rw [List.range_succ, List.filter_append]; congr 1; rw [List.filter_cons, List.filter_nil]
theorem wantTo_succ (claims ranks : List Int) (r : Int) (k : Nat) : wantTo claims ranks r (k + 1) = wantTo claims ranks r k ++ (if ranks.getD k 0 == r then [claims.getD k 0] else []) := by
 unfold wantTo; rw [whoTo_succ, List.map_append]; split <;> simp
theorem whoTo_len (ranks : List Int) (r : Int) (k : Nat) : (whoTo ranks r k).length ≤ k := by
 have := List.length_filter_le (fun i => ranks.getD i 0 == r) (List.range k); rw [List.length_range] at this; exact this
theorem whoTo_lt {ranks : List Int} {r : Int} {k i : Nat} (h : i ∈ whoTo ranks r k) : i < k := List.mem_range.1 (List.mem_filter.1 h).1
theorem wantTo_len (claims ranks : List Int) (r : Int) (k : Nat) : (wantTo claims ranks r k).length = (whoTo ranks r k).length := List.length_map ..
structure Rk where
 left : Int
 out : List Int
def addTo (out : List Int) (who : List Nat) (l : List Int) (k : Nat) : List Int := ((who.zip l).take k).foldl (fun o p => addAt o p.1 p.2) out
def muchR (claims ranks : List Int) (r : Int) (most : Bool) (left : Int) : Int := if most then min left (isum (wantP claims ranks r)) else left
def giveR (claims ranks : List Int) (r : Int) (most : Bool) (s : Rk) : Bool × Rk :=
 if 0 < muchR claims ranks r most s.left ∧ isum (wantP claims ranks r) = 0 then (false, s)
 else (!most || muchR claims ranks r most s.left == isum (wantP claims ranks r),
  ⟨s.left - muchR claims ranks r most s.left, addTo s.out (whoP ranks r) (sharesP (muchR claims ranks r most s.left) (wantP claims ranks r)) (whoP ranks r).length⟩)
def giveGo (claims ranks : List Int) : List Int → Rk → Rk
 | [], s => s
 | r :: l, s => if (giveR claims ranks r true s).1 then giveGo claims ranks l (giveR claims ranks r true s).2 else (giveR claims ranks r true s).2
def orderP (ranks : List Int) : List Int := Lib.compact (sortP ranks)
def rankStart (found : Int) (claims : List Int) : Rk := ⟨found, List.replicate claims.length 0⟩
def rankEnd (found : Int) (claims ranks : List Int) : Rk := giveGo claims ranks (orderP ranks) (rankStart found claims)
def lastR (claims ranks : List Int) (s : Rk) : List Int × Int :=
 if 0 < s.left then (if (giveR claims ranks ((orderP ranks).getD ((orderP ranks).length - 1) 0) false s).1 then ((giveR claims ranks ((orderP ranks).getD ((orderP ranks).length - 1) 0) false s).2.out, 0) else ([], 51))
 else (s.out, 0)
def rankedE (found : Int) (claims ranks : List Int) : List Int × Int :=
 if checkSharesP found claims ≠ 0 then ([], checkSharesP found claims)
 else if ranks.length ≠ claims.length ∨ (ranks.all fun v => inR v 0 1000000) = false then ([], 1)
 else lastR claims ranks (rankEnd found claims ranks)
def stakeAt (fr up : Int) (l : List Int) (k : Nat) : Int := if up < fr then fr - isum (l.take k) else fr + isum (l.take k)
def stakesTo (fr up : Int) (l : List Int) (k : Nat) : List Int := (List.range k).map fun i => stakeAt fr up l (i + 1)
theorem stakesTo_succ (fr up : Int) (l : List Int) (k : Nat) : stakesTo fr up l (k + 1) = stakesTo fr up l k ++ [stakeAt fr up l (k + 1)] := by
 unfold stakesTo; rw [List.range_succ, List.map_append]; rfl
theorem stakesTo_len (fr up : Int) (l : List Int) (k : Nat) : (stakesTo fr up l k).length = k := by simp [stakesTo]
def stakesE (fr up : Int) (claims : List Int) : List Int × Int :=
 if inR fr 0 100000 = false ∨ inR up 0 100000 = false then ([], 1)
 else if checkSharesP (max (fr - up) (up - fr)) claims ≠ 0 then ([], checkSharesP (max (fr - up) (up - fr)) claims)
 else (stakesTo fr up (sharesP (max (fr - up) (up - fr)) claims) claims.length, 0)
end Go.Proofs.YthjmkmjojlfejaaGreat
namespace Go.Proofs.YthjmkmjojlfejaaGreat
open Go Go.RowKit Go.Shelf
def roundPost {α : Type} (B : Nat) (Kp : World → World → Prop) (I : List α → World → Prop) (s : List α) (W : World) : Exit → Act → World → Prop := fun e _ W' => e = .normal ∧ KeepsFrom B W W' ∧ Kp W W' ∧ I s W'
theorem wp_rangeRecv {α : Type} {P : Program} {g : Operand} {ps : Array Tmp} {assign body : Code} {Q : Exit → Act → World → Prop} {a : Act} {w : World} {gf : Nat} {rv : Value}
 (hg : a.eval g = .func (.func gf) #[rv] #[]) (eg : ∀ args w, (callFunc gf args).run P w = .ok (.enter gf args) w)
 (encs : α → Array Value) (hps : ∀ x, (encs x).size = ps.size) (S : List α → Prop) (N : Nat) (Kp : World → World → Prop) (hKt : ∀ {A B C : World}, Kp A B → Kp B C → Kp A C)
 (hKb : ∀ (W : World) (l : Nat) (o o' : Obj), w.heap.size ≤ l → W.heap[l]? = some o → o.isCells = false → o.isWalk = false → Kp W (W.putObj l o'))
 (hseq : ∀ (l : Nat) (J : List α → World → Prop) (W : World), Below w.heap.size w W → AbidesFrom W.heap.size J →
  (∀ pre x W1, J pre W1 → pre.length < N → YieldAt Fence.wide 6 P l (encs x) W1 fun e W' => e = .returned (.bool true) ∧ J (pre ++ [x]) W' ∧ Kp W1 W') → J [] W →
  CallsIn Fence.wide 7 P gf #[rv, .func (.yield l) #[] #[]] W fun e W' => (∃ v, e = .returned v) ∧ ∃ ys, S ys ∧ J ys W')
 (I : List α → World → Prop) (hI : OwnFrom w.heap.size I) (h0 : I [] w) (Ax : α → Act → World → Prop) (hAx : ∀ x a', OwnFrom w.heap.size (fun (_ : Unit) W => Ax x a' W))
 (hassign : ∀ (l : Nat) (pre : List α) (x : α) (W : World) (K : Act → World → Prop), I pre W → (∀ a' W', KeepsFrom w.heap.size W W' → Kp W W' → I pre W' → Ax x a' W' → K a' W') →
  assign.wpIn (Fence.wide.inRound l) 6 P (Exit.then K (fun _ _ _ => False)) { tmps := (ps.zip (encs x)).foldl (fun t (p, v) => t.setIfInBounds p v) a.tmps, defers := [] } W)
 (hbody : ∀ (l : Nat) (pre : List α) (x : α) (a' : Act) (W : World), I pre W → Ax x a' W → pre.length < N → body.wpIn (Fence.wide.inRound l) 6 P (roundPost w.heap.size Kp I (pre ++ [x]) W) a' W)
 (hdone : ∀ (D : Nat) (xs : List α) (W : World), w.heap.size ≤ D → S xs → I xs W → W.heap[D]? = some (.deferred (some [])) → Q .normal { a with defers := { target := .collected D, args := #[] } :: a.defers } W) :
 (Code.rangeFunc g ps assign body).wp P Q a w := by
 refine (wpIn_wide (n := 8)).1 (wpIn_rangeFunc ?_)
 intro fn hfn
 obtain ⟨rec, hrec⟩ : ∃ rec : LoopState → Loop, rec = fun st => { state := st, pending := none, fn, tmps := a.tmps, params := ps, assign, body, defers := w.heap.size } := ⟨_, rfl⟩
 obtain ⟨W1, hW1⟩ : ∃ W1, (w.alloc (.deferred (some []))).alloc (.loop (rec .ready)) = W1 := ⟨_, rfl⟩
 have hL1 : W1.heap[w.heap.size + 1]? = some (.loop (rec .ready)) := by
  rw [← hW1]; have := World.alloc_heap_new (w.alloc (.deferred (some []))) (.loop (rec .ready)); rwa [World.size_alloc] at this
 have hD1 : W1.heap[w.heap.size]? = some (.deferred (some [])) := by
  rw [← hW1]; exact (Below.heap_alloc _ _ _ (by simp)).trans (World.alloc_heap_new w _)
 have hI1 : I [] W1 := by rw [← hW1]; exact hI.alloc _ (hI.alloc _ h0)
 have hb1 : Below w.heap.size w W1 := by rw [← hW1]; exact ((Below.refl _ w).alloc (Nat.le_refl _) _).alloc (by simp) _
 refine ⟨w.heap.size + 1, [{ target := .collected w.heap.size, args := #[] }], W1, { target := .fn (.func gf) #[], args := #[rv, .func (.yield (w.heap.size + 1)) #[] #[]] }, W1, gf,
  #[rv, .func (.yield (w.heap.size + 1)) #[] #[]], W1, ?_, ?_, ?_, ?_, fun _ => by omega, ?_⟩
 ·rw [← hW1, hrec]; exact run_enterLoop_outer _ _ _ _ _
 ·simp only [resolve, hg]
  simp [go_sem]
 ·intro f' hf'; trivial
 ·simp [invoke, go_sem, eg]
 ·have hnw : ∀ {A : World} {row : Option Nat}, (∀ r, row = some r → W1.heap.size ≤ r ∧ ∃ o : Obj, A.heap[r]? = some o ∧ o.isWalk = true) → (∀ r, row = some r → w.heap.size ≤ r ∧ ∃ o : Obj, A.heap[r]? = some o ∧ o.isCells = false) :=
   fun hr r e => by obtain ⟨hB, o, ho, hw⟩ := hr r e; exact ⟨by rw [← hW1] at hB; simp at hB; omega, o, ho, Obj.not_cells_of_walk hw⟩
  refine (hseq (w.heap.size + 1) (fun pre W => I pre W ∧ W.heap[w.heap.size + 1]? = some (.loop (rec .ready)) ∧ W.heap[w.heap.size]? = some (.deferred (some []))) W1 hb1
   (fun s A B row hs hg' hr => ⟨hI s A B row hs.1 hg' (hnw hr), (grownBy_keeps hg' (fun r e => (hr r e).2) hs.2.1 rfl).trans hs.2.1, (grownBy_keeps hg' (fun r e => (hr r e).2) hs.2.2 rfl).trans hs.2.2⟩)
   ?_ ⟨hI1, hL1, hD1⟩).mono ?_
  ·rintro pre x W ⟨hi, hl, hk⟩ hlen
   have hy := run_yield (P := P) (args := encs x) hl (by rw [hrec]; exact hps x)
   rw [hrec] at hy
   refine ⟨fn, _, assign, body, hy, roundIn_of_wpIn hfn (hassign _ pre x W _ hi ?_)⟩
   clear hy
   intro a' Wa hkfa hkpa hia hax
   have hla := hkfa.same _ _ (by omega) hl rfl
   have hka := hkfa.same _ _ (Nat.le_refl _) hk rfl
   have hlt : w.heap.size + 1 < Wa.heap.size := (Array.getElem?_eq_some_iff.1 hla).1
   obtain ⟨Wb, hWb⟩ : ∃ Wb, Wa.putObj (w.heap.size + 1) (.loop { rec .ready with state := .busy }) = Wb := ⟨_, rfl⟩
   refine ⟨Wb, by rw [← hWb]; exact run_beginRound hla (by rw [hrec]), ?_⟩
   have hlb : Wb.heap[w.heap.size + 1]? = some (.loop { rec .ready with state := .busy }) := by rw [← hWb]; exact World.putObj_heap_same hlt
   have hkb : Wb.heap[w.heap.size]? = some (.deferred (some [])) := by rw [← hWb]; exact (World.putObj_heap_other (by omega)).trans hka
   have hwb : Kp Wa Wb := by rw [← hWb]; exact hKb _ _ _ _ (by omega) hla rfl rfl
   have hib : I pre Wb := by rw [← hWb]; exact hI.putObj _ hia (by omega) hla rfl
   have haxb : Ax x a' Wb := by rw [← hWb]; exact (hAx x a').putObj (s := ()) _ hax (by omega) hla rfl
   refine wpIn_mono (hbody _ pre x a' Wb hib haxb hlen) ?_
   rintro e a3 W3 ⟨rfl, hk3, hkp3, hi3⟩
   have hl3 := hk3.same _ _ (by omega) hlb rfl
   have hd3 := hk3.same _ _ (Nat.le_refl _) hkb rfl
   have hr := run_endRound (P := P) none hl3
   rw [hrec] at hr hl3
   refine ⟨_, _, hr, rfl, ⟨hI.putObj _ hi3 (by omega) hl3 rfl, ?_, (World.putObj_heap_other (by omega)).trans hd3⟩, hKt hkpa (hKt (hKt hwb hkp3) (hKb _ _ _ _ (by omega) hl3 rfl rfl))⟩
   rw [hrec]
   exact World.putObj_heap_same (Array.getElem?_eq_some_iff.1 hl3).1
  ·rintro e W2 ⟨⟨v, rfl⟩, xs, hS, hi, hl, hk⟩
   exact ⟨none, _, by have := run_endLoop (P := P) hl (by rw [hrec]; simp); rw [hrec] at this; exact this, hdone _ xs _ (Nat.le_refl _) hS (hI.putObj _ hi (by omega) hl rfl) ((World.putObj_heap_other (by omega)).trans hk)⟩
def fourP (i : Int) : List Bd := [⟨0, i, 5, 1⟩, ⟨i, 0, 0, 1⟩, ⟨i, i + 3, 20, 2⟩, ⟨i + 3, i, -10, 2⟩]
def sysTo : Nat → List Bd
 | 0 => []
 | k + 1 => sysTo k ++ fourP ((k : Int) + 1)
def sysS : List Bd := sysTo 3
theorem info81 : (Tryz.prog.info? 81).map (fun i => (i.zero, i.size, i.bytes)) = some (some (.agg #[.int .i64 0, .int .i64 0, .int .i64 0, .int .i64 0]), 4, 32) := by kernel_rfl
theorem append_four {w : World} {base : Nat} {v : Value} {n : Nat} {xs : List Bd} (hown : w.ownsRow base 81 4 v n (flat xs)) (i : Int) (hx : n ≤ 1000) (hb : base ≤ w.heap.size) :
 ∃ v' w', (Builtin.append_ #[22, 22] 22 #[v, .slice (some ⟨w.heap.size, 0, none⟩) 4 4]).run Tryz.prog (w.alloc (.cells (flat (fourP i)).toArray 81)) = .ok v' w' ∧ w'.ownsRow base 81 4 v' (n + 4) (flat (xs ++ fourP i)) ∧ Below base w w' ∧ (∀ q : Nat, q < w.heap.size → v.ownBlock ≠ some q → w'.heap[q]? = w.heap[q]?) := by
 obtain ⟨i0, hi, hz0, hz1, hz2⟩ := info_parts info81
 have own3 := hown.alloc (.cells (flat (fourP i)).toArray 81)
 have hnews : ∀ j u, (flat (fourP i))[j]? = some u → (w.alloc (.cells (flat (fourP i)).toArray 81)).cell? ((⟨w.heap.size, 0, none⟩ : Addr).add j) = some u := by
  intro j u hj
  rw [show ((⟨w.heap.size, 0, none⟩ : Addr).add j) = ⟨w.heap.size, 0 + j, none⟩ from by unfold Addr.add; split <;> simp_all]
  rw [cell_of_row _ _ _ _ _ _ (heap_alloc_new w (.cells (flat (fourP i)).toArray 81)), Nat.zero_add]
  simpa using hj
 obtain ⟨v', w', hrun, h2, h3, _, h5⟩ := run_append_own_at (P := Tryz.prog) (w.alloc (.cells (flat (fourP i)).toArray 81)) base 22 22 81 i0 _ 4 32 Tryz.underlying22 hi hz0 hz1 hz2 rfl (by decide) v _ _ own3 ⟨w.heap.size, 0, none⟩ 4 4 (flat (fourP i)) rfl hnews (flat_one _) (by unfold maxLen; omega) (by omega) (by simp; omega)
 refine ⟨v', w', hrun, by unfold flat at h2 ⊢; rw [List.flatMap_append]; exact h2, ((Below.refl base w).alloc hb _).grown h3 (by simp; omega) (fun q e => ?_), fun q hq hne => (h3.block q (by simp; omega) (fun e => hne e.symm)).trans (Below.heap_alloc _ _ _ hq)⟩
 rcases hown.2 with ⟨e1, _⟩ | ⟨g1, cp', cu, e1, hge, hh, _⟩
 ·rw [e1] at e; simp [Value.ownBlock] at e
 ·rw [e1] at e
  simp only [Value.ownBlock, Option.some.injEq] at e
  omega
set_option maxRecDepth 100000 in
set_option maxHeartbeats 4000000 in
theorem systemS_any (w : World) : Calls Tryz.prog 73 #[] w fun e w' => (∃ v, e = .returned (.agg #[.int .i64 7, v]) ∧ w'.ownsRow w.heap.size 81 4 v 12 (flat sysS)) ∧ Below w.heap.size w w' := by
 go_enter Tryz.func73, Tryz.ntmps73
 go_wp2_with fail
 obtain ⟨W, hW⟩ : ∃ W, W = (w.alloc (.cells #[.int .i64 0, .slice none 0 0] 24)).alloc (.cells #[.int .i64 7, .slice none 0 0] 24) := ⟨_, rfl⟩
 rw [← hW]
 have HS := hidE (show W.heap.size = w.heap.size + 2 by rw [hW]; simp)
 have HB := hidE (show Below w.heap.size w W by rw [hW]; exact ((Below.refl _ _).alloc (Nat.le_refl _) _).alloc (by simp) _)
 have G0 := hidE (show W.heap[w.heap.size]? = some (.cells #[.int .i64 0, .slice none 0 0] 24 (0,0)) by rw [hW, Below.heap_alloc _ _ _ (by simp)]; exact heap_alloc_new _ _)
 have G1 := hidE (show W.heap[w.heap.size + 1]? = some (.cells #[.int .i64 7, .slice none 0 0] 24 (0,0)) by rw [hW]; exact heap_alloc_at _ _ _ (by simp))
 clear hW
 go_loopw [2] (fun i wr => ∃ (k : Nat) (ii : Int) (v : Value), k ≤ 3 ∧ i = .int .i64 ii ∧ (1 ≤ ii ∧ ii ≤ 4) ∧ Hid (ii = (k : Int) + 1) ∧ Hid (wr.heap[w.heap.size + 1]? = some (.cells #[.int .i64 7, v] 24 (0,0))) ∧ Hid (wr.ownsRow (w.heap.size + 2) 81 4 v (4 * k) (flat (sysTo k))) ∧ Hid (wr.heap[w.heap.size]? = some (.cells #[.int .i64 0, .slice none 0 0] 24 (0,0))) ∧ Hid (Below w.heap.size w wr) ∧ Hid (w.heap.size + 2 ≤ wr.heap.size)) (fun i _ => 4 - (intOf i).toNat)
 case atStart => exact ⟨0, 1, .slice none 0 0, by omega, rfl, by omega, hidE rfl, G1, hidE (World.ownsRow_nil _ _ _ _), G0, HB, hidE (by rw [HS.out]; omega)⟩
 case round =>
  obtain ⟨k, ii, v, hk, rfl, hib, HII, HBX, HOW, HG0, HBB, HSZ⟩ := hrel
  obtain ⟨wx, rfl⟩ : ∃ x : World, x = wr := ⟨wr, rfl⟩
  have c0 : wx.cell? ⟨w.heap.size + 1, 0, none⟩ = some (.int .i64 7) := c_e HBX.out rfl
  have c1 : wx.cell? ⟨w.heap.size + 1, 1, none⟩ = some v := c_e HBX.out rfl
  by_cases hlt : k < 3
  ·have hle : ii ≤ 3 := by have := HII.out; omega
   have hdec : decide (ii ≤ 3) = true := by simpa using hle
   have hw3 : IntKind.i64.wrap (ii + 3) = ii + 3 := IntWalk.i64_in _ (by omega)
   have hw1 : IntKind.i64.wrap (ii + 1) = ii + 1 := IntWalk.i64_in _ (by omega)
   obtain ⟨v', wa, hrun, own5, hb1, ho1⟩ := append_four HOW.out ii (by omega) HSZ.out
   have hbk : (v : Value).ownBlock ≠ some (w.heap.size + 1) := fun e => by have := (HOW.out.lt _ e).1; omega
   have hbk0 : (v : Value).ownBlock ≠ some w.heap.size := fun e => by have := (HOW.out.lt _ e).1; omega
   have l1 := lt_of_block HBX.out
   have l0 := lt_of_block HG0.out
   have x1 := (ho1 _ l1 hbk).trans HBX.out
   have x0 := (ho1 _ l0 hbk0).trans HG0.out
   obtain ⟨g', cp', rfl⟩ := ownsRow_succ (k := 4 * k + 3) own5
   have d1 : wa.cell? ⟨w.heap.size + 1, 1, none⟩ = some v := c_e x1 rfl
   have f1 : wa.frozen? ⟨w.heap.size + 1, 1, none⟩ = false := frozen_of_row _ _ _ _ _ x1
   have HRUN := hidE hrun
   have hsto : sysTo (k + 1) = sysTo k ++ fourP ii := by rw [HII.out]; rfl
   have N1 := hidE (show (wa.setCell ⟨w.heap.size + 1, 1, none⟩ (.slice (some ⟨g', 0, none⟩) (4 * k + 3 + 1) cp')).heap[w.heap.size + 1]? = some (.cells #[.int .i64 7, .slice (some ⟨g', 0, none⟩) (4 * k + 3 + 1) cp'] 24 (0,0)) from heap_setCell_same _ _ _ _ _ _ x1)
   have N2 := hidE (show (wa.setCell ⟨w.heap.size + 1, 1, none⟩ (.slice (some ⟨g', 0, none⟩) (4 * k + 3 + 1) cp')).ownsRow (w.heap.size + 2) 81 4 (.slice (some ⟨g', 0, none⟩) (4 * k + 3 + 1) cp') (4 * (k + 1)) (flat (sysTo (k + 1))) from by
    rw [hsto]; exact ownsRow_setCell_below own5 (by simp) _)
   have N3 := hidE (show (wa.setCell ⟨w.heap.size + 1, 1, none⟩ (.slice (some ⟨g', 0, none⟩) (4 * k + 3 + 1) cp')).heap[w.heap.size]? = some (.cells #[.int .i64 0, .slice none 0 0] 24 (0,0)) from (heap_setCell_other _ _ _ _ (by simp)).trans x0)
   have N4 := hidE (show Below w.heap.size w (wa.setCell ⟨w.heap.size + 1, 1, none⟩ (.slice (some ⟨g', 0, none⟩) (4 * k + 3 + 1) cp')) from (HBB.out.trans (hb1.mono (by omega))).setCell (by simp) _)
   have N5 := hidE (show w.heap.size + 2 ≤ (wa.setCell ⟨w.heap.size + 1, 1, none⟩ (.slice (some ⟨g', 0, none⟩) (4 * k + 3 + 1) cp')).heap.size by rw [World.size_setCell]; have := HSZ.out; have := hb1.size; omega)
   clear hrun own5 hb1 ho1 x0 x1 hsto
   go_wp2_with (at_builtin; (refine wpList_op_append rfl (s := .tmp 9) (x := .tmp 22) (t := 22) rfl rfl rfl HRUN.out ?_))
   go_roundw
   case rel => exact ⟨k + 1, ii + 1, _, by omega, rfl, by omega, hidE (by rw [HII.out]; rfl), N1, N2, N3, N4, N5⟩
   case measure => simp [intOf]; omega
  ·obtain rfl : k = 3 := by omega
   have hle : ¬ ii ≤ 3 := by have := HII.out; omega
   have hdec : decide (ii ≤ 3) = false := by simpa using hle
   obtain ⟨g', cp', rfl⟩ := ownsRow_succ (k := 11) HOW.out
   have e0 : wx.cell? ⟨w.heap.size, 0, none⟩ = some (.int .i64 0) := c_e HG0.out rfl
   have e1 : wx.cell? ⟨w.heap.size, 1, none⟩ = some (.slice none 0 0) := c_e HG0.out rfl
   have f0 : wx.frozen? ⟨w.heap.size, 0, none⟩ = false := frozen_of_row _ _ _ _ _ HG0.out
   have f1 : wx.frozen? ⟨w.heap.size, 1, none⟩ = false := frozen_of_row _ _ _ _ _ HG0.out
   go_wp2_with fail
   refine bodyPost_ret (results_cell_row Tryz.results73 _ _ _ _ _ _ _ rfl (heap_setCell_same _ _ 1 _ _ _ (heap_setCell_same _ _ 0 _ _ _ HG0.out)) Tryz.underlying24 rfl (by kernel_rfl)) rfl ⟨⟨_, rfl, ?_⟩, (HBB.out.setCell (by simp) _).setCell (by simp) _⟩
   exact (ownsRow_setCell_below (ownsRow_setCell_below HOW.out (a := ⟨w.heap.size, 0, none⟩) (by simp) _) (a := ⟨w.heap.size, 1, none⟩) (by simp) _).mono (by omega)
end Go.Proofs.YthjmkmjojlfejaaGreat
namespace Go.Proofs.YthjmkmjojlfejaaGreat
theorem isum_filter {α : Type} (p : α → Bool) (g : α → Int) : ∀ (l : List α), (∀ i ∈ l, p i = false → g i = 0) → isum (l.map g) = isum ((l.filter p).map g)
 | [], _ => rfl
 | x :: l, h => by
   have ih := isum_filter p g l fun i hi => h i (List.mem_cons_of_mem _ hi)
   have h0 := h x (List.mem_cons_self ..)
   rw [List.map_cons, List.filter_cons]
   cases hp : p x with
   | true => simp only [if_true, List.map_cons, isum, ih]
   | false => simp only [Bool.false_eq_true, if_false, isum, ih, h0 hp]; omega
theorem take_filter {α : Type} (p : α → Bool) : ∀ (l : List α) (L : Nat), (∀ x ∈ l.take L, p x = true) → (l.filter p).take L = l.take L
 | [], _, _ => by simp
 | _, 0, _ => by simp
 | x :: l, L + 1, h => by
   have h0 := h x (by simp)
   rw [List.filter_cons, if_pos h0, List.take_succ_cons, List.take_succ_cons, take_filter p l L fun y hy => h y (by simp [hy])]
theorem list_range (l : List Int) : l = (List.range l.length).map fun i => l.getD i 0 := by
 refine List.ext_getElem (by simp) fun i h1 h2 => ?_
 simp [List.getD_eq_getElem?_getD, h1]
structure Part (n : Nat) (p : Nat → Bool) (own want : List Int) : Prop where
 len : own.length = n
 zero : ∀ i, i < n → p i = false → own.getD i 0 = 0
 part : want = ((List.range n).filter p).map fun i => own.getD i 0
theorem Part.sum {n : Nat} {p : Nat → Bool} {own want : List Int} (h : Part n p own want) : isum own = isum want := by
 rw [h.part, ← isum_filter p _ _ (fun i hi hp => h.zero i (List.mem_range.1 hi) hp)]
 conv => lhs; rw [list_range own, h.len]
theorem Part.len2 {n : Nat} {p : Nat → Bool} {own want : List Int} (h : Part n p own want) : want.length = ((List.range n).filter p).length := by rw [h.part, List.length_map]
theorem Part.at {n : Nat} {p : Nat → Bool} {own want : List Int} (h : Part n p own want) {k : Nat} (hk : k < ((List.range n).filter p).length) : want.getD k 0 = own.getD ((List.range n).filter p)[k] 0 := by
 rw [h.part, List.getD_eq_getElem?_getD, List.getElem?_map, List.getElem?_eq_getElem hk]; rfl
theorem Part.whole {n : Nat} {p : Nat → Bool} {own want : List Int} (h : Part n p own want) : shWhole own = shWhole want := by unfold shWhole; rw [h.sum]
theorem Part.left {n : Nat} {p : Nat → Bool} {own want : List Int} (h : Part n p own want) (t : Int) : shLeft t own = shLeft t want := by
 have h2 : isum (shQuo t own) = isum (shQuo t want) := by
  unfold shQuo
  rw [← h.whole]
  obtain ⟨W, hW⟩ : ∃ W, W = shWhole own := ⟨_, rfl⟩
  rw [← hW, h.part]
  conv => lhs; rw [list_range own, h.len]
  rw [List.map_map, List.map_map]
  exact isum_filter p _ _ (fun i hi hp => by
   show t * own.getD i 0 / W = 0
   rw [h.zero i (List.mem_range.1 hi) hp]; simp)
 unfold shLeft; rw [h2]
theorem range_filter_lt {n : Nat} {p : Nat → Bool} : ((List.range n).filter p).Pairwise (· < ·) := List.pairwise_lt_range.filter _
theorem Part.more {n : Nat} {p : Nat → Bool} {own want : List Int} {t : Int} (h : Part n p own want) (ho : ShOk t own) :
 more t own = (more t want).map fun k => ((List.range n).filter p).getD k 0 := by
 obtain ⟨who, hw⟩ : ∃ who, who = (List.range n).filter p := ⟨_, rfl⟩
 have hlt : ∀ a b (ha : a < who.length) (hb : b < who.length), a < b → who[a] < who[b] := by
  intro a b ha hb hab
  have := List.pairwise_iff_getElem.1 (range_filter_lt (n := n) (p := p))
  rw [← hw] at this
  exact this a b ha hb hab
 have hat : ∀ k (hk : k < who.length), (shRem t own).getD who[k] 0 = (shRem t want).getD k 0 := by
  intro k hk
  have hm : who[k] ∈ (List.range n).filter p := by rw [← hw]; exact List.getElem_mem hk
  have hn : who[k] < n := List.mem_range.1 (List.mem_filter.1 hm).1
  rw [shRem_at (by rw [h.len]; exact hn), shRem_at (by rw [h.len2, ← hw]; exact hk), h.whole]
  subst hw
  rw [h.at hk]
 have hF : (remOrd (shRem t own)).filter p = (remOrd (shRem t want)).map fun k => who.getD k 0 := by
  refine List.Perm.eq_of_pairwise (le := fun a b => remLe (shRem t own) a b = true) (fun _ _ _ _ h1 h2 => remLe_anti _ h1 h2) ((remOrd_sorted _).filter _) ?_ ?_
  ·rw [List.pairwise_map]
   refine (remOrd_sorted (shRem t want)).imp_of_mem ?_
   intro a b ha hb hab
   have ha' : a < who.length := by have := remOrd_lt ha; simpa [shRem, h.len2, ← hw] using this
   have hb' : b < who.length := by have := remOrd_lt hb; simpa [shRem, h.len2, ← hw] using this
   rw [List.getD_eq_getElem?_getD, List.getElem?_eq_getElem ha', List.getD_eq_getElem?_getD, List.getElem?_eq_getElem hb', Option.getD_some, Option.getD_some]
   simp only [remLe, Bool.or_eq_true, Bool.and_eq_true, decide_eq_true_eq] at hab ⊢
   rw [hat a ha', hat b hb']
   rcases hab with q | ⟨q1, q2⟩
   ·exact .inl q
   ·refine .inr ⟨q1, ?_⟩
    rcases Nat.lt_or_eq_of_le q2 with r | r
    ·exact Nat.le_of_lt (hlt a b ha' hb' r)
    ·subst r; exact Nat.le_refl _
  ·have h1 : ((remOrd (shRem t own)).filter p).Perm who := by
    rw [hw]
    have := (remOrd_perm (shRem t own)).filter p
    rwa [show (shRem t own).length = n from by simp [shRem, h.len]] at this
   have h2 : ((remOrd (shRem t want)).map fun k => who.getD k 0).Perm who := by
    have := (remOrd_perm (shRem t want)).map fun k => who.getD k 0
    rw [show (shRem t want).length = who.length from by simp [shRem, h.len2, hw]] at this
    refine this.trans (List.Perm.of_eq ?_)
    refine List.ext_getElem (by simp) fun i g1 g2 => ?_
    simp [List.getD_eq_getElem?_getD, g2]
   exact h1.trans h2.symm
 unfold Go.Proofs.YthjmkmjojlfejaaGreat.more
 rw [h.left t, List.map_take, ← hw, ← hF, take_filter]
 intro x hx
 have hx' : x ∈ Go.Proofs.YthjmkmjojlfejaaGreat.more t own := by unfold Go.Proofs.YthjmkmjojlfejaaGreat.more; rw [h.left t]; exact hx
 have hpos := more_pos ho hx'
 have hxn : x < own.length := by have := remOrd_lt (List.mem_of_mem_take hx); simpa [shRem] using this
 cases hp : p x with
 | true => rfl
 | false =>
   rw [shRem_at hxn, h.zero x (by rw [← h.len]; exact hxn) hp] at hpos
   simp at hpos
theorem Part.shares_in {n : Nat} {p : Nat → Bool} {own want : List Int} {t : Int} (h : Part n p own want) (ho : ShOk t own) {k : Nat} (hk : k < ((List.range n).filter p).length) :
 (sharesP t own).getD ((List.range n).filter p)[k] 0 = (sharesP t want).getD k 0 := by
 have hm := List.getElem_mem hk
 have hn : ((List.range n).filter p)[k] < n := List.mem_range.1 (List.mem_filter.1 hm).1
 rw [shares_at (by rw [h.len]; exact hn), shares_at (by rw [h.len2]; exact hk), h.whole, h.at hk]
 congr 1
 have : ((List.range n).filter p)[k] ∈ Go.Proofs.YthjmkmjojlfejaaGreat.more t own ↔ k ∈ Go.Proofs.YthjmkmjojlfejaaGreat.more t want := by
  rw [h.more ho, List.mem_map]
  constructor
  ·rintro ⟨j, hj, e⟩
   have hj' : j < ((List.range n).filter p).length := by
    have := remOrd_lt (List.mem_of_mem_take hj); simpa [shRem, h.len2] using this
   rw [List.getD_eq_getElem?_getD, List.getElem?_eq_getElem hj', Option.getD_some] at e
   have hpw := List.pairwise_iff_getElem.1 (range_filter_lt (n := n) (p := p))
   have : j = k := by
    rcases Nat.lt_trichotomy j k with q | q | q
    ·have := hpw j k hj' hk q; omega
    ·exact q
    ·have := hpw k j hk hj' q; omega
   rw [← this]; exact hj
  ·intro hk2
   exact ⟨k, hk2, by rw [List.getD_eq_getElem?_getD, List.getElem?_eq_getElem hk]; rfl⟩
 simp only [this]
theorem Part.shares_out {n : Nat} {p : Nat → Bool} {own want : List Int} {t : Int} (h : Part n p own want) (ho : ShOk t own) {i : Nat} (hi : i < n) (hp : p i = false) : (sharesP t own).getD i 0 = 0 := by
 rw [shares_at (by rw [h.len]; exact hi), h.zero i hi hp]
 have : i ∉ Go.Proofs.YthjmkmjojlfejaaGreat.more t own := by
  intro hm
  have hpos := more_pos ho hm
  rw [shRem_at (by rw [h.len]; exact hi), h.zero i hi hp] at hpos
  simp at hpos
 simp [this]
theorem shares_self {parts : List Int} (h : ∀ x ∈ parts, 0 ≤ x) : sharesP (isum parts) parts = parts := by
 have h0 := isum_nonneg h
 have ho : ShOk (isum parts) parts := ⟨h0, h, by omega⟩
 refine List.ext_getElem (sharesP_len _ _) fun i h1 h2 => ?_
 have e1 : (sharesP (isum parts) parts).getD i 0 = (sharesP (isum parts) parts)[i] := by rw [List.getD_eq_getElem?_getD, List.getElem?_eq_getElem h1]; rfl
 have e2 : parts.getD i 0 = parts[i] := by rw [List.getD_eq_getElem?_getD, List.getElem?_eq_getElem h2]; rfl
 rcases Int.lt_or_eq_of_le h0 with hs | hs
 ·have hn := shares_near ho h2
  rw [e1, e2, show shWhole parts = isum parts from by unfold shWhole; omega] at hn
  obtain ⟨n1, n2⟩ := hn
  rw [Int.mul_comm (sharesP _ _)[i], ← Int.mul_sub] at n1 n2
  have a : -1 < (sharesP (isum parts) parts)[i] - parts[i] := by
   refine Int.lt_of_mul_lt_mul_left (a := isum parts) ?_ h0
   omega
  have b : (sharesP (isum parts) parts)[i] - parts[i] < 1 := by
   refine Int.lt_of_mul_lt_mul_left (a := isum parts) ?_ h0
   omega
  omega
 ·have a := shares_le ho _ (List.getElem_mem h1)
  have b := le_isum h (List.getElem_mem h2)
  have c := h _ (List.getElem_mem h2)
  omega
theorem addTo_get {j : Nat} : ∀ (ps : List (Nat × Int)) (out : List Int), (ps.map (·.1)).Nodup → (∀ q ∈ ps, q.1 < out.length) →
 ((∀ d, (j, d) ∈ ps → (ps.foldl (fun o p => addAt o p.1 p.2) out).getD j 0 = out.getD j 0 + d) ∧ ((∀ d, (j, d) ∉ ps) → (ps.foldl (fun o p => addAt o p.1 p.2) out).getD j 0 = out.getD j 0))
 | [], out, _, _ => ⟨fun d h => (by cases h), fun _ => rfl⟩
 | q :: ps, out, hn, hl => by
   rw [List.map_cons, List.nodup_cons] at hn
   have ih := addTo_get (j := j) ps (addAt out q.1 q.2) hn.2 (fun r hr => by rw [addAt_len]; exact hl r (List.mem_cons_of_mem _ hr))
   have hq := hl q (List.mem_cons_self ..)
   rw [List.foldl_cons]
   constructor
   ·intro d hd
    rcases List.mem_cons.1 hd with e | hd
    ·subst e
     have : ∀ d', (j, d') ∉ ps := fun d' hd' => hn.1 (List.mem_map.2 ⟨_, hd', rfl⟩)
     rw [ih.2 this, addAt_get]
     simp only at hq
     simp [hq]
    ·rw [ih.1 d hd, addAt_get]
     have : q.1 ≠ j := fun e => hn.1 (by rw [e]; exact List.mem_map.2 ⟨_, hd, rfl⟩)
     simp [this]
   ·intro hno
    rw [ih.2 (fun d hd => hno d (List.mem_cons_of_mem _ hd)), addAt_get]
    have : q.1 ≠ j := fun e => hno q.2 (by subst e; exact List.mem_cons_self ..)
    simp [this]
theorem adds_len : ∀ (ps : List (Nat × Int)) (out : List Int), (ps.foldl (fun o p => addAt o p.1 p.2) out).length = out.length
 | [], _ => rfl
 | q :: ps, out => by rw [List.foldl_cons, adds_len ps, addAt_len]
def ofP (claims ranks : List Int) (r : Int) : List Int := (List.range claims.length).map fun i => if ranks.getD i 0 = r then claims.getD i 0 else 0
def out2P (a b : List Int) : List Int := (List.range a.length).map fun i => a.getD i 0 + b.getD i 0
def ref5Go (claims ranks : List Int) : List Int → Int → Rk → List Int × Int
 | [], last, s => if s.left = 0 then (s.out, 0) else if isum (ofP claims ranks last) = 0 then ([], 51) else (out2P s.out (sharesP s.left (ofP claims ranks last)), 0)
 | r :: l, _, s => if s.left < isum (ofP claims ranks r) then (out2P s.out (sharesP s.left (ofP claims ranks r)), 0) else ref5Go claims ranks l r ⟨s.left - isum (ofP claims ranks r), out2P s.out (ofP claims ranks r)⟩
def ranked5E (found : Int) (claims ranks : List Int) : List Int × Int :=
 if checkSharesP found claims ≠ 0 then ([], checkSharesP found claims)
 else if ranks.length ≠ claims.length ∨ (ranks.all fun v => inR v 0 1000000) = false then ([], 1)
 else ref5Go claims ranks (orderP ranks) (-1) (rankStart found claims)
theorem part_of {claims ranks : List Int} (hl : ranks.length = claims.length) (r : Int) : Part claims.length (fun i => ranks.getD i 0 == r) (ofP claims ranks r) (wantP claims ranks r) := by
 have hg : ∀ i, i < claims.length → (ofP claims ranks r).getD i 0 = if ranks.getD i 0 = r then claims.getD i 0 else 0 := by
  intro i hi
  simp [ofP, List.getD_eq_getElem?_getD, hi]
 refine ⟨by simp [ofP], fun i hi hp => ?_, ?_⟩
 ·rw [hg i hi, if_neg (by simpa using hp)]
 ·unfold wantP wantTo whoTo
  rw [hl]
  refine List.map_congr_left fun i hi => ?_
  have hm := List.mem_filter.1 hi
  rw [hg i (List.mem_range.1 hm.1), if_pos (by simpa using hm.2)]
theorem addTo_eq {claims ranks : List Int} (hl : ranks.length = claims.length) {r t : Int} {out : List Int} (hout : out.length = claims.length) (ho : ShOk t (ofP claims ranks r)) :
 addTo out (whoP ranks r) (sharesP t (wantP claims ranks r)) (whoP ranks r).length = out2P out (sharesP t (ofP claims ranks r)) := by
 have P := part_of hl r
 have hw : whoP ranks r = (List.range claims.length).filter fun i => ranks.getD i 0 == r := by unfold whoP whoTo; rw [hl]
 have hsl : (sharesP t (wantP claims ranks r)).length = (whoP ranks r).length := by rw [sharesP_len, P.len2, hw]
 unfold addTo
 rw [List.take_of_length_le (by rw [List.length_zip]; omega)]
 refine List.ext_getElem (by rw [adds_len]; simp [out2P]) fun j h1 h2 => ?_
 rw [adds_len] at h1
 have e1 : (((whoP ranks r).zip (sharesP t (wantP claims ranks r))).foldl (fun o p => addAt o p.1 p.2) out)[j]'(by rw [adds_len]; exact h1) = (((whoP ranks r).zip (sharesP t (wantP claims ranks r))).foldl (fun o p => addAt o p.1 p.2) out).getD j 0 := by
  rw [List.getD_eq_getElem?_getD, List.getElem?_eq_getElem (by rw [adds_len]; exact h1)]; rfl
 rw [e1]
 have e2 : (out2P out (sharesP t (ofP claims ranks r)))[j] = out.getD j 0 + (sharesP t (ofP claims ranks r)).getD j 0 := by simp [out2P]
 rw [e2]
 have hA := addTo_get (j := j) ((whoP ranks r).zip (sharesP t (wantP claims ranks r))) out
  (by rw [List.map_fst_zip (by omega)]; unfold whoP whoTo; exact List.nodup_range.filter _)
  (fun q hq => by have := whoTo_lt (List.of_mem_zip hq).1; omega)
 cases hp : ranks.getD j 0 == r with
 | false =>
   rw [hA.2 (fun d hd => ?_), P.shares_out ho (by omega) hp]
   ·omega
   ·have := (List.mem_filter.1 (List.of_mem_zip hd).1).2
    rw [hp] at this
    cases this
 | true =>
   have hjm : j ∈ whoP ranks r := by rw [hw]; exact List.mem_filter.2 ⟨List.mem_range.2 (by omega), hp⟩
   obtain ⟨k, hk, e⟩ := List.getElem_of_mem hjm
   have hd : (j, (sharesP t (wantP claims ranks r)).getD k 0) ∈ (whoP ranks r).zip (sharesP t (wantP claims ranks r)) := by
    refine List.mem_iff_getElem.2 ⟨k, by rw [List.length_zip]; omega, ?_⟩
    rw [List.getElem_zip]
    congr 1
    rw [List.getD_eq_getElem?_getD, List.getElem?_eq_getElem (by omega)]; rfl
   rw [hA.1 _ hd]
   congr 1
   have hk' : k < ((List.range claims.length).filter fun i => ranks.getD i 0 == r).length := by rw [← hw]; exact hk
   rw [← P.shares_in ho hk']
   congr 1
   rw [← e]
   simp only [hw]
theorem mem_orderP {ranks : List Int} {x : Int} : x ∈ orderP ranks ↔ x ∈ ranks := by unfold orderP; rw [(compact_asc (sortP_le _)).2, mem_sortP]
theorem ofP_nonneg {claims ranks : List Int} (hc : ∀ x ∈ claims, 0 ≤ x) (r : Int) : ∀ x ∈ ofP claims ranks r, 0 ≤ x := by
 intro x hx
 obtain ⟨i, _, rfl⟩ := List.mem_map.1 hx
 split
 ·exact getD_nonneg hc i
 ·exact Int.le_refl _
theorem give_ref {claims ranks : List Int} (hl : ranks.length = claims.length) (hc : ∀ x ∈ claims, 0 ≤ x) : ∀ (l : List Int) (D0 : List Int) (s : Rk), D0 ++ l = orderP ranks → 0 ≤ s.left → s.out.length = claims.length → (0 < s.left → orderP ranks ≠ []) →
 lastR claims ranks (giveGo claims ranks l s) = ref5Go claims ranks l (if D0 = [] then -1 else D0.getD (D0.length - 1) 0) s := by
 intro l
 induction l with
 | nil =>
   intro D0 s hD h0 ho hne
   rw [List.append_nil] at hD
   unfold giveGo ref5Go lastR
   by_cases hz : s.left = 0
   ·rw [if_neg (by omega), if_pos hz]
   ·have hpos : 0 < s.left := by omega
    have hne' : D0 ≠ [] := by rw [hD]; exact hne hpos
    rw [if_pos hpos, if_neg hz, if_neg hne', hD]
    obtain ⟨r, hr⟩ : ∃ r, r = (orderP ranks).getD ((orderP ranks).length - 1) 0 := ⟨_, rfl⟩
    rw [← hr]
    have hsum := (part_of hl r).sum
    have hm : muchR claims ranks r false s.left = s.left := rfl
    by_cases hs : isum (ofP claims ranks r) = 0
    ·have hg : giveR claims ranks r false s = (false, s) := by unfold giveR; rw [hm, ← hsum, if_pos ⟨hpos, hs⟩]
     rw [hg, if_pos hs]; simp
    ·have hg : giveR claims ranks r false s = (true, ⟨s.left - s.left, addTo s.out (whoP ranks r) (sharesP s.left (wantP claims ranks r)) (whoP ranks r).length⟩) := by unfold giveR; rw [hm, ← hsum, if_neg (fun h => hs h.2)]; rfl
     have hn := isum_nonneg (ofP_nonneg (ranks := ranks) hc r)
     rw [hg, if_neg hs]
     simp only [if_true]
     rw [addTo_eq hl ho ⟨h0, ofP_nonneg hc r, .inl (by omega)⟩]
 | cons r l ih =>
   intro D0 s hD h0 ho hne
   have P := part_of hl r
   have hsum := P.sum
   have hn := isum_nonneg (ofP_nonneg (ranks := ranks) hc r)
   unfold giveGo ref5Go
   have hm : muchR claims ranks r true s.left = min s.left (isum (ofP claims ranks r)) := by unfold muchR; rw [if_pos rfl, hsum]
   have hnot : ¬ (0 < muchR claims ranks r true s.left ∧ isum (wantP claims ranks r) = 0) := by rw [hm, ← hsum]; omega
   have hg : giveR claims ranks r true s = (!true || muchR claims ranks r true s.left == isum (wantP claims ranks r), ⟨s.left - muchR claims ranks r true s.left, addTo s.out (whoP ranks r) (sharesP (muchR claims ranks r true s.left) (wantP claims ranks r)) (whoP ranks r).length⟩) := by unfold giveR; rw [if_neg hnot]
   rw [hg]
   have hok : ShOk (muchR claims ranks r true s.left) (ofP claims ranks r) := ⟨by rw [hm]; omega, ofP_nonneg hc r, by rw [hm]; omega⟩
   rw [addTo_eq hl ho hok, hm, ← hsum]
   by_cases hlt : s.left < isum (ofP claims ranks r)
   ·rw [if_pos hlt]
    have e1 : min s.left (isum (ofP claims ranks r)) = s.left := by omega
    simp only [e1, Bool.not_true, Bool.false_or]
    rw [if_neg (by simp; omega)]
    unfold lastR
    rw [if_neg (by simp)]
   ·rw [if_neg hlt]
    have e1 : min s.left (isum (ofP claims ranks r)) = isum (ofP claims ranks r) := by omega
    simp only [e1, Bool.not_true, Bool.false_or, beq_self_eq_true, if_true]
    rw [shares_self (ofP_nonneg hc r)]
    have := ih (D0 ++ [r]) ⟨s.left - isum (ofP claims ranks r), out2P s.out (ofP claims ranks r)⟩ (by rw [List.append_assoc]; exact hD) (by simp only; omega) (by simp [out2P, ho]) (fun _ e => by rw [e] at hD; simp at hD)
    rw [this]
    simp
theorem ranked_ref (found : Int) (claims ranks : List Int) : rankedE found claims ranks = ranked5E found claims ranks := by
 unfold rankedE ranked5E
 split
 ·rfl
 ·rename_i h1
  split
  ·rfl
  ·rename_i h2
   simp only [ne_eq, Decidable.not_not] at h1
   unfold checkSharesP at h1
   split at h1
   ·cases h1
   ·split at h1
    ·cases h1
    ·rename_i hin
     split at h1
     ·cases h1
     ·rename_i hz
      have hin2 : inR found 0 100000000000 = true ∧ (claims.all fun v => inR v 0 1000000) = true := by
       constructor
       ·cases h : inR found 0 100000000000 with
        | true => rfl
        | false => exact absurd (.inl h) hin
       ·cases h : (claims.all fun v => inR v 0 1000000) with
        | true => rfl
        | false => exact absurd (.inr h) hin
      have hl : ranks.length = claims.length := by
       apply Classical.byContradiction; intro h; exact h2 (.inl h)
      have hc : ∀ x ∈ claims, 0 ≤ x := by
       intro x hx
       have := List.all_eq_true.1 hin2.2 x hx
       unfold inR at this
       simp at this
       omega
      have hf : 0 ≤ found := by have := hin2.1; unfold inR at this; simp at this; omega
      have := give_ref hl hc (orderP ranks) [] (rankStart found claims) rfl hf (by simp [rankStart]) (fun hp e => by
       have hz2 : isum claims ≠ 0 := fun e0 => hz ⟨e0, by simp only [rankStart] at hp; omega⟩
       cases hcl : claims with
       | nil => rw [hcl] at hz2; exact hz2 rfl
       | cons x l =>
         have : ranks.getD 0 0 ∈ orderP ranks := mem_orderP.2 (by
          rw [List.getD_eq_getElem?_getD, List.getElem?_eq_getElem (by rw [hl, hcl]; simp)]
          exact List.getElem_mem _)
         rw [e] at this; cases this)
      simpa [rankEnd] using this
end Go.Proofs.YthjmkmjojlfejaaGreat
namespace Go.Proofs.YthjmkmjojlfejaaGreat
open Go Go.RowKit Go.Shelf
theorem addTo_succ {out : List Int} {who : List Nat} {l : List Int} {k : Nat} (h1 : k < who.length) (h2 : k < l.length) : addTo out who l (k + 1) = addAt (addTo out who l k) who[k] l[k] := by
 unfold addTo
 rw [List.take_succ_eq_append_getElem (by rw [List.length_zip]; omega), List.foldl_append]
 simp [List.getElem_zip]
theorem addTo_len (out : List Int) (who : List Nat) (l : List Int) (k : Nat) : (addTo out who l k).length = out.length := by unfold addTo; rw [adds_len]
theorem addTo_bd {out : List Int} {who : List Nat} {l : List Int} {B c : Int} (hc : 0 ≤ c) (ho : ∀ j, 0 ≤ out.getD j 0 ∧ out.getD j 0 ≤ B) (hl : ∀ x ∈ l, 0 ≤ x ∧ x ≤ c) : ∀ k : Nat, ∀ j, 0 ≤ (addTo out who l k).getD j 0 ∧ (addTo out who l k).getD j 0 ≤ B + k * c
 | 0, j => by have := ho j; simp [addTo]; simpa [List.getD_eq_getElem?_getD] using this
 | k + 1, j => by
   have ih := addTo_bd (who := who) hc ho hl k j
   have e : ((k + 1 : Nat) : Int) * c = k * c + c := by rw [Int.natCast_add, Int.add_mul]; simp
   rw [e]
   by_cases h1 : k < who.length
   ·by_cases h2 : k < l.length
    ·rw [addTo_succ h1 h2, addAt_get]
     have := hl _ (List.getElem_mem h2)
     split <;> omega
    ·have : addTo out who l (k + 1) = addTo out who l k := by unfold addTo; rw [List.take_of_length_le (by rw [List.length_zip]; omega), List.take_of_length_le (by rw [List.length_zip]; omega)]
     rw [this]; omega
   ·have : addTo out who l (k + 1) = addTo out who l k := by unfold addTo; rw [List.take_of_length_le (by rw [List.length_zip]; omega), List.take_of_length_le (by rw [List.length_zip]; omega)]
    rw [this]; omega
def whoI (ranks : List Int) (r : Int) (k : Nat) : List Int := (whoTo ranks r k).map fun i : Nat => (i : Int)
theorem whoI_succ (ranks : List Int) (r : Int) (k : Nat) : whoI ranks r (k + 1) = whoI ranks r k ++ (if ranks.getD k 0 = r then [(k : Int)] else []) := by
 unfold whoI; rw [whoTo_succ, List.map_append]; by_cases h : ranks.getD k 0 = r
 ·rw [if_pos h, if_pos (beq_iff_eq.2 h)]; rfl
 ·rw [if_neg h, if_neg (fun e => h (beq_iff_eq.1 e))]; rfl
theorem wantTo_succ' (claims ranks : List Int) (r : Int) (k : Nat) : wantTo claims ranks r (k + 1) = wantTo claims ranks r k ++ (if ranks.getD k 0 = r then [claims.getD k 0] else []) := by
 rw [wantTo_succ]; by_cases h : ranks.getD k 0 = r <;> simp
theorem whoI_len (ranks : List Int) (r : Int) (k : Nat) : (whoI ranks r k).length ≤ k := by unfold whoI; rw [List.length_map]; exact whoTo_len _ _ _
structure GvAt (w : World) (cb rb lb ob go cC cR cO : Nat) (aC aR : Option Addr) (claims ranks : List Int) (s : Rk) : Prop where
 c : w.heap[cb]? = some (.cells #[.slice aC claims.length cC] 25 (0,0))
 r : w.heap[rb]? = some (.cells #[.slice aR ranks.length cR] 25 (0,0))
 l : w.heap[lb]? = some (.cells #[.int .i64 s.left] 3 (0,0))
 o : w.heap[ob]? = some (.cells #[.slice (some ⟨go, 0, none⟩) s.out.length cO] 25 (0,0))
 g : w.heap[go]? = some (.cells (rowA s.out) 3 (0,0))
 C : IntsAt w aC claims
 R : IntsAt w aR ranks
 ne : lb ≠ go
 ec : cb ≠ lb ∧ cb ≠ go
 er : rb ≠ lb ∧ rb ≠ go
 eo : ob ≠ lb ∧ ob ≠ go
structure GvOk (claims ranks : List Int) (s : Rk) : Prop where
 len : ranks.length = claims.length
 le : claims.length ≤ 50
 cl : ∀ x ∈ claims, 0 ≤ x ∧ x ≤ 1000000
 lf : 0 ≤ s.left ∧ s.left ≤ 100000000000
 ou : ∀ j, 0 ≤ s.out.getD j 0 ∧ s.out.getD j 0 ≤ 10000000000000000
 ol : s.out.length = claims.length
set_option maxRecDepth 100000 in
set_option maxHeartbeats 16000000 in
theorem give_any (w : World) (cb rb lb ob go cC cR cO : Nat) (aC aR : Option Addr) (claims ranks : List Int) (r : Int) (most : Bool) (s : Rk) (h : GvAt w cb rb lb ob go cC cR cO aC aR claims ranks s) (hok : GvOk claims ranks s) :
 Calls Tryz.prog 87 #[.int .i64 r, .bool most, .pointer (some ⟨cb, 0, none⟩), .pointer (some ⟨rb, 0, none⟩), .pointer (some ⟨lb, 0, none⟩), .pointer (some ⟨ob, 0, none⟩)] w fun e w' => e = .returned (.bool (giveR claims ranks r most s).1) ∧
  w'.heap[lb]? = some (.cells #[.int .i64 (giveR claims ranks r most s).2.left] 3 (0,0)) ∧ w'.heap[go]? = some (.cells (rowA (giveR claims ranks r most s).2.out) 3 (0,0)) ∧ w.heap.size ≤ w'.heap.size ∧ (∀ q : Nat, q < w.heap.size → q ≠ lb → q ≠ go → w'.heap[q]? = w.heap[q]?) ∧ Below 0 w w' := by
 obtain ⟨Q, hQ⟩ : ∃ Q, giveR claims ranks r most s = Q := ⟨_, rfl⟩
 rw [hQ]
 have HQ := hidE hQ
 have H := hidE h
 have HK := hidE hok
 obtain ⟨n, hn⟩ : ∃ n, claims.length = n := ⟨_, rfl⟩
 have hn50 : n ≤ 50 := by have := hok.le; omega
 have HN := hidE hn
 have k0 : w.cell? ⟨cb, 0, none⟩ = some (.slice aC n cC) := by rw [cell_of_one h.c, hn]
 have k1 : w.cell? ⟨rb, 0, none⟩ = some (.slice aR n cR) := by rw [cell_of_one h.r, hok.len, hn]
 obtain ⟨lf, hlf⟩ : ∃ z, s.left = z := ⟨_, rfl⟩
 have HLF := hidE hlf
 have hlb := hok.lf
 have k2 : w.cell? ⟨lb, 0, none⟩ = some (.int .i64 lf) := by rw [cell_of_one h.l, hlf]
 have lcb : cb < w.heap.size := lt_of_block h.c
 have lrb : rb < w.heap.size := lt_of_block h.r
 have llb : lb < w.heap.size := lt_of_block h.l
 have lob : ob < w.heap.size := lt_of_block h.o
 have lgo : go < w.heap.size := lt_of_block h.g
 rw [hlf] at hlb
 clear h hok hQ hn hlf
 go_enter Tryz.func87, Tryz.ntmps87
 go_wp2_with fail
 go_loopw [9, 10, 18] (fun u v i wr => ∃ k : Nat, k ≤ n ∧ i = .int .i64 k ∧ Hid (wr.ownsRow w.heap.size 3 1 u (whoI ranks r k).length (intsV (whoI ranks r k))) ∧ Hid (wr.ownsRow w.heap.size 3 1 v (wantTo claims ranks r k).length (intsV (wantTo claims ranks r k))) ∧ Hid (Apart u v) ∧ Hid (Below w.heap.size w wr)) (fun _ _ i _ => n - (intOf i).toNat)
 case atStart => exact ⟨0, Nat.zero_le _, rfl, hidE (World.ownsRow_nil _ _ _ _), hidE (World.ownsRow_nil _ _ _ _), hidE (fun q e => by simp [Value.ownBlock] at e), hidE (Below.refl _ _)⟩
 case round =>
  obtain ⟨k, hk, rfl, HO0, HO1, HAP, HBB⟩ := hrel
  obtain ⟨wx, rfl⟩ : ∃ x : World, x = wr := ⟨wr, rfl⟩
  have k1' : wx.cell? ⟨rb, 0, none⟩ = some (.slice aR n cR) := (HBB.out.cell (p := ⟨rb, 0, none⟩) lrb).trans k1
  by_cases hlt : k < n
  ·have hkC : k < claims.length := by rw [HN.out]; exact hlt
   have hkR : k < ranks.length := by rw [HK.out.len, HN.out]; exact hlt
   obtain ⟨b, off, rfl, hbl, hc⟩ := H.out.C.at hkC
   rw [← HBB.out.cell hbl] at hc
   obtain ⟨bR, offR, rfl, hblR, hcR⟩ := H.out.R.at hkR
   rw [← HBB.out.cell hblR] at hcR
   have HW1 := hidE (whoI_succ ranks r k)
   have HW2 := hidE (wantTo_succ' claims ranks r k)
   have e1 : ranks.getD k 0 = ranks[k]'hkR := getD_get _ _ hkR
   have e2 : claims.getD k 0 = claims[k]'hkC := getD_get _ _ hkC
   rw [e1] at HW1 HW2
   rw [e2] at HW2
   obtain ⟨q, hq⟩ : ∃ q, claims[k]'hkC = q := ⟨_, rfl⟩
   obtain ⟨x, hx⟩ : ∃ x, ranks[k]'hkR = x := ⟨_, rfl⟩
   rw [hq] at hc HW2
   rw [hx] at hcR HW1 HW2
   have hwl := whoI_len ranks r k
   have hwl2 : (wantTo claims ranks r k).length ≤ k := by rw [wantTo_len]; exact whoTo_len _ _ _
   clear hq hx e1 e2
   by_cases hr : x = r
   ·have hd : (x == r) = true := by simpa using hr
    have HW1 := hidE (by have := HW1.out; rw [if_pos hr] at this; exact this)
    have HW2 := hidE (by have := HW2.out; rw [if_pos hr] at this; exact this)
    obtain ⟨v5, wa, hrun1, own5, hb1, hk1⟩ := append_int HO0.out (k : Int) (by omega) HBB.out.size
    obtain ⟨own6, ap1⟩ := hk1 _ _ HO1.out HAP.out.symm
    have hsz1 : w.heap.size ≤ wa.heap.size := Nat.le_trans HBB.out.size hb1.size
    obtain ⟨v6, wb, hrun2, own7, hb2, hk2⟩ := append_int own6 q (by omega) hsz1
    obtain ⟨own8, ap2⟩ := hk2 _ _ own5 ap1.symm
    have HRUN1 := hidE hrun1
    have HRUN2 := hidE hrun2
    have HN0 := hidE own8
    have HN1 := hidE own7
    have HN2 := hidE ap2
    have HN3 := hidE (HBB.out.trans (hb1.trans hb2))
    clear hrun1 hrun2 own5 own6 own7 own8 ap1 ap2 hk1 hk2 hb1 hb2
    go_wp2_with (at_builtin; first | (refine wpList_op_append rfl (s := .tmp 29) (x := .tmp 31) (t := 25) rfl rfl rfl HRUN1.out ?_) | (refine wpList_op_append rfl (s := .tmp 33) (x := .tmp 35) (t := 25) rfl rfl rfl HRUN2.out ?_))
    go_roundw
    case rel => exact ⟨k + 1, by omega, by go_num, hidE (by rw [HW1.out]; exact HN0.out), hidE (by rw [HW2.out]; exact HN1.out), HN2, HN3⟩
    case measure => simp [intOf]; omega
   ·have hd : (x == r) = false := by simpa using hr
    have HW1 := hidE (by have := HW1.out; rw [if_neg hr, List.append_nil] at this; exact this)
    have HW2 := hidE (by have := HW2.out; rw [if_neg hr, List.append_nil] at this; exact this)
    go_wp2_with fail
    go_roundw
    case rel => exact ⟨k + 1, by omega, by go_num, hidE (by rw [HW1.out]; exact HO0.out), hidE (by rw [HW2.out]; exact HO1.out), HAP, HBB⟩
    case measure => simp [intOf]; omega
  ·obtain rfl : k = n := by omega
   have hrl : ranks.length = k := by rw [HK.out.len, HN.out]
   have k2' : wx.cell? ⟨lb, 0, none⟩ = some (.int .i64 lf) := (HBB.out.cell (p := ⟨lb, 0, none⟩) llb).trans k2
   obtain ⟨WL, hWL⟩ : ∃ l, wantTo claims ranks r k = l := ⟨_, rfl⟩
   obtain ⟨IL, hIL⟩ : ∃ l, whoI ranks r k = l := ⟨_, rfl⟩
   have hlen : IL.length = WL.length := by rw [← hIL, ← hWL]; unfold whoI; rw [List.length_map, wantTo_len]
   have hm50 : WL.length ≤ 50 := by have := whoI_len ranks r k; rw [hIL] at this; omega
   have hwp : wantP claims ranks r = WL := by unfold wantP; rw [hrl]; exact hWL
   have hwb : ∀ x ∈ WL, 0 ≤ x ∧ x ≤ 1000000 := by
    intro x hx
    rw [← hWL] at hx
    obtain ⟨i, _, rfl⟩ := List.mem_map.1 hx
    by_cases hi : i < claims.length
    ·rw [getD_get _ _ hi]; exact HK.out.cl _ (List.getElem_mem hi)
    ·rw [List.getD_eq_getElem?_getD, List.getElem?_eq_none (by omega)]; decide
   have hsb : 0 ≤ isum WL ∧ isum WL ≤ 50000000 := by
    have := isum_take_bd (by decide) hwb WL.length
    rw [List.take_length] at this
    omega
   rw [hIL] at HO0
   rw [hWL] at HO1
   obtain ⟨o9, c9, rfl, hi9, _⟩ := intsAt_of_owns HO0.out
   obtain ⟨o10, c10, rfl, hi10, _⟩ := intsAt_of_owns HO1.out
   obtain ⟨m, hm⟩ : ∃ m, WL.length = m := ⟨_, rfl⟩
   have HSM := hidE (fun W (hW : IntsAt W o10 WL) => sum_any W o10 c10 WL (by omega) hW (fun j hj => by
    have := isum_take_bd (by decide) hwb j
    omega))
   obtain ⟨S, hS⟩ : ∃ z, isum WL = z := ⟨_, rfl⟩
   rw [hS] at HSM hsb
   rw [hm] at HSM hm50 hlen
   rw [hlen, hm]
   have HI9 := hidE hi9
   have HI10 := hidE hi10
   have HWB := hidE hwb
   have HS := hidE hS
   have HM := hidE hm
   have HWP := hidE hwp
   have HIL := hidE hIL
   have HLE := hidE hlen
   have hQ := HQ.out
   unfold giveR muchR at hQ
   rw [hwp, hS, HLF.out] at hQ
   obtain ⟨M, hM⟩ : ∃ z, (if most = true then min lf S else lf) = z := ⟨_, rfl⟩
   rw [hM] at hQ
   have HQ2 := hidE hQ
   have hMb : 0 ≤ M ∧ M ≤ 100000000000 := by rw [← hM]; split <;> omega
   have HMM := hidE hM
   clear HQ hQ hrl hWL hIL hwp hwb hi9 hi10 hm hlen hS hM hk hlt
   go_upto_if 39 with (fail)
   go_cut [13] (fun s13 wc => s13 = .int .i64 M ∧ ∃ nd, wc = wx.drewN nd)
   case first =>
    cases most with
    | false =>
      obtain rfl : lf = M := by have := HMM.out; rw [if_neg (by simp)] at this; exact this
      go_wp2_with fail
      go_meet
      case rel => exact ⟨rfl, 0, rfl⟩
    | true =>
      have hmn : min lf S = M := by have := HMM.out; rw [if_pos rfl] at this; exact this
      go_upto_region 10 with fail
      have HID := hidE (fun (nd : Nat) => show IntsAt (wx.drewN nd) o10 WL from HI10.out)
      go_quiet ((go_at_call 88; refine Calls.quiet_of_same (HSM.out _ (HID.out _))))
      go_wp2_with fail
      go_meet
      case rel => exact ⟨rfl, _, rfl⟩
   case rest =>
    obtain ⟨rfl, nd, hwc⟩ := hcut
    have HBD := hidE (show Below w.heap.size w wc by rw [hwc]; exact HBB.out.trans ⟨rfl, rfl, rfl, Nat.le_refl _, fun _ _ => rfl⟩)
    have HO9 := hidE (show wc.ownsRow w.heap.size 3 1 (.slice o9 m c9) m (intsV IL) by rw [hwc]; exact (show (wx.drewN nd).ownsRow w.heap.size 3 1 (.slice o9 m c9) m (intsV IL) by have := HO0.out; rw [HLE.out] at this; exact this))
    have HO10 := hidE (show wc.ownsRow w.heap.size 3 1 (.slice o10 m c10) m (intsV WL) by rw [hwc]; exact (show (wx.drewN nd).ownsRow w.heap.size 3 1 (.slice o10 m c10) m (intsV WL) by have := HO1.out; rw [HM.out] at this; exact this))
    have HI9c := hidE (show IntsAt wc o9 IL by rw [hwc]; exact HI9.out)
    have HI10c := hidE (show IntsAt wc o10 WL by rw [hwc]; exact HI10.out)
    have kl : wc.cell? ⟨lb, 0, none⟩ = some (.int .i64 lf) := by rw [hwc]; exact k2'
    clear HO0 HO1 HI9 HI10 HAP k1' k2' hwc HBB
    go_upto_region 11 with fail
    go_cut [50] (fun s50 wd => s50 = .bool (decide (0 < M ∧ S = 0)) ∧ wd = wc)
    case first =>
     by_cases hMz : 0 < M
     ·have hd : decide (M > 0) = true := by simpa using hMz
      have hd' : decide (0 < M) = true := by simpa using hMz
      go_wp2_with fail
      refine (HSM.out _ HI10c.out).mono ?_
      rintro e w1 ⟨rfl, rfl⟩
      by_cases hSz : S = 0
      ·have he : (S == 0) = true := by simpa using hSz
       have hf : decide (0 < M ∧ S = 0) = true := by simp [hMz, hSz]
       go_wp2_with fail
       go_meet
       case rel => exact ⟨by rw [hf], rfl⟩
      ·have he : (S == 0) = false := by simpa using hSz
       have hf : decide (0 < M ∧ S = 0) = false := by simp [hSz]
       go_wp2_with fail
       go_meet
       case rel => exact ⟨by rw [hf], rfl⟩
     ·have hd : decide (M > 0) = false := by simpa using hMz
      have hd' : decide (0 < M) = false := by simpa using hMz
      have hf : decide (0 < M ∧ S = 0) = false := by simp [hMz]
      go_wp2_with fail
      go_meet
      case rel => exact ⟨by rw [hf], rfl⟩
    case rest =>
     obtain ⟨hs50, rfl⟩ := hcut
     by_cases hP : 0 < M ∧ S = 0
     ·rw [decide_eq_true hP] at hs50
      obtain rfl := hs50
      have hQ := HQ2.out
      rw [if_pos hP] at hQ
      subst hQ
      go_wp2_with fail
      go_ret
      exact ⟨rfl, (HBD.out.block lb llb).trans (by rw [H.out.l]), (HBD.out.block go lgo).trans H.out.g, HBD.out.size, fun q hq _ _ => HBD.out.block q hq, HBD.out.mono (Nat.zero_le _)⟩
     ·rw [decide_eq_false hP] at hs50
      obtain rfl := hs50
      have hQ := HQ2.out
      rw [if_neg hP] at hQ
      have HQ3 := hidE hQ
      have hok : ShOk M WL := ⟨hMb.1, fun x hx => (HWB.out x hx).1, by rw [HS.out]; by_cases h : 0 < S; exact .inl h; refine .inr ?_; apply Classical.byContradiction; intro h2; exact hP ⟨by omega, by omega⟩⟩
      have HSH := hidE (by have := shares_any wc M o10 c10 WL (by have := HM.out; omega) HI10c.out hMb (HWB.out) hok; rw [HM.out] at this; exact this)
      have hsl := shares_le hok
      have hln := sharesP_len M WL
      obtain ⟨L, hL⟩ : ∃ l, sharesP M WL = l := ⟨_, rfl⟩
      rw [hL] at HSH hsl hln HQ3
      have HSL := hidE hsl
      have HLN := hidE (hln.trans HM.out)
      clear hsl hln hL hok hQ HQ2 hP
      go_wp2_with fail
      refine HSH.out.mono ?_
      rintro e w2 ⟨rfl, hrow, hb2⟩
      have hs2 : wc.heap.size < w2.heap.size := lt_of_block hrow
      obtain ⟨cO', hcO⟩ : ∃ z, z = cO := ⟨_, rfl⟩
      have B2 := hidE (HBD.out.trans (hb2.mono HBD.out.size))
      have HROW := hidE hrow
      have ko : w2.cell? ⟨ob, 0, none⟩ = some (.slice (some ⟨go, 0, none⟩) k cO) := by
       rw [B2.out.cell (p := ⟨ob, 0, none⟩) lob, cell_of_one H.out.o, HK.out.ol, HN.out]
      have HGO := hidE ((B2.out.block go lgo).trans H.out.g)
      have HI9d := hidE (HI9c.out.below hb2 (Nat.le_refl _))
      have HI10d := hidE (HI10c.out.below hb2 (Nat.le_refl _))
      have HWN := hidE (show whoI ranks r k = (whoP ranks r).map (fun i : Nat => (i : Int)) by unfold whoI whoP; rw [HK.out.len, HN.out])
      have hwlen : (whoP ranks r).length = m := by
       have := congrArg List.length HWN.out
       rw [HIL.out, HLE.out, List.length_map] at this; exact this.symm
      have HWL := hidE hwlen
      have HAB := hidE (fun (kk j : Nat) => addTo_bd (who := whoP ranks r) (l := L) (B := 10000000000000000) (c := 100000000000) (by decide) HK.out.ou (fun x hx => by have := HSL.out x hx; omega) kk j)
      rw [hwlen] at HQ3
      clear hrow hb2 hwlen kl HI9c HI10c hcO
      go_wp2_with fail
      go_loopw [55] (fun i wr => ∃ k2 : Nat, k2 ≤ m ∧ i = .int .i64 k2 ∧ Hid (wr.heap[go]? = some (.cells (rowA (addTo s.out (whoP ranks r) L k2)) 3 (0,0))) ∧ Hid (wr.heap.size = w2.heap.size) ∧ Hid (∀ q : Nat, q ≠ go → wr.heap[q]? = w2.heap[q]?) ∧ Hid (Below go w2 wr)) (fun i _ => m - (intOf i).toNat)
      case atStart => exact ⟨0, Nat.zero_le _, rfl, hidE (by rw [HGO.out]; simp [addTo]), hidE rfl, hidE (fun _ _ => rfl), hidE (Below.refl _ _)⟩
      case round =>
       obtain ⟨k2, hk2, rfl, HG2, HSZ, HOT, HBL⟩ := hrel
       obtain ⟨wr2, rfl⟩ : ∃ x : World, x = wr := ⟨wr, rfl⟩
       have kq : ∀ p : Addr, p.block ≠ go → wr2.cell? p = w2.cell? p := fun p hp => World.cell?_of_block (w := w2) (HOT.out p.block hp)
       have ko2 : wr2.cell? ⟨ob, 0, none⟩ = some (.slice (some ⟨go, 0, none⟩) k cO) := (kq ⟨ob, 0, none⟩ H.out.eo.2).trans ko
       by_cases hlt2 : k2 < m
       ·have hkI : k2 < IL.length := by rw [HLE.out]; exact hlt2
        have hkL : k2 < L.length := by rw [HLN.out]; exact hlt2
        have hkW : k2 < (whoP ranks r).length := by rw [HWL.out]; exact hlt2
        obtain ⟨b9, f9, rfl, hbl9, hc9⟩ := HI9d.out.at hkI
        have hb9 : b9 ≠ go := by
         have := (HO9.out.lt b9 (by simp [Value.ownBlock])).1
         omega
        rw [← kq ⟨b9, f9 + k2, none⟩ hb9] at hc9
        have hLc : wr2.cell? ⟨wc.heap.size, k2, none⟩ = some (.int .i64 (L.getD k2 0)) := by
         rw [kq ⟨wc.heap.size, k2, none⟩ (by have := HBD.out.size; show wc.heap.size ≠ go; omega), cell_of_row _ _ _ _ _ _ HROW.out, rowA_get hkL]
        have hlb2 := HSL.out _ (List.getElem_mem hkL)
        rw [← getD_get L 0 hkL] at hlb2
        have HST := hidE (addTo_succ (out := s.out) hkW hkL)
        rw [← getD_get L 0 hkL] at HST
        obtain ⟨j, hj⟩ : ∃ j, (whoP ranks r)[k2]'hkW = j := ⟨_, rfl⟩
        have e9 : IL[k2]'hkI = (j : Int) := by
         have h1 := HIL.out
         have h2 := HWN.out
         have : IL = (whoP ranks r).map (fun i : Nat => (i : Int)) := h1.symm.trans h2
         subst this
         simp [hj]
        have hjn : j < k := by
         have := whoTo_lt (show j ∈ whoP ranks r by rw [← hj]; exact List.getElem_mem hkW)
         rw [HK.out.len, HN.out] at this; exact this
        rw [e9] at hc9
        rw [hj] at HST
        obtain ⟨lk, hlk⟩ : ∃ z, L.getD k2 0 = z := ⟨_, rfl⟩
        rw [hlk] at hLc hlb2 HST
        obtain ⟨OUT, hOUT⟩ : ∃ l, addTo s.out (whoP ranks r) L k2 = l := ⟨_, rfl⟩
        have hjb := HAB.out k2 j
        have hol : OUT.length = k := by rw [← hOUT, addTo_len, HK.out.ol, HN.out]
        rw [hOUT] at HG2 HST hjb
        obtain ⟨xj, hxj⟩ : ∃ z, OUT.getD j 0 = z := ⟨_, rfl⟩
        rw [hxj] at hjb
        have y0 : wr2.drew.cell? ⟨ob, 0, none⟩ = some (.slice (some ⟨go, 0, none⟩) k cO) := ko2
        have y1 : wr2.drew.cell? ⟨b9, f9 + k2, none⟩ = some (.int .i64 (j : Int)) := hc9
        have y2 : wr2.drew.cell? ⟨go, j, none⟩ = some (.int .i64 xj) := by
         show wr2.cell? _ = _
         rw [cell_of_row _ _ _ _ _ _ HG2.out, rowA_get (by rw [hol]; exact hjn), hxj]
        have y3 : wr2.drew.frozen? ⟨go, j, none⟩ = false := frozen_of_row _ _ _ _ _ HG2.out
        have hwx : IntKind.i64.wrap (xj + lk) = xj + lk := IntWalk.i64_in _ (by omega)
        have hltI : (k2 : Int) < (m : Int) := by omega
        have hm9 : (0 : Int) ≤ (k2 : Int) := by omega
        have hj0 : (j : Int) < (k : Int) := by omega
        have HXJ := hidE hxj
        have HOUT := hidE hol
        clear hj e9 hlk hOUT hxj hol
        go_upto_region 16 with fail
        refine wp_region_G (S := fun V => V = wr2.drew) (T := fun t => decide (9 ≤ t)) (by kernel_rfl) ?_
        have hS : (fun V : World => V = wr2.drew) wr2.drew := rfl
        refine wpAnyG_load (i := 0) (d := 60) (v := .slice (some ⟨go, 0, none⟩) k cO) rfl rfl rfl (by kernel_rfl) (by kernel_rfl) (by kernel_rfl) (by kernel_rfl) (by kernel_rfl) (fun _ _ _ h => h) (.inl ⟨rfl, fun V hV => ?_⟩) hS ?_
        ·obtain rfl := hV
         simp [go_sem, execOp, y0]
        try simp only [s_a, s_b, s_c]
        refine t_g 1 61 (.slice (some ⟨b9, f9, none⟩) m c9) rfl (by kernel_rfl) rfl (fun _ _ _ h => h) (fun V hV => ?_) (.inr hS) ?_
        ·simp [go_sem, execOp]
        try simp only [s_a, s_b, s_c]
        refine t_g 2 62 (.int .i64 (k2 : Int)) rfl (by kernel_rfl) rfl (fun _ _ _ h => h) (fun V hV => ?_) (.inr hS) ?_
        ·simp [go_sem, execOp]
        try simp only [s_a, s_b, s_c]
        refine t_g 3 63 (.pointer (some ⟨b9, f9 + k2, none⟩)) rfl (by kernel_rfl) rfl (fun _ _ _ h => h) (fun V hV => ?_) (.inr hS) ?_
        ·simp [go_sem, execOp, hltI, hm9]
        try simp only [s_a, s_b, s_c]
        refine wpAnyG_load (i := 4) (d := 64) (v := .int .i64 (j : Int)) rfl rfl rfl (by kernel_rfl) (by kernel_rfl) (by kernel_rfl) (by kernel_rfl) (by kernel_rfl) (fun _ _ _ h => h) (.inl ⟨rfl, fun V hV => ?_⟩) hS ?_
        ·obtain rfl := hV
         simp [go_sem, execOp, y1]
        try simp only [s_a, s_b, s_c]
        refine t_g 5 65 (.pointer (some ⟨go, j, none⟩)) rfl (by kernel_rfl) rfl (fun _ _ _ h => h) (fun V hV => ?_) (.inr hS) ?_
        ·simp [go_sem, execOp, hj0]
        try simp only [s_a, s_b, s_c]
        refine wpAnyG_load (i := 6) (d := 66) (v := .int .i64 xj) rfl rfl rfl (by kernel_rfl) (by kernel_rfl) (by kernel_rfl) (by kernel_rfl) (by kernel_rfl) (fun _ _ _ h => h) (.inl ⟨rfl, fun V hV => ?_⟩) hS ?_
        ·obtain rfl := hV
         simp [go_sem, execOp, y2]
        try simp only [s_a, s_b, s_c]
        refine t_g 7 67 (.int .i64 lk) rfl (by kernel_rfl) rfl (fun _ _ _ h => h) (fun V hV => ?_) (.inr hS) ?_
        ·simp [go_sem, execOp]
        try simp only [s_a, s_b, s_c]
        refine t_g 8 68 (.int .i64 (xj + lk)) rfl (by kernel_rfl) rfl (fun _ _ _ h => h) (fun V hV => ?_) (.inr hS) ?_
        ·simp [go_sem, execOp, hwx]
        try simp only [s_a, s_b, s_c]
        refine wpAnyG_step 9 rfl (by kernel_rfl) (fun K hK => ?_)
        go_simp
        refine hK.out _ _ (.inl ⟨9, rfl, by kernel_rfl⟩) ?_
        clear hK K
        try simp only [Act.put, s_a, s_b, s_c]
        refine wpAnyG_step 10 rfl (by kernel_rfl) (fun K hK => ?_)
        go_simp
        refine hK.out _ _ (.inl ⟨10, rfl, by kernel_rfl⟩) ?_
        clear hK K
        try simp only [Act.put, s_a, s_b, s_c]
        refine wpAnyG_done (by kernel_rfl) ?_ _
        have HN0 := hidE (show (wr2.setCell ⟨go, j, none⟩ (.int .i64 (xj + lk))).drew.heap[go]? = some (.cells (rowA (addTo s.out (whoP ranks r) L (k2 + 1))) 3 (0,0)) from (heap_setCell_same _ _ _ _ _ _ HG2.out).trans (by rw [rowA_set, HST.out]; unfold addAt; rw [HXJ.out]))
        have HN1 := hidE (show (wr2.setCell ⟨go, j, none⟩ (.int .i64 (xj + lk))).drew.heap.size = w2.heap.size from (World.size_setCell ..).trans HSZ.out)
        have HN2 := hidE (fun (q : Nat) (hq : q ≠ go) => show (wr2.setCell ⟨go, j, none⟩ (.int .i64 (xj + lk))).drew.heap[q]? = w2.heap[q]? from (heap_setCell_other _ _ _ _ hq).trans (HOT.out q hq))
        have HN3 := hidE (show Below go w2 (wr2.setCell ⟨go, j, none⟩ (.int .i64 (xj + lk))).drew from (HBL.out.setCell (Nat.le_refl _) _).drew)
        clear y0 y1 y2 y3 hS hwx hc9 hLc kq ko2
        go_wp2_with fail
        go_roundw
        case rel => exact ⟨k2 + 1, by omega, by go_num, HN0, HN1, HN2, HN3⟩
        case measure => simp [intOf]; omega
       ·obtain rfl : k2 = m := by omega
        have hl2 : wr2.heap[lb]? = some (.cells #[.int .i64 lf] 3 (0,0)) := (HOT.out lb H.out.ne).trans ((B2.out.block lb llb).trans (by rw [H.out.l, HLF.out]))
        have z1 : wr2.cell? ⟨lb, 0, none⟩ = some (.int .i64 lf) := cell_of_one hl2
        have z2 : wr2.frozen? ⟨lb, 0, none⟩ = false := frozen_of_row _ _ _ _ _ hl2
        have hwm : IntKind.i64.wrap (lf - M) = lf - M := IntWalk.i64_in _ (by omega)
        have HL2 := hidE hl2
        obtain ⟨Y, hY⟩ : ∃ Y, Y = wr2.setCell ⟨lb, 0, none⟩ (.int .i64 (lf - M)) := ⟨_, rfl⟩
        have yo : ∀ q : Nat, q ≠ lb → q ≠ go → Y.heap[q]? = w2.heap[q]? := fun q h1 h2 => by rw [hY]; exact (heap_setCell_other _ _ _ _ h1).trans (HOT.out q h2)
        have ysz : Y.heap.size = w2.heap.size := by rw [hY, World.size_setCell]; exact HSZ.out
        have HYL := hidE (show Y.heap[lb]? = some (.cells #[.int .i64 (lf - M)] 3 (0,0)) by rw [hY]; exact one_setCell hl2)
        have HYG := hidE (show Y.heap[go]? = some (.cells (rowA (addTo s.out (whoP ranks r) L k2)) 3 (0,0)) by rw [hY]; exact (heap_setCell_other _ _ _ _ (fun e => H.out.ne e.symm)).trans HG2.out)
        have HYS := hidE (show w.heap.size ≤ Y.heap.size by rw [ysz]; exact B2.out.size)
        have HYO := hidE (fun (q : Nat) (hq : q < w.heap.size) (h1 : q ≠ lb) (h2 : q ≠ go) => (yo q h1 h2).trans (B2.out.block q hq))
        have HYB := hidE (show Below 0 w Y by rw [hY]; exact ((B2.out.mono (Nat.zero_le _)).trans (HBL.out.mono (Nat.zero_le _))).setCell (Nat.zero_le _) _)
        have HYI := hidE (show IntsAt Y o10 WL by
         have hlt := HO10.out.lt
         rcases HI10d.out with h | ⟨b, off, e, hb, hc⟩
         ·exact .inl h
         ·subst e
          have hge := (hlt b (by simp [Value.ownBlock])).1
          refine .inr ⟨b, off, rfl, by rw [ysz]; exact hb, fun i hi => ?_⟩
          rw [World.cell?_of_block (w := w2) (a := ⟨b, off + i, none⟩) (yo b (by omega) (by omega))]
          exact hc i hi)
        have HY := hidE hY
        clear hY yo ysz hl2 kq ko2
        cases most with
        | false =>
          go_upto_region 19 with fail
          first | rw [← HY.out] | skip
          clear z1 z2
          have hQ := HQ3.out
          go_wp2_with fail
          go_ret
          rw [← hQ]
          exact ⟨rfl, HYL.out, HYG.out, HYS.out, HYO.out, HYB.out⟩
        | true =>
          go_upto_region 19 with fail
          first | rw [← HY.out] | skip
          clear z1 z2
          have hQ := HQ3.out
          go_wp2_with fail
          refine (HSM.out _ HYI.out).mono ?_
          rintro e w5 ⟨rfl, hw5⟩
          obtain rfl := hw5
          go_wp2_with fail
          go_ret
          rw [← hQ]
          exact ⟨rfl, HYL.out, HYG.out, HYS.out, HYO.out, HYB.out⟩
theorem wp_rangeCap {α : Type} {P : Program} {g : Operand} {ps : Array Tmp} {assign body : Code} {Q : Exit → Act → World → Prop} {a : Act} {w : World} {gf : Nat} {rv : Value}
 (hg : a.eval g = .func (.func gf) #[] #[rv]) (eg : ∀ args w, (callFunc gf args).run P w = .ok (.enter gf args) w)
 (encs : α → Array Value) (hps : ∀ x, (encs x).size = ps.size) (S : List α → Prop) (N : Nat) (Kp : World → World → Prop) (hKt : ∀ {A B C : World}, Kp A B → Kp B C → Kp A C)
 (hKb : ∀ (W : World) (l : Nat) (o o' : Obj), w.heap.size ≤ l → W.heap[l]? = some o → o.isCells = false → o.isWalk = false → Kp W (W.putObj l o'))
 (hseq : ∀ (l : Nat) (J : List α → World → Prop) (W : World), Below w.heap.size w W → AbidesFrom W.heap.size J →
  (∀ pre x W1, J pre W1 → pre.length < N → YieldAt Fence.wide 6 P l (encs x) W1 fun e W' => e = .returned (.bool true) ∧ J (pre ++ [x]) W' ∧ Kp W1 W') → J [] W →
  CallsIn Fence.wide 7 P gf #[.func (.yield l) #[] #[], rv] W fun e W' => (∃ v, e = .returned v) ∧ ∃ ys, S ys ∧ J ys W')
 (I : List α → World → Prop) (hI : OwnFrom w.heap.size I) (h0 : I [] w) (Ax : α → Act → World → Prop) (hAx : ∀ x a', OwnFrom w.heap.size (fun (_ : Unit) W => Ax x a' W))
 (hassign : ∀ (l : Nat) (pre : List α) (x : α) (W : World) (K : Act → World → Prop), I pre W → (∀ a' W', KeepsFrom w.heap.size W W' → Kp W W' → I pre W' → Ax x a' W' → K a' W') →
  assign.wpIn (Fence.wide.inRound l) 6 P (Exit.then K (fun _ _ _ => False)) { tmps := (ps.zip (encs x)).foldl (fun t (p, v) => t.setIfInBounds p v) a.tmps, defers := [] } W)
 (hbody : ∀ (l : Nat) (pre : List α) (x : α) (a' : Act) (W : World), I pre W → Ax x a' W → pre.length < N → body.wpIn (Fence.wide.inRound l) 6 P (roundPost w.heap.size Kp I (pre ++ [x]) W) a' W)
 (hdone : ∀ (D : Nat) (xs : List α) (W : World), w.heap.size ≤ D → S xs → I xs W → W.heap[D]? = some (.deferred (some [])) → Q .normal { a with defers := { target := .collected D, args := #[] } :: a.defers } W) :
 (Code.rangeFunc g ps assign body).wp P Q a w := by
 refine (wpIn_wide (n := 8)).1 (wpIn_rangeFunc ?_)
 intro fn hfn
 obtain ⟨rec, hrec⟩ : ∃ rec : LoopState → Loop, rec = fun st => { state := st, pending := none, fn, tmps := a.tmps, params := ps, assign, body, defers := w.heap.size } := ⟨_, rfl⟩
 obtain ⟨W1, hW1⟩ : ∃ W1, (w.alloc (.deferred (some []))).alloc (.loop (rec .ready)) = W1 := ⟨_, rfl⟩
 have hL1 : W1.heap[w.heap.size + 1]? = some (.loop (rec .ready)) := by
  rw [← hW1]; have := World.alloc_heap_new (w.alloc (.deferred (some []))) (.loop (rec .ready)); rwa [World.size_alloc] at this
 have hD1 : W1.heap[w.heap.size]? = some (.deferred (some [])) := by
  rw [← hW1]; exact (Below.heap_alloc _ _ _ (by simp)).trans (World.alloc_heap_new w _)
 have hI1 : I [] W1 := by rw [← hW1]; exact hI.alloc _ (hI.alloc _ h0)
 have hb1 : Below w.heap.size w W1 := by rw [← hW1]; exact ((Below.refl _ w).alloc (Nat.le_refl _) _).alloc (by simp) _
 refine ⟨w.heap.size + 1, [{ target := .collected w.heap.size, args := #[] }], W1, { target := .fn (.func gf) #[rv], args := #[.func (.yield (w.heap.size + 1)) #[] #[]] }, W1, gf,
  #[.func (.yield (w.heap.size + 1)) #[] #[], rv], W1, ?_, ?_, ?_, ?_, fun _ => by omega, ?_⟩
 ·rw [← hW1, hrec]; exact run_enterLoop_outer _ _ _ _ _
 ·simp only [resolve, hg]
  simp [go_sem]
 ·intro f' hf'; trivial
 ·simp [invoke, go_sem, eg]
 ·have hnw : ∀ {A : World} {row : Option Nat}, (∀ r, row = some r → W1.heap.size ≤ r ∧ ∃ o : Obj, A.heap[r]? = some o ∧ o.isWalk = true) → (∀ r, row = some r → w.heap.size ≤ r ∧ ∃ o : Obj, A.heap[r]? = some o ∧ o.isCells = false) :=
   fun hr r e => by obtain ⟨hB, o, ho, hw⟩ := hr r e; exact ⟨by rw [← hW1] at hB; simp at hB; omega, o, ho, Obj.not_cells_of_walk hw⟩
  refine (hseq (w.heap.size + 1) (fun pre W => I pre W ∧ W.heap[w.heap.size + 1]? = some (.loop (rec .ready)) ∧ W.heap[w.heap.size]? = some (.deferred (some []))) W1 hb1
   (fun s A B row hs hg' hr => ⟨hI s A B row hs.1 hg' (hnw hr), (grownBy_keeps hg' (fun r e => (hr r e).2) hs.2.1 rfl).trans hs.2.1, (grownBy_keeps hg' (fun r e => (hr r e).2) hs.2.2 rfl).trans hs.2.2⟩)
   ?_ ⟨hI1, hL1, hD1⟩).mono ?_
  ·rintro pre x W ⟨hi, hl, hk⟩ hlen
   have hy := run_yield (P := P) (args := encs x) hl (by rw [hrec]; exact hps x)
   rw [hrec] at hy
   refine ⟨fn, _, assign, body, hy, roundIn_of_wpIn hfn (hassign _ pre x W _ hi ?_)⟩
   clear hy
   intro a' Wa hkfa hkpa hia hax
   have hla := hkfa.same _ _ (by omega) hl rfl
   have hka := hkfa.same _ _ (Nat.le_refl _) hk rfl
   have hlt : w.heap.size + 1 < Wa.heap.size := (Array.getElem?_eq_some_iff.1 hla).1
   obtain ⟨Wb, hWb⟩ : ∃ Wb, Wa.putObj (w.heap.size + 1) (.loop { rec .ready with state := .busy }) = Wb := ⟨_, rfl⟩
   refine ⟨Wb, by rw [← hWb]; exact run_beginRound hla (by rw [hrec]), ?_⟩
   have hlb : Wb.heap[w.heap.size + 1]? = some (.loop { rec .ready with state := .busy }) := by rw [← hWb]; exact World.putObj_heap_same hlt
   have hkb : Wb.heap[w.heap.size]? = some (.deferred (some [])) := by rw [← hWb]; exact (World.putObj_heap_other (by omega)).trans hka
   have hwb : Kp Wa Wb := by rw [← hWb]; exact hKb _ _ _ _ (by omega) hla rfl rfl
   have hib : I pre Wb := by rw [← hWb]; exact hI.putObj _ hia (by omega) hla rfl
   have haxb : Ax x a' Wb := by rw [← hWb]; exact (hAx x a').putObj (s := ()) _ hax (by omega) hla rfl
   refine wpIn_mono (hbody _ pre x a' Wb hib haxb hlen) ?_
   rintro e a3 W3 ⟨rfl, hk3, hkp3, hi3⟩
   have hl3 := hk3.same _ _ (by omega) hlb rfl
   have hd3 := hk3.same _ _ (Nat.le_refl _) hkb rfl
   have hr := run_endRound (P := P) none hl3
   rw [hrec] at hr hl3
   refine ⟨_, _, hr, rfl, ⟨hI.putObj _ hi3 (by omega) hl3 rfl, ?_, (World.putObj_heap_other (by omega)).trans hd3⟩, hKt hkpa (hKt (hKt hwb hkp3) (hKb _ _ _ _ (by omega) hl3 rfl rfl))⟩
   rw [hrec]
   exact World.putObj_heap_same (Array.getElem?_eq_some_iff.1 hl3).1
  ·rintro e W2 ⟨⟨v, rfl⟩, xs, hS, hi, hl, hk⟩
   exact ⟨none, _, by have := run_endLoop (P := P) hl (by rw [hrec]; simp); rw [hrec] at this; exact this, hdone _ xs _ (Nat.le_refl _) hS (hI.putObj _ hi (by omega) hl rfl) ((World.putObj_heap_other (by omega)).trans hk)⟩
attribute [local go_sem] Oper.semAt_some
theorem slValues_any (w : World) (a : Option Addr) (len cap : Nat) :
 Calls Tryz.prog 92 #[.slice a len cap] w fun e w' => e = .returned (.func (.func 157) #[] #[.pointer (some ⟨w.heap.size, 0, none⟩)]) ∧ w' = w.alloc (.cells #[.slice a len cap] 25) := by
 go_enter Tryz.func92, Tryz.ntmps92
 go_wp2
 go_ret
 exact ⟨rfl, rfl⟩
set_option maxRecDepth 100000 in
set_option maxHeartbeats 1000000 in
theorem values1_in (l b1 : Nat) (Fix : Nat → Prop) (w W : World) (a : Option Addr) (cap : Nat) (xs : List Int) (hl : xs.length ≤ 4000) (hI : IntsAt w a xs) (hFix : ∀ b, Fix b → b < w.heap.size) (f1 : Fix b1) (fa : ∀ x, a = some x → 0 < xs.length → Fix x.block)
 (hc1 : w.cell? ⟨b1, 0, none⟩ = some (.slice a xs.length cap)) (hw : KeepsB Fix w W) (J : List Int → World → Prop) (hJ : AbidesFrom W.heap.size J)
 (hY : ∀ pre x W1, J pre W1 → pre.length < xs.length → YieldAt Fence.wide 6 Tryz.prog l #[.int .i64 x] W1 fun e W' => e = .returned (.bool true) ∧ J (pre ++ [x]) W' ∧ KeepsB Fix W1 W') (h0 : J [] W) :
 CallsIn Fence.wide 7 Tryz.prog 157 #[.func (.yield l) #[] #[], .pointer (some ⟨b1, 0, none⟩)] W fun e W' => (∃ v, e = .returned v) ∧ ∃ ys, ys = xs ∧ J ys W' := by
 have H := hidE hI
 have HY := hidE hY
 have HJ := hidE hJ
 have HFix := hidE hFix
 have HFa := hidE fa
 have d1 : W.cell? ⟨b1, 0, none⟩ = some (.slice a xs.length cap) := (hw.cell (by exact f1)).trans hc1
 clear hI hY hJ hFix fa
 refine callsIn_of_wp Tryz.func157 rfl trivial ?_ rfl
 simp only [Tryz.ntmps157, List.size_toArray, List.length_cons, List.length_nil, Nat.reduceAdd, Nat.reduceSub, Array.replicate_succ, Array.replicate_zero, List.push_toArray, List.append_toArray, List.nil_append, List.cons_append]
 gi_wp2
 gi_loopw [7] (fun i wr => ∃ (k : Nat), k ≤ xs.length ∧ i = .int .i64 k ∧ Hid (J (xs.take k) wr) ∧ KeepsB Fix w wr)
  (fun i _ => xs.length - (intOf i).toNat)
 case atStart => exact ⟨0, Nat.zero_le _, rfl, hidE h0, hw⟩
 case round =>
  obtain ⟨k, hk, rfl, hJs, hkp⟩ := hrel
  by_cases hlt : k < xs.length
  ·obtain ⟨b, off, rfl, hbl, hc⟩ := H.out.at hlt
   have fb := HFa.out _ rfl (by omega)
   rw [← hkp.cell (by exact fb)] at hc
   have HTK := hidE (show xs.take k ++ [xs[k]] = xs.take (k + 1) from (List.take_succ_eq_append_getElem hlt).symm)
   obtain ⟨q, hq⟩ : ∃ q, xs[k] = q := ⟨_, rfl⟩
   rw [hq] at hc HTK
   obtain ⟨fn, tmps, assign, body, hy, hR⟩ := HY.out (xs.take k) q _ hJs.out (by rw [List.length_take]; omega)
   have HR := hidE hR
   have HKP := hidE hkp
   clear hR hq
   gi_wp2_with fail
   refine HR.out.mono ?_
   rintro e W3 ⟨rfl, hJ3, hk3⟩
   rw [HTK.out] at hJ3
   have HJ3 := hidE hJ3
   have HK3 := hidE (HKP.out.trans hk3)
   clear hJ3 hk3 HR
   gi_wp2_with fail
   go_roundw
   case rel => exact ⟨k + 1, by omega, by go_num, HJ3, HK3.out⟩
   case measure => simp [intOf]; omega
  ·obtain rfl : k = xs.length := by omega
   gi_wp2
   go_end0
   exact ⟨⟨_, rfl⟩, _, rfl, by have := hJs.out; rwa [List.take_length] at this⟩
attribute [local go_sem] Oper.semAt_some
set_option maxRecDepth 100000 in
set_option maxHeartbeats 2000000 in
theorem appendSeq_any (w : World) (b1 : Nat) (a : Option Addr) (cap : Nat) (xs : List Int) (hl : xs.length ≤ 4000) (hI : IntsAt w a xs) (hc : w.heap[b1]? = some (.cells #[.slice a xs.length cap] 25 (0,0))) :
 Calls Tryz.prog 199 #[.slice none 0 0, .func (.func 157) #[] #[.pointer (some ⟨b1, 0, none⟩)]] w fun e w' => (∃ v, e = .returned v ∧ w'.ownsRow w.heap.size 3 1 v xs.length (intsV xs)) ∧ Below w.heap.size w w' := by
 have HI := hidE hI
 have HC := hidE hc
 have hb1 : b1 < w.heap.size := lt_of_block hc
 obtain ⟨i0, hi, hz0, hz1, hz2⟩ := info_parts Tryz.info3'
 have HI0 := hidE hi
 have HZ0 := hidE hz0
 have HZ1 := hidE hz1
 have HZ2 := hidE hz2
 obtain ⟨w1, hw1⟩ : ∃ W, W = w.alloc (.cells #[.slice none 0 0] 25) := ⟨_, rfl⟩
 have HS1 := hidE (show w1.heap.size = w.heap.size + 1 by rw [hw1]; simp)
 have HB1 := hidE (show Below w.heap.size w w1 by rw [hw1]; exact (Below.refl _ _).alloc (Nat.le_refl _) _)
 have HBX := hidE (show Boxed w1 w.heap.size 25 (.slice none 0 0) by rw [hw1]; exact Boxed.new _ _ _)
 have HW1 := hidE hw1
 clear hI hc hi hz0 hz1 hz2 hw1
 refine (callsIn_wide (n := 8)).1 (callsIn_of_wp_marks Tryz.func199 rfl trivial (wpIn_wide.2 ?_) rfl)
 simp only [Tryz.ntmps199, List.size_toArray, List.length_cons, List.length_nil, Nat.reduceAdd, Nat.reduceSub, Array.replicate_succ, Array.replicate_zero, List.push_toArray, List.append_toArray, List.nil_append, List.cons_append]
 go_wp2_with fail
 rw [← HW1.out]
 clear HW1
 obtain ⟨IX, hIX⟩ : ∃ IX : List Int → World → Prop, (fun pre W => (∃ v, Boxed W w.heap.size 25 v ∧ W.ownsRow w.heap.size 3 1 v pre.length (intsV pre) ∧ True) ∧ Below w.heap.size w W ∧ w.heap.size < W.heap.size) = IX := ⟨_, rfl⟩
 refine wp_rangeCap (gf := 157) (rv := .pointer (some ⟨b1, 0, none⟩)) rfl (enters_of Tryz.func157 (by kernel_rfl) rfl) (fun x : Int => #[.int .i64 x]) (fun x => rfl) (fun ys => ys = xs) xs.length (KeepsB (· < w.heap.size)) (fun h k => h.trans k) ?kb ?seq
  IX ?own ?start (fun x a' _ => a' = { tmps := #[.slice none 0 0, .func (.func 157) #[] #[.pointer (some ⟨b1, 0, none⟩)], .pointer (some ⟨w.heap.size, 0, none⟩), undef, .slice none 0 0, .int .i64 x, .func (.func 157) #[] #[.pointer (some ⟨b1, 0, none⟩)], .int .i64 x, undef, undef, undef, undef, undef], defers := [] }) ?ax ?assign ?body ?done
 case kb =>
  intro W l o o' hle ho hi
  have := HS1.out
  exact fun _ => ⟨by simp, fun b hb => World.putObj_heap_other (by omega)⟩
 case seq =>
  intro l J W hb hJ hY h0
  exact values1_in l b1 (· < w.heap.size) w W a cap xs hl HI.out (fun b hb => hb) hb1 (fun x e h0 => by
   rcases HI.out with h | ⟨b, off, e2, hlt, _⟩
   ·rw [h] at h0; cases h0
   ·rw [e2] at e; cases e; exact hlt) (by rw [cell_of_one HC.out]) ⟨by have := hb.size; have := HB1.out.size; omega, fun b hb' => (hb.block b (by have := HB1.out.size; omega)).trans (HB1.out.block b hb')⟩ J hJ hY h0
 case own =>
  rw [← hIX]
  rintro pre X Y row ⟨h1, h2, h3⟩ hg hr
  refine ⟨holdsRow_own w.heap.size w.heap.size 25 3 1 List.length intsV (fun _ _ => True) pre X Y row h1 hg (fun r e => (hr r e).2), h2.grown hg (by omega) (fun k e => by have := (hr k e).1; have := HS1.out; omega), Nat.lt_of_lt_of_le h3 hg.size⟩
 case start =>
  rw [← hIX]
  exact ⟨⟨_, HBX.out, World.ownsRow_nil _ _ _ _, trivial⟩, HB1.out, by rw [HS1.out]; omega⟩
 case ax =>
  rintro x a' _ X Y row h hg hr
  exact h
 case assign =>
  intro l pre x W K hI hK
  have hK2 := hK _ W (KeepsFrom.refl _ _) (KeepsB.refl _ _) hI rfl
  clear hK
  simp only [s_a, s_b, s_c, List.zip_toArray, List.zip_cons_cons, List.zip_nil_right, List.foldl_toArray, List.foldl_cons, List.foldl_nil] at hK2 ⊢
  gi_wp2
  exact hK2
 case body =>
  rintro l pre x a' W hIW rfl hlen
  rw [← hIX] at hIW
  obtain ⟨⟨v, hv, hrow, _⟩, hbl, hsz⟩ := hIW
  have c0 := hv.cell
  have HV := hidE hv
  have HROW := hidE hrow
  have HBL := hidE hbl
  have HSZ := hidE hsz
  have own3 := hidE (hrow.alloc (.cells #[.int .i64 x] 3))
  have NEW := hidE (show ∀ (j : Nat) (u : Value), [Value.int .i64 x][j]? = some u → (W.alloc (.cells #[.int .i64 x] 3)).cell? ((⟨W.heap.size, 0, none⟩ : Addr).add j) = some u from fun j u hj => by
   rw [show ((⟨W.heap.size, 0, none⟩ : Addr).add j) = ⟨W.heap.size, 0 + j, none⟩ from by unfold Addr.add; split <;> simp_all]
   rw [cell_of_row _ _ _ _ _ _ (heap_alloc_new W (.cells #[.int .i64 x] 3)), Nat.zero_add]
   simpa using hj)
  clear hv hrow hbl hsz
  gi_wp2_with (gi_at_builtin; refine wpListIn_append_own _ rfl (.tmp 8) (.tmp 10) 25 rfl w.heap.size 3 i0 _ 1 8 Tryz.underlying25 HI0.out HZ0.out HZ1.out HZ2.out rfl (by decide) v pre.length (intsV pre) rfl own3.out ⟨W.heap.size, 0, none⟩ 1 1 [.int .i64 x] rfl rfl NEW.out (by intro u hu; simp at hu; subst hu; rfl) (by unfold maxLen; omega) (by omega) (by simp; have := HSZ.out; omega) ?_; intro v' wa hown' hgrow _; obtain ⟨g', cp', rfl⟩ := ownsRow_succ hown'; have hA := Boxed.appended HV.out (by decide) HROW.out (by have := HSZ.out; omega) (Nat.le_refl _) hown' hgrow; have cb := hA.1.cell; have fb := hA.1.frozen; have HA := hidE hA; clear hA hown' hgrow c0)
  refine ⟨rfl, HA.out.2.2.2.1.from _, ⟨HA.out.2.2.2.2.size, fun b hb => HA.out.2.2.2.2.block b hb⟩, ?_⟩
  rw [← hIX]
  refine ⟨⟨_, HA.out.2.1, ?_, trivial⟩, HBL.out.trans HA.out.2.2.2.2, Nat.lt_of_lt_of_le HSZ.out HA.out.2.2.2.2.size⟩
  have := HA.out.2.2.1
  rw [List.length_append]
  simpa [intsV] using this
 case done =>
  rintro D ys W hD hys hI2 hKD
  subst hys
  rw [← hIX] at hI2
  obtain ⟨⟨v, hv, hrow, _⟩, hbl, hsz⟩ := hI2
  have c0 := hv.cell
  have HROW := hidE hrow
  have HBL := hidE hbl
  clear hv hrow hbl hsz
  have hsz2 := HS1.out
  go_wp2_with fail
  refine leaves_marks (B := w.heap.size) _ W ⟨[D], rfl, by simp, fun D' hm => by rw [List.mem_singleton] at hm; subst hm; exact ⟨by omega, hKD⟩⟩ (fun W' hk' => ?_)
  refine ⟨_, results_tmp Tryz.results199 _ _ _, ⟨v, rfl, ?_⟩, HBL.out.trans hk'.below⟩
  have h := HROW.out
  rcases h with ⟨h1, h2 | ⟨gb, cp, cur, e1, e2, hh, e3⟩⟩
  ·exact ⟨h1, .inl h2⟩
  ·exact ⟨h1, .inr ⟨gb, cp, cur, e1, e2, hk'.cells _ _ _ _ hh, e3⟩⟩
set_option maxHeartbeats 1000000 in
theorem collect_any (w : World) (b1 : Nat) (a : Option Addr) (cap : Nat) (xs : List Int) (hl : xs.length ≤ 4000) (hI : IntsAt w a xs) (hc : w.heap[b1]? = some (.cells #[.slice a xs.length cap] 25 (0,0))) :
 Calls Tryz.prog 156 #[.func (.func 157) #[] #[.pointer (some ⟨b1, 0, none⟩)]] w fun e w' => (∃ v, e = .returned v ∧ w'.ownsRow w.heap.size 3 1 v xs.length (intsV xs)) ∧ Below w.heap.size w w' := by
 have HA := hidE (appendSeq_any w b1 a cap xs hl hI hc)
 clear hI hc
 go_enter Tryz.func156, Tryz.ntmps156
 go_wp2_with fail
 refine HA.out.mono ?_
 rintro e w1 ⟨⟨v, rfl, ho⟩, hb⟩
 have HO := hidE ho
 have HB := hidE hb
 clear ho hb
 go_wp2_with fail
 go_ret
 exact ⟨⟨_, rfl, HO.out⟩, HB.out⟩
set_option maxHeartbeats 1000000 in
theorem sorted_any (w : World) (b1 : Nat) (a : Option Addr) (cap : Nat) (xs : List Int) (hl : xs.length ≤ 4000) (hI : IntsAt w a xs) (hc : w.heap[b1]? = some (.cells #[.slice a xs.length cap] 25 (0,0))) :
 Calls Tryz.prog 91 #[.func (.func 157) #[] #[.pointer (some ⟨b1, 0, none⟩)]] w fun e w' => (∃ v, e = .returned v ∧ w'.ownsRow w.heap.size 3 1 v (sortP xs).length (intsV (sortP xs))) ∧ Below w.heap.size w w' := by
 have HA := hidE (collect_any w b1 a cap xs hl hI hc)
 have HL := hidE (sortP_length xs)
 clear hI hc
 go_enter Tryz.func91, Tryz.ntmps91
 go_wp2_with fail
 refine HA.out.mono ?_
 rintro e w1 ⟨⟨v, rfl, ho⟩, hb⟩
 have HB := hidE hb
 have HS := hidE (sort_own w1 w.heap.size v xs (by omega) ho hb.size)
 clear ho hb
 go_wp2_with fail
 refine HS.out.mono ?_
 rintro e w2 ⟨rfl, ho, hb⟩
 have HO := hidE ho
 have HB2 := hidE (HB.out.trans hb)
 clear ho hb
 go_wp2_with fail
 go_ret
 exact ⟨⟨_, rfl, by rw [HL.out]; exact HO.out⟩, HB2.out⟩
theorem compactSorted_any (w : World) (base : Nat) (v : Value) (xs : List Int) (hl : xs.length ≤ 4000) (h : w.ownsRow base 3 1 v (sortP xs).length (intsV (sortP xs))) :
 Calls Tryz.prog 90 #[v] w fun e w' => ∃ v', e = .returned v' ∧ w'.ownsRow base 3 1 v' (Lib.compact (sortP xs)).length (intsV (Lib.compact (sortP xs))) ∧ Below base w w' :=
 compact_own w base v (sortP xs) (by rw [sortP_length]; omega) h
theorem rank1_any (w : World) (v : Int) : Calls Tryz.prog 85 #[.int .i64 v] w fun e w' => e = .returned (.bool (inR v 0 1000000)) ∧ w = w' := by
 go_enter Tryz.func85, Tryz.ntmps85
 go_wp2_with (go_at_call 86; refine (in_any _ _ _ _).mono ?_; rintro e w' ⟨rfl, rfl⟩)
 go_ret
 exact ⟨rfl, rfl⟩
theorem zip_fst : ∀ (a : List Nat) (b : List Int), ((a.zip b).map (·.1)).Sublist a
 | [], _ => by simp
 | _ :: _, [] => by simp
 | x :: a, y :: b => by simp only [List.zip_cons_cons, List.map_cons]; exact (zip_fst a b).cons_cons _
structure GvK (claims ranks : List Int) (found : Int) (k : Nat) (s : Rk) : Prop where
 len : ranks.length = claims.length
 le : claims.length ≤ 50
 cl : ∀ x ∈ claims, 0 ≤ x ∧ x ≤ 1000000
 fd : found ≤ 100000000000
 lf : 0 ≤ s.left ∧ s.left ≤ found
 ou : ∀ j, 0 ≤ s.out.getD j 0 ∧ s.out.getD j 0 ≤ k * 100000000000
 ol : s.out.length = claims.length
theorem GvK.ok {claims ranks : List Int} {found : Int} {k : Nat} {s : Rk} (h : GvK claims ranks found k s) (hk : k ≤ 60) : GvOk claims ranks s :=
 ⟨h.len, h.le, h.cl, ⟨h.lf.1, Int.le_trans h.lf.2 h.fd⟩, fun j => by have := h.ou j; omega, h.ol⟩
theorem GvK.step {claims ranks : List Int} {found : Int} {k : Nat} {s : Rk} (h : GvK claims ranks found k s) (r : Int) (most : Bool) : GvK claims ranks found (k + 1) (giveR claims ranks r most s).2 := by
 have hw : ∀ x ∈ wantP claims ranks r, 0 ≤ x ∧ x ≤ 1000000 := by
  intro x hx
  obtain ⟨i, _, rfl⟩ := List.mem_map.1 hx
  by_cases hi : i < claims.length
  ·rw [getD_get _ _ hi]; exact h.cl _ (List.getElem_mem hi)
  ·rw [List.getD_eq_getElem?_getD, List.getElem?_eq_none (by omega)]; decide
 have hs := isum_nonneg (fun x hx => (hw x hx).1)
 have hlf := h.lf
 have hfd := h.fd
 have e : ((k + 1 : Nat) : Int) * 100000000000 = k * 100000000000 + 100000000000 := by omega
 have hm : 0 ≤ muchR claims ranks r most s.left ∧ muchR claims ranks r most s.left ≤ s.left := by unfold muchR; split <;> omega
 unfold giveR
 split
 ·refine ⟨h.len, h.le, h.cl, h.fd, h.lf, fun j => ?_, h.ol⟩
  have := h.ou j
  show 0 ≤ s.out.getD j 0 ∧ s.out.getD j 0 ≤ _
  omega
 ·rename_i hn
  have hok : ShOk (muchR claims ranks r most s.left) (wantP claims ranks r) := ⟨hm.1, fun x hx => (hw x hx).1, by
   by_cases h0 : 0 < isum (wantP claims ranks r)
   ·exact .inl h0
   ·refine .inr ?_
    apply Classical.byContradiction; intro h2; exact hn ⟨by omega, by omega⟩⟩
  have hp : ∀ x ∈ sharesP (muchR claims ranks r most s.left) (wantP claims ranks r), 0 ≤ x ∧ x ≤ 100000000000 := fun x hx => by have := shares_le hok x hx; omega
  obtain ⟨L, hL⟩ : ∃ L, sharesP (muchR claims ranks r most s.left) (wantP claims ranks r) = L := ⟨_, rfl⟩
  rw [hL] at hp ⊢
  refine ⟨h.len, h.le, h.cl, h.fd, ?_, fun j => ?_, by rw [addTo_len]; exact h.ol⟩
  ·show 0 ≤ s.left - _ ∧ s.left - _ ≤ found
   omega
  ·have hj := h.ou j
   show 0 ≤ (addTo s.out (whoP ranks r) L (whoP ranks r).length).getD j 0 ∧ (addTo s.out (whoP ranks r) L (whoP ranks r).length).getD j 0 ≤ _
   have hB : (addTo s.out (whoP ranks r) L (whoP ranks r).length).getD j 0 = s.out.getD j 0 ∨ ∃ d, (j, d) ∈ (whoP ranks r).zip L ∧ (addTo s.out (whoP ranks r) L (whoP ranks r).length).getD j 0 = s.out.getD j 0 + d := by
    unfold addTo
    rw [List.take_of_length_le (by rw [List.length_zip]; omega)]
    have hA := addTo_get (j := j) ((whoP ranks r).zip L) s.out
     (by
      have hnd : (whoP ranks r).Nodup := by unfold whoP whoTo; exact List.nodup_range.filter _
      exact hnd.sublist (zip_fst _ _))
     (fun q hq => by have := whoTo_lt (List.of_mem_zip hq).1; have := h.len; have := h.ol; omega)
    by_cases hd : ∃ d, (j, d) ∈ (whoP ranks r).zip L
    ·obtain ⟨d, hd⟩ := hd
     exact .inr ⟨d, hd, hA.1 d hd⟩
    ·exact .inl (hA.2 fun d hd2 => hd ⟨d, hd2⟩)
   rcases hB with q | ⟨d, hd, q⟩
   ·rw [q]; omega
   ·have := hp d (List.of_mem_zip hd).2
    rw [q]; omega
theorem rankStart_ok {claims ranks : List Int} {found : Int} (h : checkSharesP found claims = 0) (hl : ranks.length = claims.length) : GvK claims ranks found 0 (rankStart found claims) := by
 obtain ⟨h1, h2, h3, h4⟩ := checkShares_ok h
 refine ⟨hl, h1, h3, h2.2, ⟨h2.1, Int.le_refl _⟩, fun j => ?_, by simp [rankStart]⟩
 have : (rankStart found claims).out.getD j 0 = 0 := by
  unfold rankStart
  by_cases hj : j < claims.length <;> simp [List.getD_eq_getElem?_getD, hj]
 rw [this]; simp
theorem order_ne {claims ranks : List Int} {found : Int} (h : checkSharesP found claims = 0) (hl : ranks.length = claims.length) (hf : 0 < found) : 0 < (orderP ranks).length := by
 obtain ⟨h1, h2, h3, h4⟩ := checkShares_ok h
 have hz : 0 < isum claims := by rcases h4.any with q | q; exact q; omega
 cases hcl : claims with
 | nil => rw [hcl] at hz; simp [isum] at hz
 | cons x l =>
   have : ranks.getD 0 0 ∈ orderP ranks := mem_orderP.2 (by
    rw [List.getD_eq_getElem?_getD, List.getElem?_eq_getElem (by rw [hl, hcl]; simp)]
    exact List.getElem_mem _)
   exact List.length_pos_of_mem this
theorem order_le (ranks : List Int) : (orderP ranks).length ≤ ranks.length := by
 have := Lib.compact_length_le (sortP ranks)
 rw [sortP_length] at this; exact this
end Go.Proofs.YthjmkmjojlfejaaGreat
