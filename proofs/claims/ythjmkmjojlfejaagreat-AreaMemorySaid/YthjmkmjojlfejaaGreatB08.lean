/- Merged text 8 of the base: Rh, Up, Wc1, Wd1, Fs. No conditions beyond those stated. -/
import Derived.Test.YthjmkmjojlfejaaGreatB05
import Derived.Test.YthjmkmjojlfejaaGreatB07
import Derived.Test.YthjmkmjojlfejaaGreatB02
namespace Go.Proofs.YthjmkmjojlfejaaGreat
open Go Go.RowKit Go.Shelf
section
variable {P : Program} {ops : Array Oper} {Q : Exit → Act → World → Prop} {md : Region.Mode} {S2 S : World → Prop} {T : Nat → Bool}
def Ck (S2 S : World → Prop) (T : Nat → Bool) (listed : Array Bool) (w : World) : Prop := S2 w ∧ ((∃ t, T t = true ∧ listed.getD t false = true) ∨ S w)
def wpAnyK (P : Program) (md : Region.Mode) (ops : Array Oper) (Q : Exit → Act → World → Prop) (S2 S : World → Prop) (T : Nat → Bool) : Nat → Array Bool → Act → World → Prop
 | 0, listed, a, w => Region.ready md ops listed = [] ∧ Q .normal a w
 | fuel + 1, listed, a, w => (Region.ready md ops listed = [] → Q .normal a w) ∧
   ∀ i ∈ Region.ready md ops listed, wpOp P ops Q i (fun a' w' => Ck S2 S T (listed.setIfInBounds i true) w' ∧ wpAnyK P md ops Q S2 S T fuel (listed.setIfInBounds i true) a' w') a w
theorem wpAny_of_K : ∀ (fuel : Nat) (listed : Array Bool) (a : Act) (w : World), wpAnyK P md ops Q S2 S T fuel listed a w → wpAny P md ops Q fuel listed a w
 | 0, _, _, _, h => h
 | fuel + 1, _, _, _, h => ⟨h.1, fun i hi => wpOp_mono (fun a' w' h' => wpAny_of_K fuel _ a' w' h'.2) (h.2 i hi)⟩
theorem Ck.drop {listed : Array Bool} {w : World} {i : Nat} (hTi : T i = false) (h : Ck S2 S T (listed.setIfInBounds i true) w) : Ck S2 S T listed w := by
 rcases h with ⟨hs, ⟨t, h1, h2⟩ | h⟩
 ·refine ⟨hs, .inl ⟨t, h1, ?_⟩⟩
  have hne : i ≠ t := by intro e; rw [e, h1] at hTi; cases hTi
  rwa [getD_set_ne false hne] at h2
 ·exact ⟨hs, .inr h⟩
theorem Ck.add {listed : Array Bool} {w : World} (i : Nat) (h : Ck S2 S T listed w) : Ck S2 S T (listed.setIfInBounds i true) w := by
 rcases h with ⟨hs, ⟨t, h1, h2⟩ | h⟩
 ·exact ⟨hs, .inl ⟨t, h1, getD_set_keep h2⟩⟩
 ·exact ⟨hs, .inr h⟩
theorem wpAnyK_first {i : Nat} {oi : Oper} {v : Value} {S1 : World → Prop} (hi : ops[i]? = some oi) (hTi : T i = false) (hsel : ∀ (j : Nat) (o : Oper) cs b, ops[j]? = some o → o.op ≠ .select cs b)
 (hQ : ∀ c a w, Q (.panic c) (a.put oi.dst v) w → Q (.panic c) a w) :
 ∀ (fuel : Nat) (listed : Array Bool) (a : Act) (w : World),
  ((tailWaits md ops T i = true ∧ (∀ w, S w → S1 w) ∧ ∀ t, T t = true → listed.getD t false = false) ∨ ∀ w, S2 w → S1 w) →
  (∀ j oj, ops[j]? = some oj → j ≠ i → listed.getD j true = false → (∀ e ∈ oj.after, Region.binds md e = true → e.on ≠ i) → oi.apart ops oj = true) →
  i ∈ Region.ready md ops listed → YieldsIf P ops S1 oi v a → S1 w → Ck S2 S T listed w →
  wpAnyK P md ops Q S2 S T fuel (listed.setIfInBounds i true) (a.put oi.dst v) w → wpAnyK P md ops Q S2 S T (fuel + 1) listed a w := by
 intro fuel
 induction fuel with
 | zero =>
   intro listed a w hM _ hr hy hS hC H
   refine ⟨fun h => (by rw [h] at hr; cases hr), fun j hj => ?_⟩
   by_cases hji : j = i
   ·subst hji; exact hy.wpOp hi hS ⟨hC.add _, H⟩
   ·have := ready_mono hj hji
    rw [H.1] at this
    cases this
 | succ fuel ih =>
   intro listed a w hM hfree hr hy hS hC H
   refine ⟨fun h => (by rw [h] at hr; cases hr), fun j hj => ?_⟩
   by_cases hji : j = i
   ·subst hji; exact hy.wpOp hi hS ⟨hC.add _, H⟩
   ·have h1 := H.2 j (ready_mono hj hji)
    obtain ⟨hjun, oj, hoj, hall⟩ := mem_ready.1 hj
    have hnot : ∀ e ∈ oj.after, Region.binds md e = true → e.on ≠ i := fun e he hb heq => by
     have h1 := hall e he hb
     have h0 := (mem_ready.1 hr).1
     rw [heq] at h1
     rcases Nat.lt_or_ge i listed.size with h' | h'
     ·simp [h'] at h0 h1; rw [h0] at h1; cases h1
     ·simp [Array.getElem?_eq_none h'] at h1
    have h2 := wpOp_putIf hoj (hfree j oj hoj hji hjun hnot) (fun cs b => hsel i oi cs b hi) (fun cs b => hsel j oj cs b hoj) hQ hy h1
    have hfree' : ∀ k ok, ops[k]? = some ok → k ≠ i → (listed.setIfInBounds j true).getD k true = false →
     (∀ e ∈ ok.after, Region.binds md e = true → e.on ≠ i) → oi.apart ops ok = true := fun k ok hk hki hun hno => by
     refine hfree k ok hk hki ?_ hno
     by_cases hjk : j = k
     ·subst hjk; exact hjun
     ·rw [getD_set_ne true hjk] at hun; exact hun
    refine wpOp_mono (fun a' w' h3 => ?_) h2
    have hC2 : Ck S2 S T (listed.setIfInBounds j true) w' := by
     have := h3.2.1
     rw [Array.setIfInBounds_comm _ _ (Ne.symm hji)] at this
     exact this.drop hTi
    have hM' : (tailWaits md ops T i = true ∧ (∀ w, S w → S1 w) ∧ ∀ t, T t = true → (listed.setIfInBounds j true).getD t false = false) ∨ ∀ w, S2 w → S1 w := by
     rcases hM with ⟨m1, m2, m3⟩ | hM
     ·left
      refine ⟨m1, m2, fun t ht => ?_⟩
      have htj : T j = false := not_tail m1 hr hj hji
      have hne : j ≠ t := by intro e; rw [e, ht] at htj; cases htj
      rw [getD_set_ne false hne]; exact m3 t ht
     ·exact .inr hM
    have hS1 : S1 w' := by
     rcases hM' with ⟨_, m2, m3⟩ | hM
     ·rcases hC2.2 with ⟨t, h4, h5⟩ | h
      ·rw [m3 t h4] at h5; cases h5
      ·exact m2 _ h
     ·exact hM _ hC2.1
    refine ⟨hC2, ih (listed.setIfInBounds j true) a' w' hM' hfree' (ready_mono hr (Ne.symm hji)) h3.1 hS1 hC2 ?_⟩
    rw [Array.setIfInBounds_comm _ _ hji]
    exact h3.2.2
theorem wpAnyK_pure {i d : Nat} {oi : Oper} {v : Value} {fuel : Nat} {listed : Array Bool} {a : Act} {w : World} (hi : ops[i]? = some oi) (hd : oi.dst = some d) (hTi : T i = false)
 (hs : Region.noSelect ops = true) (hf : Region.free md ops listed i = true) (hr : (Region.ready md ops listed).contains i = true)
 (hQ : ∀ c a w, Q (.panic c) (a.put oi.dst v) w → Q (.panic c) a w) (hy : YieldsIf P ops (fun _ => True) oi v a) (hC : Ck S2 S T listed w)
 (h : wpAnyK P md ops Q S2 S T fuel (listed.setIfInBounds i true) { a with tmps := a.tmps.setIfInBounds d v } w) : wpAnyK P md ops Q S2 S T (fuel + 1) listed a w :=
 wpAnyK_first (S1 := fun _ => True) hi hTi (Region.noSelect_spec hs) hQ fuel listed a w (.inr fun _ _ => trivial) (Region.free_spec hi hf) (by simpa using hr) hy trivial hC (by rw [hd]; exact h)
theorem t_k {P : Program} {ops : Array Oper} {Q : Exit → Act → World → Prop} {md : Region.Mode} {oi : Oper} {fuel : Nat} {listed : Array Bool} {a : Act} {w : World} {S2 S : World → Prop} {T : Nat → Bool} (i d : Nat) (v : Value) (hi : ops[i]? = some oi) (hB : (!T i && t_B md ops listed i d) = true) (hw : Region.wanted oi (yielded ops a.tmps) = true) (hQ : ∀ c a w, Q (.panic c) (a.put oi.dst v) w → Q (.panic c) a w) (hy : ∀ V : World, True → (execOp a.eval oi).run P V = .ok (.value v) V) (hC : Ck S2 S T listed w) (h : wpAnyK P md ops Q S2 S T fuel (listed.setIfInBounds i true) { a with tmps := a.tmps.setIfInBounds d v } w) : wpAnyK P md ops Q S2 S T (fuel + 1) listed a w := by
 simp only [Bool.and_eq_true, Bool.not_eq_true'] at hB
 obtain ⟨h1, h2, h3, h4⟩ := t_B_spec hi hB.2
 exact wpAnyK_pure hi h1 hB.1 h2 h3 h4 hQ (.inl ⟨hw, hy⟩) hC h
theorem wpAnyK_load {i d : Nat} {oi : Oper} {v : Value} {fuel : Nat} {listed : Array Bool} {a : Act} {w : World} (hi : ops[i]? = some oi) (hd : oi.dst = some d) (hTi : T i = false)
 (hs : Region.noSelect ops = true) (hf : Region.free md ops listed i = true) (hr : (Region.ready md ops listed).contains i = true) (hw : tailWaits md ops T i = true) (hn : ((List.range listed.size).all fun t => !T t || !listed.getD t false) = true)
 (hQ : ∀ c a w, Q (.panic c) (a.put oi.dst v) w → Q (.panic c) a w) (hy : YieldsIf P ops S oi v a) (hS : S w) (hS2 : S2 w)
 (h : wpAnyK P md ops Q S2 S T fuel (listed.setIfInBounds i true) { a with tmps := a.tmps.setIfInBounds d v } w) : wpAnyK P md ops Q S2 S T (fuel + 1) listed a w :=
 wpAnyK_first (S1 := S) hi hTi (Region.noSelect_spec hs) hQ fuel listed a w (.inl ⟨hw, fun _ h => h, fun t ht => by
  rcases Nat.lt_or_ge t listed.size with h' | h'
  ·rw [List.all_eq_true] at hn
   have := hn t (List.mem_range.2 h')
   rw [ht] at this
   simpa using this
  ·simp [Array.getElem?_eq_none h']⟩) (Region.free_spec hi hf) (by simpa using hr) hy hS ⟨hS2, .inr hS⟩ (by rw [hd]; exact h)
theorem wpAnyK_keep {i d : Nat} {oi : Oper} {v : Value} {fuel : Nat} {listed : Array Bool} {a : Act} {w : World} (hi : ops[i]? = some oi) (hd : oi.dst = some d) (hTi : T i = false)
 (hs : Region.noSelect ops = true) (hf : Region.free md ops listed i = true) (hr : (Region.ready md ops listed).contains i = true)
 (hQ : ∀ c a w, Q (.panic c) (a.put oi.dst v) w → Q (.panic c) a w) (hy : YieldsIf P ops S2 oi v a) (hC : Ck S2 S T listed w)
 (h : wpAnyK P md ops Q S2 S T fuel (listed.setIfInBounds i true) { a with tmps := a.tmps.setIfInBounds d v } w) : wpAnyK P md ops Q S2 S T (fuel + 1) listed a w :=
 wpAnyK_first (S1 := S2) hi hTi (Region.noSelect_spec hs) hQ fuel listed a w (.inr fun _ h => h) (Region.free_spec hi hf) (by simpa using hr) hy hC.1 hC (by rw [hd]; exact h)
theorem wpAnyK_step {fuel : Nat} {listed : Array Bool} {a : Act} {w : World} (i : Nat) {o : Oper} (ho : ops[i]? = some o) (hr : Region.ready md ops listed = [i])
 (h : ∀ K' : Act → World → Prop, Shut (∀ a w, Ck S2 S T (listed.setIfInBounds i true) w → wpAnyK P md ops Q S2 S T fuel (listed.setIfInBounds i true) a w → K' a w) → if Region.wanted o (yielded ops a.tmps) = true then Oper.wp P o a w K' Q else K' (a.put o.dst undef) w) :
 wpAnyK P md ops Q S2 S T (fuel + 1) listed a w :=
 ⟨fun h0 => (by rw [hr] at h0; cases h0), fun j hj => (by
  rw [hr, List.mem_singleton] at hj; rw [hj]
  exact wpOp_step ho fun K' hK => h K' fun a w h1 h2 => hK a w ⟨h1, h2⟩)⟩
theorem wpAnyK_done {listed : Array Bool} {a : Act} {w : World} (hr : Region.ready md ops listed = []) (h : Q .normal a w) : ∀ fuel, wpAnyK P md ops Q S2 S T fuel listed a w
 | 0 => ⟨hr, h⟩
 | _ + 1 => ⟨fun _ => h, by rw [hr]; simp⟩
theorem wp_region_K {id : Nat} {a : Act} {w : World} (hm : P.follows .mixedOrders = true)
 (h : wpAnyK P .any ops Q S2 S T ops.size (Array.replicate ops.size false) a w.drew) : (Code.region id ops true).wp P Q a w :=
 wp_region_any hm (wpAny_of_K _ _ _ _ h)
theorem wpIn_region_K_round {id n l : Nat} {a : Act} {w : World} (hm : P.follows .mixedOrders = true) (hnd : noDefer ops = true) (hout : ¬ LetsOut Q)
 (h : wpAnyK P .any ops Q S2 S T ops.size (Array.replicate ops.size false) a w.drew) : (Code.region id ops true).wpIn (Fence.wide.inRound l) n P Q a w :=
 wpIn_region_any hm (wpAnyIn_of_wpAny l n (noDefer_spec hnd) hout _ _ _ _ (wpAny_of_K _ _ _ _ h))
end
def OnlyN (Q : Exit → Act → World → Prop) : Exit → Act → World → Prop := fun e a w => e = .normal ∧ Q .normal a w
theorem onlyN_shut {Q : Exit → Act → World → Prop} : ¬ LetsOut (OnlyN Q) := by rintro ⟨a, w, h, _⟩; cases h
theorem onlyN_panic {Q : Exit → Act → World → Prop} {c} {a a' : Act} {w : World} (h : OnlyN Q (.panic c) a' w) : OnlyN Q (.panic c) a w := by cases h.1
theorem wpIn_region_K_in {P : Program} {ops : Array Oper} {Q : Exit → Act → World → Prop} {S2 S : World → Prop} {T : Nat → Bool} {id n l : Nat} {a : Act} {w : World} (hm : P.follows .mixedOrders = true) (hnd : noDefer ops = true)
 (h : wpAnyK P .any ops (OnlyN Q) S2 S T ops.size (Array.replicate ops.size false) a w.drew) : (Code.region id ops true).wpIn (Fence.wide.inRound l) n P Q a w :=
 wpIn_mono (wpIn_region_K_round hm hnd onlyN_shut h) (by rintro e a w ⟨rfl, h⟩; exact h)
theorem wpIn_region_quiet_round {P : Program} {Q : Exit → Act → World → Prop} {id n l : Nat} {a : Act} {w : World} {ops : List Oper} (hm : P.follows .mixedOrders = true) (hB : Region.lexB .any ops.toArray = true) (hnd : noDefer ops.toArray = true)
 (h : wpQuiet P ops.toArray (fun w' => ∃ n, w' = w.drewN n) (fun a' => ∀ w', (∃ n, w' = w.drewN n) → Q .normal a' w') ops a) : (Code.region id ops.toArray true).wpIn (Fence.wide.inRound l) n P Q a w := by
 simp only [Region.lexB, Bool.and_eq_true] at hB
 refine wpIn_mono (Q := OnlyN Q) (wpIn_region_any hm (wpAnyIn_of_wpAny l n (noDefer_spec hnd) onlyN_shut _ _ _ _ (wpAny_of_quiet (C := fun w' => ∃ n, w' = w.drewN n) (Q := fun a' => ∀ w', (∃ n, w' = w.drewN n) → Q .normal a' w') (fun _ w' hw' h => ⟨rfl, h w' hw'⟩) _ _ _ _ ⟨1, rfl⟩ ?_))) (by rintro e a w ⟨rfl, h⟩; exact h)
 have := wpAnyQ_lex (C := fun w' : World => ∃ n, w' = w.drewN n) (md := .any) hB.1 ops 0 (Array.replicate ops.toArray.size false) a (by simp) (by simpa using hB.2) h
 simpa using this
def UpPost (F : Fld) (y : List Int) (i : Int) (base : Nat) (e : Ending) (w' : World) : Prop :=
 if uprightE F y i ≠ 0 then e = .returned (.tuple #[.pointer none, .int .i64 (uprightE F y i)])
 else ∃ gb : Nat, e = .returned (.tuple #[.pointer (some ⟨gb, 0, none⟩), .int .i64 0]) ∧ base ≤ gb ∧ GrAt w' gb (stripsP F (F.par i)) (grP F y (F.par i))
theorem append_int2 {w : World} {base : Nat} {v : Value} {l : List Int} (hown : w.ownsRow base 3 1 v l.length (intsV l)) (x : Int) (hx : l.length ≤ 100000) (hb : base ≤ w.heap.size) :
 ∃ v' w', (Builtin.append_ #[25, 25] 25 #[v, .slice (some ⟨w.heap.size, 0, none⟩) 1 1]).run Tryz.prog (w.alloc (.cells #[.int .i64 x] 3)) = .ok v' w' ∧ w'.ownsRow base 3 1 v' (l ++ [x]).length (intsV (l ++ [x])) ∧ Below base w w' ∧
  (∀ (u : Value) (lu : List Int), w.ownsRow base 3 1 u lu.length (intsV lu) → Apart u v → w'.ownsRow base 3 1 u lu.length (intsV lu) ∧ Apart u v') ∧ (∀ q : Nat, q < w.heap.size → v.ownBlock ≠ some q → w'.heap[q]? = w.heap[q]?) := by
 have own3 := hown.alloc (.cells #[.int .i64 x] 3)
 obtain ⟨i0, hi, hz0, hz1, hz2⟩ := info_parts Tryz.info3'
 have hnews : ∀ j u, [Value.int .i64 x][j]? = some u → (w.alloc (.cells #[.int .i64 x] 3)).cell? ((⟨w.heap.size, 0, none⟩ : Addr).add j) = some u := by
  intro j u hj
  rw [show ((⟨w.heap.size, 0, none⟩ : Addr).add j) = ⟨w.heap.size, 0 + j, none⟩ from by unfold Addr.add; split <;> simp_all]
  rw [cell_of_row _ _ _ _ _ _ (heap_alloc_new w (.cells #[.int .i64 x] 3)), Nat.zero_add]
  simpa using hj
 obtain ⟨v', w', hrun, h2, h3, _, h5⟩ := run_append_own_at (P := Tryz.prog) (w.alloc (.cells #[.int .i64 x] 3)) base 25 25 3 i0 _ 1 8 Tryz.underlying25 hi hz0 hz1 hz2 rfl (by decide) v _ _ own3 ⟨w.heap.size, 0, none⟩ 1 1 [.int .i64 x] rfl hnews (by intro u hu; simp at hu; subst hu; rfl) (by unfold maxLen; omega) (by omega) (by simp; omega)
 refine ⟨v', w', hrun, by simpa [intsV] using h2, ?_, fun u lu hu hap => ⟨(hu.alloc _).kept h3 ?_, fun q hq e => ?_⟩, fun q hq hne => ?_⟩
 ·refine (((Below.refl base w).alloc hb _).grown h3 (by simp; omega) (fun q e => ?_))
  exact (hown.lt q e).1
 ·cases hq : u.ownBlock with
  | none => exact .inl rfl
  | some q => exact .inr (fun e => hap q hq e.symm)
 ·rcases h5 with h5 | h5
  ·rw [h5] at e; exact hap q hq e
  ·rw [h5] at e
   have h6 := (hu.lt q hq).2
   simp only [Option.some.injEq] at e
   have h7 : (w.alloc (.cells #[.int .i64 x] 3)).heap.size = w.heap.size + 1 := by simp
   omega
 ·rw [h3.block q (by simp; omega) (fun e => hne e.symm), Below.heap_alloc _ _ _ hq]
structure USt (w4 W : World) (gb : Nat) (oS : Option Addr) (K capS : Nat) (vW vE : Value) (lw le : List Int) : Prop where
 gr : W.heap[gb]? = some (.cells #[.slice oS K capS, vW, vE] 177 (0,0))
 ow : W.ownsRow (gb + 1) 3 1 vW lw.length (intsV lw)
 oe : W.ownsRow (gb + 1) 3 1 vE le.length (intsV le)
 ap : Apart vW vE
 bl : Below gb w4 W
 sz : gb < W.heap.size
theorem fine_any (v : Int) (w : World) : Calls Tryz.prog 159 #[.int .i64 v] w fun e w' => e = .returned (.bool (inR v 0 1000000)) ∧ w = w' := by
 obtain ⟨r, hr⟩ : ∃ r, inR v 0 1000000 = r := ⟨_, rfl⟩
 have HI := hidE (in_any v 0 1000000 w)
 rw [hr] at HI ⊢
 clear hr
 go_enter Tryz.func159, Tryz.ntmps159
 go_wp2_with fail
 refine HI.out.mono ?_
 rintro e w1 ⟨rfl, rfl⟩
 go_wp2_with fail
 go_ret
 exact ⟨rfl, rfl⟩
set_option maxRecDepth 100000 in
set_option maxHeartbeats 8000000 in
theorem upright_any (w : World) (x : FV) (F : Fld) (i : Int) (a2 : Option Addr) (cap2 : Nat) (y : List Int) (hy : y.length ≤ 9223372036854775807) (h : FldAt w x F) (h2 : IntsAt w a2 y) :
 Calls Tryz.prog 99 #[x.val F, .slice a2 y.length cap2, .int .i64 i] w fun e w' => UpPost F y i w.heap.size e w' ∧ Below w.heap.size w w' := by
 have B0 := hidE (show Below w.heap.size w (w.alloc (.cells (x.arr F) 46)) from (Below.refl _ _).alloc (Nat.le_refl _) _)
 have X0 := hidE (heap_alloc_new w (.cells (x.arr F) 46))
 have l0 : w.heap.size < (w.alloc (.cells (x.arr F) 46)).heap.size := by simp
 have HFI := hidE (fun (W : World) (A : Nat) (hA : A = W.heap.size) (hb : Below w.heap.size w W) => show Calls Tryz.prog 104 #[x.val F, .slice (some ⟨A, 0, none⟩) 1 1] (W.alloc (.cells #[.int .i64 i] 3)) _ by subst hA; exact fielded_any (W.alloc (.cells #[.int .i64 i] 3)) x F (some ⟨W.heap.size, 0, none⟩) 1 [i] (by simp) ((h.below hb).alloc _) (ints_single W i))
 have HPT := hidE (fun (W : World) (hb : Below w.heap.size w W) => pointsE_any W x F (h.below hb))
 have H2 := hidE h2
 have H := hidE h
 by_cases hz : fieldedE F [i] = 0
 ·obtain ⟨hc, n, rfl, hn, hpar⟩ := fielded_one hz
  rw [hz] at HFI
  have hpe : pointsE F = F.points := by unfold pointsE; rw [if_neg (by omega)]
  rw [hpe] at HPT
  have hpn := points_nat hc
  have HVA := hidE (fun (W : World) (hb : Below w.heap.size w W) => valued_any W F.points a2 cap2 y (by omega) hy (H2.out.below hb (Nat.le_refl _)))
  obtain ⟨N, hN⟩ : ∃ N, F.points = N := ⟨_, rfl⟩
  rw [hN] at HPT HVA hpn
  cases hq : valuesB N y with
  | false =>
    have HU := hidE (show uprightE F y (n : Int) = 1 by unfold uprightE; rw [if_neg (by omega), hN, if_pos hq])
    rw [hq] at HVA
    clear hz hpar h hc hn hpe hN hq hpn h2
    unfold FV.val FV.arr at *
    go_enter Tryz.func99, Tryz.ntmps99
    go_wp2_with fail
    refine (HFI.out _ _ (by simp) B0.out).mono ?_
    rintro e w1 ⟨rfl, hb1⟩
    have a1 := B0.out.alloc B0.out.size (.cells #[.int .i64 (n : Int)] 3)
    have B1 := hidE (a1.trans (hb1.mono a1.size))
    have X1 := hidE (blk_below hb1 (Nat.lt_of_lt_of_le l0 (by simp)) ((Below.heap_alloc _ _ _ l0).trans X0.out))
    clear a1
    have l1 := lt_of_block X1.out
    have f0_1 : w1.cell? ⟨w.heap.size, 0, none⟩ = some (.slice x.aS F.sts.length x.cS) := c_e X1.out rfl
    have f1_1 : w1.cell? ⟨w.heap.size, 1, none⟩ = some (.slice x.aL F.lms.length x.cL) := c_e X1.out rfl
    have f2_1 : w1.cell? ⟨w.heap.size, 2, none⟩ = some (.slice x.aP F.prs.length x.cP) := c_e X1.out rfl
    have f3_1 : w1.cell? ⟨w.heap.size, 3, none⟩ = some (.slice x.aV F.vrs.length x.cV) := c_e X1.out rfl
    clear hb1
    go_wp2_with fail
    refine (HPT.out _ B1.out).mono ?_
    rintro e w2 ⟨rfl, hb2⟩
    have B2 := hidE (B1.out.trans (hb2.mono B1.out.size))
    have X2 := hidE (blk_below hb2 l1 X1.out)
    have l2 := lt_of_block X2.out
    have f0_2 : w2.cell? ⟨w.heap.size, 0, none⟩ = some (.slice x.aS F.sts.length x.cS) := c_e X2.out rfl
    have f1_2 : w2.cell? ⟨w.heap.size, 1, none⟩ = some (.slice x.aL F.lms.length x.cL) := c_e X2.out rfl
    have f2_2 : w2.cell? ⟨w.heap.size, 2, none⟩ = some (.slice x.aP F.prs.length x.cP) := c_e X2.out rfl
    have f3_2 : w2.cell? ⟨w.heap.size, 3, none⟩ = some (.slice x.aV F.vrs.length x.cV) := c_e X2.out rfl
    clear hb2 f0_1 f1_1 f2_1 f3_1
    go_wp2_with fail
    refine (HVA.out _ B2.out).mono ?_
    rintro e w3 ⟨rfl, hb3⟩
    have B3 := hidE (B2.out.trans (hb3.mono B2.out.size))
    have X3 := hidE (blk_below hb3 l2 X2.out)
    have l3 := lt_of_block X3.out
    have f0_3 : w3.cell? ⟨w.heap.size, 0, none⟩ = some (.slice x.aS F.sts.length x.cS) := c_e X3.out rfl
    have f1_3 : w3.cell? ⟨w.heap.size, 1, none⟩ = some (.slice x.aL F.lms.length x.cL) := c_e X3.out rfl
    have f2_3 : w3.cell? ⟨w.heap.size, 2, none⟩ = some (.slice x.aP F.prs.length x.cP) := c_e X3.out rfl
    have f3_3 : w3.cell? ⟨w.heap.size, 3, none⟩ = some (.slice x.aV F.vrs.length x.cV) := c_e X3.out rfl
    clear hb3 f0_2 f1_2 f2_2 f3_2
    go_wp2_with fail
    go_ret2
    exact ⟨by unfold UpPost; rw [if_pos (by rw [HU.out]; decide), HU.out]; rfl, B3.out⟩
  | true =>
    rw [hq] at HVA
    have hvb := valuesB_iff.1 (show valuesB (N.toNat : Int) y = true by rw [show (N.toNat : Int) = N by omega]; exact hq)
    have hin : F.prs[n].inside F := check0_inside hc (List.getElem_mem hn)
    obtain ⟨⟨ls1, ls2⟩, ⟨ll1, ll2⟩, lp⟩ := check0_len hc
    have HSTR := hidE (fun (W : World) (hb : Below w.heap.size w W) => strips_any W x F F.prs[n] ls2 ll2 hin (H.out.below hb))
    have HPTS := hidE (fun (k : Nat) (hk : k + 1 < F.sts.length) => strip_pts hin hk)
    have HSG := hidE (fun k (hk : k < (stripsP F F.prs[n]).length) => stripsP_get F F.prs[n] hk)
    obtain ⟨KK, hKK⟩ : ∃ KK, (F.prs[n].est - F.prs[n].wst).toNat = KK := ⟨_, rfl⟩
    have HSL : Hid ((stripsP F F.prs[n]).length = KK) := hidE (by unfold stripsP; rw [stripsTo_len, hKK])
    have hKn : F.prs[n].wst.toNat + KK < F.sts.length := by obtain ⟨_, _, _, _, _⟩ := hin; omega
    have hK0 : 1 ≤ KK := by obtain ⟨_, _, _, _, _⟩ := hin; omega
    have HGL : Hid ((grP F y F.prs[n]).length = KK) := hidE (by rw [grP_len, hKK])
    have HGG := hidE (fun k (hk : k < (grP F y F.prs[n]).length) => grP_get F y F.prs[n] hk)
    obtain ⟨bP, oP, haP, hbP, hcP⟩ := RecsAt.at H.out.pr hn
    have hUW : Hid (uprightE F y (n : Int) = if (grP F y F.prs[n]).all wideB = false ∨ (grP F y F.prs[n]).all wideE = false then 1 else 0) := hidE (by
     unfold uprightE; rw [if_neg (by omega), hN, if_neg (by rw [hq]; simp), hpar])
    have HPAR := hidE hpar
    have c0 := hcP 0 (by omega)
    have c1 := hcP 1 (by omega)
    have c2 := hcP 2 (by omega)
    have c3 := hcP 3 (by omega)
    simp only [Par.cells, List.getElem?_cons_zero, List.getElem?_cons_succ, Nat.add_zero] at c0 c1 c2 c3
    have hni : (n : Int) < F.prs.length := by omega
    have hyl : y.length = N.toNat := by have := hvb.1; omega
    have HYB := hidE hvb.2.2
    have HYL := hidE hyl
    have HNN := hidE hN
    have HAP := hidE haP
    clear hz hpar h hc hpe hN hq hKK hin h2 hvb hcP hyl haP
    unfold FV.val FV.arr at *
    go_enter Tryz.func99, Tryz.ntmps99
    go_wp2_with fail
    refine (HFI.out _ _ (by simp) B0.out).mono ?_
    rintro e w1 ⟨rfl, hb1⟩
    have a1 := B0.out.alloc B0.out.size (.cells #[.int .i64 (n : Int)] 3)
    have B1 := hidE (a1.trans (hb1.mono a1.size))
    have X1 := hidE (blk_below hb1 (Nat.lt_of_lt_of_le l0 (by simp)) ((Below.heap_alloc _ _ _ l0).trans X0.out))
    clear a1
    have l1 := lt_of_block X1.out
    have f0_1 : w1.cell? ⟨w.heap.size, 0, none⟩ = some (.slice x.aS F.sts.length x.cS) := c_e X1.out rfl
    have f1_1 : w1.cell? ⟨w.heap.size, 1, none⟩ = some (.slice x.aL F.lms.length x.cL) := c_e X1.out rfl
    have f2_1 : w1.cell? ⟨w.heap.size, 2, none⟩ = some (.slice x.aP F.prs.length x.cP) := c_e X1.out rfl
    have f3_1 : w1.cell? ⟨w.heap.size, 3, none⟩ = some (.slice x.aV F.vrs.length x.cV) := c_e X1.out rfl
    clear hb1
    go_wp2_with fail
    refine (HPT.out _ B1.out).mono ?_
    rintro e w2 ⟨rfl, hb2⟩
    have B2 := hidE (B1.out.trans (hb2.mono B1.out.size))
    have X2 := hidE (blk_below hb2 l1 X1.out)
    have l2 := lt_of_block X2.out
    have f0_2 : w2.cell? ⟨w.heap.size, 0, none⟩ = some (.slice x.aS F.sts.length x.cS) := c_e X2.out rfl
    have f1_2 : w2.cell? ⟨w.heap.size, 1, none⟩ = some (.slice x.aL F.lms.length x.cL) := c_e X2.out rfl
    have f2_2 : w2.cell? ⟨w.heap.size, 2, none⟩ = some (.slice x.aP F.prs.length x.cP) := c_e X2.out rfl
    have f3_2 : w2.cell? ⟨w.heap.size, 3, none⟩ = some (.slice x.aV F.vrs.length x.cV) := c_e X2.out rfl
    clear hb2 f0_1 f1_1 f2_1 f3_1
    go_wp2_with fail
    refine (HVA.out _ B2.out).mono ?_
    rintro e w3 ⟨rfl, hb3⟩
    have B3 := hidE (B2.out.trans (hb3.mono B2.out.size))
    have X3 := hidE (blk_below hb3 l2 X2.out)
    have l3 := lt_of_block X3.out
    have f0_3 : w3.cell? ⟨w.heap.size, 0, none⟩ = some (.slice x.aS F.sts.length x.cS) := c_e X3.out rfl
    have f1_3 : w3.cell? ⟨w.heap.size, 1, none⟩ = some (.slice x.aL F.lms.length x.cL) := c_e X3.out rfl
    have f2_3 : w3.cell? ⟨w.heap.size, 2, none⟩ = some (.slice x.aP F.prs.length x.cP) := c_e X3.out rfl
    have f3_3 : w3.cell? ⟨w.heap.size, 3, none⟩ = some (.slice x.aV F.vrs.length x.cV) := c_e X3.out rfl
    clear hb3 f0_2 f1_2 f2_2 f3_2
    have C := hidE (show w.cell? ⟨bP, oP + n * 4, none⟩ = some (.string F.prs[n].name) ∧ w.cell? ⟨bP, oP + n * 4 + 1, none⟩ = some (.int .i64 F.prs[n].south) ∧ w.cell? ⟨bP, oP + n * 4 + 2, none⟩ = some (.int .i64 F.prs[n].wst) ∧ w.cell? ⟨bP, oP + n * 4 + 3, none⟩ = some (.int .i64 F.prs[n].est) from ⟨c0, c1, c2, c3⟩)
    clear c0 c1 c2 c3
    obtain ⟨c0, c1, c2, c3⟩ := C.out
    rw [← B3.out.cell (by exact hbP)] at c0 c1 c2 c3
    have haP := HAP.out
    rw [haP] at f2_3
    go_upto_region 6 with fail
    clear haP
    refine wp_region_F (S := fun V => V.cell? ⟨w.heap.size, 0, none⟩ = some (.slice x.aS F.sts.length x.cS) ∧ V.cell? ⟨w.heap.size, 1, none⟩ = some (.slice x.aL F.lms.length x.cL) ∧ V.cell? ⟨w.heap.size, 2, none⟩ = some (.slice (some ⟨bP, oP, none⟩) F.prs.length x.cP) ∧ V.cell? ⟨w.heap.size, 3, none⟩ = some (.slice x.aV F.vrs.length x.cV) ∧
     V.cell? ⟨bP, oP + n * 4, none⟩ = some (.string F.prs[n].name) ∧ V.cell? ⟨bP, oP + n * 4 + 1, none⟩ = some (.int .i64 F.prs[n].south) ∧ V.cell? ⟨bP, oP + n * 4 + 2, none⟩ = some (.int .i64 F.prs[n].wst) ∧ V.cell? ⟨bP, oP + n * 4 + 3, none⟩ = some (.int .i64 F.prs[n].est)) (last := 100) (by kernel_rfl) ?_
    have hS0 := (show (fun V : World => V.cell? ⟨w.heap.size, 0, none⟩ = some (.slice x.aS F.sts.length x.cS) ∧ V.cell? ⟨w.heap.size, 1, none⟩ = some (.slice x.aL F.lms.length x.cL) ∧ V.cell? ⟨w.heap.size, 2, none⟩ = some (.slice (some ⟨bP, oP, none⟩) F.prs.length x.cP) ∧ V.cell? ⟨w.heap.size, 3, none⟩ = some (.slice x.aV F.vrs.length x.cV) ∧
     V.cell? ⟨bP, oP + n * 4, none⟩ = some (.string F.prs[n].name) ∧ V.cell? ⟨bP, oP + n * 4 + 1, none⟩ = some (.int .i64 F.prs[n].south) ∧ V.cell? ⟨bP, oP + n * 4 + 2, none⟩ = some (.int .i64 F.prs[n].wst) ∧ V.cell? ⟨bP, oP + n * 4 + 3, none⟩ = some (.int .i64 F.prs[n].est)) w3.drew from ⟨f0_3, f1_3, f2_3, f3_3, c0, c1, c2, c3⟩)
    refine t_n 0 25 (.agg #[.slice x.aS F.sts.length x.cS, .slice x.aL F.lms.length x.cL, .slice (some ⟨bP, oP, none⟩) F.prs.length x.cP, .slice x.aV F.vrs.length x.cV]) rfl (by kernel_rfl) rfl (fun _ _ _ h => h) (fun V hV => ?_) hS0 ?_
    ·obtain ⟨r0, r1, r2, r3, r4, r5, r6, r7⟩ := hV
     simp [go_sem, execOp, r0, r1, r2, r3]
    try simp only [s_a, s_b, s_c]
    refine t_n 1 26 (.pointer (some ⟨w.heap.size, 2, none⟩)) rfl (by kernel_rfl) rfl (fun _ _ _ h => h) (fun V hV => ?_) hS0 ?_
    ·obtain ⟨r0, r1, r2, r3, r4, r5, r6, r7⟩ := hV
     simp [go_sem, execOp]
    try simp only [s_a, s_b, s_c]
    refine t_n 2 27 (.slice (some ⟨bP, oP, none⟩) F.prs.length x.cP) rfl (by kernel_rfl) rfl (fun _ _ _ h => h) (fun V hV => ?_) hS0 ?_
    ·obtain ⟨r0, r1, r2, r3, r4, r5, r6, r7⟩ := hV
     simp [go_sem, execOp, r2]
    try simp only [s_a, s_b, s_c]
    refine t_n 3 28 (.int .i64 (n : Int)) rfl (by kernel_rfl) rfl (fun _ _ _ h => h) (fun V hV => ?_) hS0 ?_
    ·obtain ⟨r0, r1, r2, r3, r4, r5, r6, r7⟩ := hV
     simp [go_sem, execOp]
    try simp only [s_a, s_b, s_c]
    refine t_n 4 29 (.pointer (some ⟨bP, oP + n * 4, none⟩)) rfl (by kernel_rfl) rfl (fun _ _ _ h => h) (fun V hV => ?_) hS0 ?_
    ·obtain ⟨r0, r1, r2, r3, r4, r5, r6, r7⟩ := hV
     simp [go_sem, execOp, hni]
    try simp only [s_a, s_b, s_c]
    refine t_n 5 30 (.agg #[.string F.prs[n].name, .int .i64 F.prs[n].south, .int .i64 F.prs[n].wst, .int .i64 F.prs[n].est]) rfl (by kernel_rfl) rfl (fun _ _ _ h => h) (fun V hV => ?_) hS0 ?_
    ·obtain ⟨r0, r1, r2, r3, r4, r5, r6, r7⟩ := hV
     simp [go_sem, execOp, r4, r5, r6, r7]
    try simp only [s_a, s_b, s_c]
    refine wpAnyF_step 6 rfl (by kernel_rfl) (fun K hK => ?_)
    go_simp
    go_at_call 158
    have hst := HSTR.out w3.drew B3.out.drew
    unfold Par.val at hst
    rw [HAP.out] at hst
    refine hst.mono ?_
    rintro e w4 ⟨v, rfl, hown, hb4⟩
    clear hst
    go_wp2_with fail
    have BB4 := hidE (B3.out.trans ((show Below w3.heap.size w3 w4 from (Below.refl _ _).drew.trans hb4).mono B3.out.size))
    have l4 : bP < w3.heap.size := Nat.lt_of_lt_of_le hbP B3.out.size
    refine hK.out _ _ (.inr ⟨(hb4.cell (p := ⟨w.heap.size, 0, none⟩) l3).trans f0_3, (hb4.cell (p := ⟨w.heap.size, 1, none⟩) l3).trans f1_3, (hb4.cell (p := ⟨w.heap.size, 2, none⟩) l3).trans f2_3, (hb4.cell (p := ⟨w.heap.size, 3, none⟩) l3).trans f3_3, (hb4.cell (p := ⟨bP, oP + n * 4, none⟩) l4).trans c0, (hb4.cell (p := ⟨bP, oP + n * 4 + 1, none⟩) l4).trans c1, (hb4.cell (p := ⟨bP, oP + n * 4 + 2, none⟩) l4).trans c2, (hb4.cell (p := ⟨bP, oP + n * 4 + 3, none⟩) l4).trans c3⟩) ?_
    clear hK K
    try simp only [Act.put, s_a, s_b, s_c]
    obtain ⟨oS, capS, rfl, hrec, _, _, hoS⟩ := recsAt_of_owns (f := Str.cells) (k := 6) (fun _ => rfl) hown
    rw [HSL.out]
    refine wpAnyF_step 7 rfl (by kernel_rfl) (fun K hK => ?_)
    go_simp
    have hS4 := (show (fun V : World => V.cell? ⟨w.heap.size, 0, none⟩ = some (.slice x.aS F.sts.length x.cS) ∧ V.cell? ⟨w.heap.size, 1, none⟩ = some (.slice x.aL F.lms.length x.cL) ∧ V.cell? ⟨w.heap.size, 2, none⟩ = some (.slice (some ⟨bP, oP, none⟩) F.prs.length x.cP) ∧ V.cell? ⟨w.heap.size, 3, none⟩ = some (.slice x.aV F.vrs.length x.cV) ∧
     V.cell? ⟨bP, oP + n * 4, none⟩ = some (.string F.prs[n].name) ∧ V.cell? ⟨bP, oP + n * 4 + 1, none⟩ = some (.int .i64 F.prs[n].south) ∧ V.cell? ⟨bP, oP + n * 4 + 2, none⟩ = some (.int .i64 F.prs[n].wst) ∧ V.cell? ⟨bP, oP + n * 4 + 3, none⟩ = some (.int .i64 F.prs[n].est)) w4 from ⟨(hb4.cell (p := ⟨w.heap.size, 0, none⟩) l3).trans f0_3, (hb4.cell (p := ⟨w.heap.size, 1, none⟩) l3).trans f1_3, (hb4.cell (p := ⟨w.heap.size, 2, none⟩) l3).trans f2_3, (hb4.cell (p := ⟨w.heap.size, 3, none⟩) l3).trans f3_3, (hb4.cell (p := ⟨bP, oP + n * 4, none⟩) l4).trans c0, (hb4.cell (p := ⟨bP, oP + n * 4 + 1, none⟩) l4).trans c1, (hb4.cell (p := ⟨bP, oP + n * 4 + 2, none⟩) l4).trans c2, (hb4.cell (p := ⟨bP, oP + n * 4 + 3, none⟩) l4).trans c3⟩)
    refine hK.out _ _ (.inr hS4) ?_
    clear hK K
    try simp only [Act.put, s_a, s_b, s_c]
    refine wpAnyF_step 8 rfl (by kernel_rfl) (fun K hK => ?_)
    go_simp
    obtain ⟨gb, hgb⟩ : ∃ gb, w4.heap.size = gb := ⟨_, rfl⟩
    obtain ⟨W5, hW5⟩ : ∃ W5, W5 = w4.alloc (.cells #[.slice oS KK capS, .slice none 0 0, .slice none 0 0] 177) := ⟨_, rfl⟩
    rw [← hW5]
    have b45 : Below gb w4 W5 := by rw [hW5, ← hgb]; exact (Below.refl _ _).alloc (Nat.le_refl _) _
    have x5 : W5.heap[gb]? = some (.cells #[.slice oS KK capS, .slice none 0 0, .slice none 0 0] 177 (0,0)) := by rw [hW5, ← hgb]; exact heap_alloc_new _ _
    clear hW5
    have l34 := hb4.size
    have hl34 : w3.heap.size ≤ w4.heap.size := l34
    have hS5 := (show (fun V : World => V.cell? ⟨w.heap.size, 0, none⟩ = some (.slice x.aS F.sts.length x.cS) ∧ V.cell? ⟨w.heap.size, 1, none⟩ = some (.slice x.aL F.lms.length x.cL) ∧ V.cell? ⟨w.heap.size, 2, none⟩ = some (.slice (some ⟨bP, oP, none⟩) F.prs.length x.cP) ∧ V.cell? ⟨w.heap.size, 3, none⟩ = some (.slice x.aV F.vrs.length x.cV) ∧
     V.cell? ⟨bP, oP + n * 4, none⟩ = some (.string F.prs[n].name) ∧ V.cell? ⟨bP, oP + n * 4 + 1, none⟩ = some (.int .i64 F.prs[n].south) ∧ V.cell? ⟨bP, oP + n * 4 + 2, none⟩ = some (.int .i64 F.prs[n].wst) ∧ V.cell? ⟨bP, oP + n * 4 + 3, none⟩ = some (.int .i64 F.prs[n].est)) W5 from ⟨(b45.cell (p := ⟨w.heap.size, 0, none⟩) (by show w.heap.size < gb; omega)).trans hS4.1, (b45.cell (p := ⟨w.heap.size, 1, none⟩) (by show w.heap.size < gb; omega)).trans hS4.2.1, (b45.cell (p := ⟨w.heap.size, 2, none⟩) (by show w.heap.size < gb; omega)).trans hS4.2.2.1, (b45.cell (p := ⟨w.heap.size, 3, none⟩) (by show w.heap.size < gb; omega)).trans hS4.2.2.2.1,
      (b45.cell (p := ⟨bP, oP + n * 4, none⟩) (by show bP < gb; omega)).trans hS4.2.2.2.2.1, (b45.cell (p := ⟨bP, oP + n * 4 + 1, none⟩) (by show bP < gb; omega)).trans hS4.2.2.2.2.2.1, (b45.cell (p := ⟨bP, oP + n * 4 + 2, none⟩) (by show bP < gb; omega)).trans hS4.2.2.2.2.2.2.1, (b45.cell (p := ⟨bP, oP + n * 4 + 3, none⟩) (by show bP < gb; omega)).trans hS4.2.2.2.2.2.2.2⟩)
    refine hK.out _ _ (.inr hS5) ?_
    clear hK K
    try simp only [Act.put, s_a, s_b, s_c]
    refine wpAnyF_step 9 rfl (by kernel_rfl) (fun K hK => ?_)
    go_simp
    refine hK.out _ _ (.inr hS5) ?_
    clear hK K
    try simp only [Act.put, s_a, s_b, s_c]
    refine wpAnyF_done (by kernel_rfl) ?_ _
    obtain ⟨SS, hSS⟩ : ∃ SS, stripsP F F.prs[n] = SS := ⟨_, rfl⟩
    obtain ⟨GG, hGG⟩ : ∃ GG, grP F y F.prs[n] = GG := ⟨_, rfl⟩
    rw [hSS] at hrec HSL HSG
    rw [hGG] at HGL HGG hUW
    have hrec4 := hidE hrec
    have hBBs := BB4.out.size
    have hst5 : USt w4 W5 gb oS KK capS (.slice none 0 0) (.slice none 0 0) [] [] := ⟨x5, World.ownsRow_nil _ _ _ _, World.ownsRow_nil _ _ _ _, (fun q h => (by cases h)), b45, lt_of_block x5⟩
    have ST5 := hidE hst5
    have HSS := hidE hSS
    have HGGe := hidE hGG
    have u5 : W5.cell? ⟨gb, 0, none⟩ = some (.slice oS KK capS) := c_e x5 rfl
    clear hst5 b45 x5 hS4 hS5 hS0 f0_3 f1_3 f2_3 f3_3 c0 c1 c2 c3 hown hrec hb4 hSS hGG l34
    go_wp2_with fail
    go_loopw [39] (fun i wr => ∃ (k : Nat) (vW vE : Value), k ≤ KK ∧ i = .int .i64 (k : Int) ∧ Hid (USt w4 wr gb oS KK capS vW vE ((GG.take k).map Gs.w) ((GG.take k).map Gs.e))) (fun i _ => KK - (intOf i).toNat)
    case atStart => exact ⟨0, _, _, Nat.zero_le _, rfl, ST5⟩
    case round =>
     obtain ⟨k, vW, vE, hk, rfl, hst⟩ := hrel
     by_cases hlt : k < KK
     ·have hltS : k < SS.length := by rw [HSL.out]; exact hlt
      have hltG : k < GG.length := by rw [HGL.out]; exact hlt
      obtain ⟨q1, q2, q3, q4⟩ := HPTS.out (F.prs[n].wst.toNat + k) (by omega)
      have hsg := HSG.out k hltS
      have hgg := HGG.out k hltG
      obtain ⟨bS, offS, rfl, hbS, hcS⟩ := (hrec4.out.below (B := w4.heap.size) (by rw [hgb]; exact hst.out.bl) (Nat.le_refl _)).at hltS
      rw [hsg] at hcS
      have hyl9 := HYL.out
      have hN9 := HNN.out
      have hyn : y ≠ [] := by intro e; rw [e] at hyl9; simp at hyl9; omega
      rcases H2.out with hnil | ⟨bY, oY, rfl, hbY, hcY⟩
      ·exact absurd hnil hyn
      obtain ⟨T, hT⟩ : ∃ T, stripP F F.prs[n] (F.prs[n].wst.toNat + k) = T := ⟨_, rfl⟩
      rw [hT] at q1 q2 q3 q4 hcS hgg
      obtain ⟨tw, te, so, no, fso, fno⟩ := T
      simp only at q1 q2 q3 q4
      obtain ⟨so, rfl⟩ := Int.eq_ofNat_of_zero_le q1.1
      obtain ⟨no, rfl⟩ := Int.eq_ofNat_of_zero_le q2.1
      obtain ⟨fso, rfl⟩ := Int.eq_ofNat_of_zero_le q3.1
      obtain ⟨fno, rfl⟩ := Int.eq_ofNat_of_zero_le q4.1
      have jso : so < y.length := by omega
      have jno : no < y.length := by omega
      have jfso : fso < y.length := by omega
      have jfno : fno < y.length := by omega
      have iso : (so : Int) < y.length := by omega
      have ino : (no : Int) < y.length := by omega
      have ifso : (fso : Int) < y.length := by omega
      have ifno : (fno : Int) < y.length := by omega
      have hby4 : bY < gb := by have := BB4.out.size; omega
      have hcy : ∀ q (hq : q < y.length), wr.cell? ⟨bY, oY + q, none⟩ = some (.int .i64 y[q]) := fun q hq => (hst.out.bl.cell (p := ⟨bY, oY + q, none⟩) hby4).trans ((BB4.out.cell (p := ⟨bY, oY + q, none⟩) hbY).trans (hcY q hq))
      have y1 := hcy no jno
      have y2 := hcy so jso
      have y3 := hcy fno jfno
      have y4 := hcy fso jfso
      have bd1 := HYB.out _ (List.getElem_mem jno)
      have bd2 := HYB.out _ (List.getElem_mem jso)
      have bd3 := HYB.out _ (List.getElem_mem jfno)
      have bd4 := HYB.out _ (List.getElem_mem jfso)
      have hgy : ∀ q (hq : q < y.length), getI y (q : Int) = y[q] := fun q hq => by show y.getD q 0 = _; rw [List.getD_eq_getElem?_getD, List.getElem?_eq_getElem hq]; rfl
      have hgw : GG[k].w = y[no] - y[so] := by rw [hgg]; show getI y (no : Int) - getI y (so : Int) = _; rw [hgy no jno, hgy so jso]
      have hge : GG[k].e = y[fno] - y[fso] := by rw [hgg]; show getI y (fno : Int) - getI y (fso : Int) = _; rw [hgy fno jfno, hgy fso jfso]
      have htw : (GG.take (k + 1)).map Gs.w = (GG.take k).map Gs.w ++ [y[no] - y[so]] := by rw [List.take_succ_eq_append_getElem hltG, List.map_append, List.map_cons, List.map_nil, hgw]
      have hte : (GG.take (k + 1)).map Gs.e = (GG.take k).map Gs.e ++ [y[fno] - y[fso]] := by rw [List.take_succ_eq_append_getElem hltG, List.map_append, List.map_cons, List.map_nil, hge]
      obtain ⟨z1, hz1⟩ : ∃ z, y[no] = z := ⟨_, rfl⟩
      obtain ⟨z2, hz2⟩ : ∃ z, y[so] = z := ⟨_, rfl⟩
      obtain ⟨z3, hz3⟩ : ∃ z, y[fno] = z := ⟨_, rfl⟩
      obtain ⟨z4, hz4⟩ : ∃ z, y[fso] = z := ⟨_, rfl⟩
      rw [hz1] at y1 bd1 htw
      rw [hz2] at y2 bd2 htw
      rw [hz3] at y3 bd3 hte
      rw [hz4] at y4 bd4 hte
      have wd1 : IntKind.i64.wrap (z1 - z2) = z1 - z2 := IntWalk.i64_in _ (by omega)
      have wd2 : IntKind.i64.wrap (z3 - z4) = z3 - z4 := IntWalk.i64_in _ (by omega)
      have s0 := hcS 0 (by omega)
      have s1 := hcS 1 (by omega)
      have s2 := hcS 2 (by omega)
      have s3 := hcS 3 (by omega)
      have s4 := hcS 4 (by omega)
      have s5 := hcS 5 (by omega)
      simp only [Nat.add_zero, Str.cells, List.getElem?_cons_zero, List.getElem?_cons_succ] at s0 s1 s2 s3 s4 s5
      obtain ⟨A, hA⟩ : ∃ A, wr.heap.size = A := ⟨_, rfl⟩
      obtain ⟨W1, hW1⟩ : ∃ W1, W1 = wr.alloc (.cells #[.int .i64 tw, .int .i64 te, .int .i64 (so : Int), .int .i64 (no : Int), .int .i64 (fso : Int), .int .i64 (fno : Int)] 179) := ⟨_, rfl⟩
      have x1 : W1.heap[A]? = some (.cells #[.int .i64 tw, .int .i64 te, .int .i64 (so : Int), .int .i64 (no : Int), .int .i64 (fso : Int), .int .i64 (fno : Int)] 179 (0,0)) := by rw [hW1, ← hA]; exact heap_alloc_new _ _
      have b1 : Below A wr W1 := by rw [hW1, ← hA]; exact (Below.refl _ _).alloc (Nat.le_refl _) _
      have hzA : W1.heap.size = A + 1 := by rw [hW1, ← hA]; simp
      have hgA : gb < A := by rw [← hA]; exact hst.out.sz
      have grw1 := blk_below b1 hgA hst.out.gr
      have u10 : W1.cell? ⟨gb, 1, none⟩ = some vW := c_e grw1 rfl
      have u11 : W1.cell? ⟨A, 3, none⟩ = some (.int .i64 (no : Int)) := c_e x1 rfl
      have u12 : W1.cell? ⟨A, 2, none⟩ = some (.int .i64 (so : Int)) := c_e x1 rfl
      have u13 : W1.cell? ⟨bY, oY + no, none⟩ = some (.int .i64 z1) := (b1.cell (p := ⟨bY, oY + no, none⟩) (by show bY < A; omega)).trans y1
      have u14 : W1.cell? ⟨bY, oY + so, none⟩ = some (.int .i64 z2) := (b1.cell (p := ⟨bY, oY + so, none⟩) (by show bY < A; omega)).trans y2
      have v13 : W1.cell? ⟨bY, oY + fno, none⟩ = some (.int .i64 z3) := (b1.cell (p := ⟨bY, oY + fno, none⟩) (by show bY < A; omega)).trans y3
      have v14 : W1.cell? ⟨bY, oY + fso, none⟩ = some (.int .i64 z4) := (b1.cell (p := ⟨bY, oY + fso, none⟩) (by show bY < A; omega)).trans y4
      have ow1 : W1.ownsRow (gb + 1) 3 1 vW ((GG.take k).map Gs.w).length (intsV ((GG.take k).map Gs.w)) := by rw [hW1]; exact hst.out.ow.alloc _
      have oe1 : W1.ownsRow (gb + 1) 3 1 vE ((GG.take k).map Gs.e).length (intsV ((GG.take k).map Gs.e)) := by rw [hW1]; exact hst.out.oe.alloc _
      have hnA1 : vW.ownBlock ≠ some A := fun e => by have := (hst.out.ow.lt A e).2; omega
      have hnA2 : vE.ownBlock ≠ some A := fun e => by have := (hst.out.oe.lt A e).2; omega
      have lg1 : gb < W1.heap.size := by omega
      have lA1 : A < W1.heap.size := by omega
      have lY1 : bY < W1.heap.size := by omega
      have B41 := hidE (hst.out.bl.trans (b1.mono (by omega)))
      have hap := hst.out.ap
      have HTW := hidE htw
      have HTE := hidE hte
      have X1 := hidE x1
      have HA := hidE hA
      have HW1 := hidE hW1
      clear hst hcS hgg htw hte hcy hcY hgy hgw hge hz1 hz2 hz3 hz4 y1 y2 y3 y4 b1 x1 hT hyn hsg hyl9 hN9 hzA
      go_upto_region 10 with fail
      first | rw [← hW1] | skip
      clear hW1 hA
      go_upto_region 10 with fail
      refine wp_region_K (S2 := fun _ => True) (S := fun V => V.cell? ⟨gb, 1, none⟩ = some vW ∧ V.cell? ⟨A, 3, none⟩ = some (.int .i64 (no : Int)) ∧ V.cell? ⟨A, 2, none⟩ = some (.int .i64 (so : Int)) ∧ V.cell? ⟨bY, oY + no, none⟩ = some (.int .i64 z1) ∧ V.cell? ⟨bY, oY + so, none⟩ = some (.int .i64 z2)) (T := fun t => t == 20) (by kernel_rfl) ?_
      have hS0 : W1.drew.cell? ⟨gb, 1, none⟩ = some vW ∧ W1.drew.cell? ⟨A, 3, none⟩ = some (.int .i64 (no : Int)) ∧ W1.drew.cell? ⟨A, 2, none⟩ = some (.int .i64 (so : Int)) ∧ W1.drew.cell? ⟨bY, oY + no, none⟩ = some (.int .i64 z1) ∧ W1.drew.cell? ⟨bY, oY + so, none⟩ = some (.int .i64 z2) := ⟨u10, u11, u12, u13, u14⟩
      refine t_k 0 43 (.pointer (some ⟨gb, 0, none⟩)) rfl (by kernel_rfl) rfl (fun _ _ _ h => h) (fun V hV => ?_) ⟨trivial, .inr hS0⟩ ?_
      ·simp [go_sem, execOp]
      try simp only [s_a, s_b, s_c]
      refine t_k 1 44 (.pointer (some ⟨gb, 0, none⟩)) rfl (by kernel_rfl) rfl (fun _ _ _ h => h) (fun V hV => ?_) ⟨trivial, .inr hS0⟩ ?_
      ·simp [go_sem, execOp]
      try simp only [s_a, s_b, s_c]
      refine t_k 2 45 (.pointer (some ⟨gb, 0, none⟩)) rfl (by kernel_rfl) rfl (fun _ _ _ h => h) (fun V hV => ?_) ⟨trivial, .inr hS0⟩ ?_
      ·simp [go_sem, execOp]
      try simp only [s_a, s_b, s_c]
      refine t_k 3 46 (.pointer (some ⟨gb, 1, none⟩)) rfl (by kernel_rfl) rfl (fun _ _ _ h => h) (fun V hV => ?_) ⟨trivial, .inr hS0⟩ ?_
      ·simp [go_sem, execOp]
      try simp only [s_a, s_b, s_c]
      refine wpAnyK_load (i := 4) (d := 47) (v := vW) rfl rfl rfl (by kernel_rfl) (by kernel_rfl) (by kernel_rfl) (by kernel_rfl) (by kernel_rfl) (fun _ _ _ h => h) (.inl ⟨rfl, fun V hV => ?_⟩) hS0 trivial ?_
      ·obtain ⟨r0, r1, r2, r3, r4⟩ := hV
       simp [go_sem, execOp, r0]
      try simp only [s_a, s_b, s_c]
      refine t_k 5 48 (.slice (some ⟨bY, oY, none⟩) y.length cap2) rfl (by kernel_rfl) rfl (fun _ _ _ h => h) (fun V hV => ?_) ⟨trivial, .inr hS0⟩ ?_
      ·simp [go_sem, execOp]
      try simp only [s_a, s_b, s_c]
      refine t_k 6 49 (.pointer (some ⟨A, 3, none⟩)) rfl (by kernel_rfl) rfl (fun _ _ _ h => h) (fun V hV => ?_) ⟨trivial, .inr hS0⟩ ?_
      ·simp [go_sem, execOp]
      try simp only [s_a, s_b, s_c]
      refine wpAnyK_load (i := 7) (d := 50) (v := .int .i64 (no : Int)) rfl rfl rfl (by kernel_rfl) (by kernel_rfl) (by kernel_rfl) (by kernel_rfl) (by kernel_rfl) (fun _ _ _ h => h) (.inl ⟨rfl, fun V hV => ?_⟩) hS0 trivial ?_
      ·obtain ⟨r0, r1, r2, r3, r4⟩ := hV
       simp [go_sem, execOp, r1]
      try simp only [s_a, s_b, s_c]
      refine t_k 8 51 (.pointer (some ⟨bY, oY + no, none⟩)) rfl (by kernel_rfl) rfl (fun _ _ _ h => h) (fun V hV => ?_) ⟨trivial, .inr hS0⟩ ?_
      ·simp [go_sem, execOp, ino]
      try simp only [s_a, s_b, s_c]
      refine wpAnyK_load (i := 9) (d := 52) (v := .int .i64 z1) rfl rfl rfl (by kernel_rfl) (by kernel_rfl) (by kernel_rfl) (by kernel_rfl) (by kernel_rfl) (fun _ _ _ h => h) (.inl ⟨rfl, fun V hV => ?_⟩) hS0 trivial ?_
      ·obtain ⟨r0, r1, r2, r3, r4⟩ := hV
       simp [go_sem, execOp, r3]
      try simp only [s_a, s_b, s_c]
      refine t_k 10 53 (.slice (some ⟨bY, oY, none⟩) y.length cap2) rfl (by kernel_rfl) rfl (fun _ _ _ h => h) (fun V hV => ?_) ⟨trivial, .inr hS0⟩ ?_
      ·simp [go_sem, execOp]
      try simp only [s_a, s_b, s_c]
      refine t_k 11 54 (.pointer (some ⟨A, 2, none⟩)) rfl (by kernel_rfl) rfl (fun _ _ _ h => h) (fun V hV => ?_) ⟨trivial, .inr hS0⟩ ?_
      ·simp [go_sem, execOp]
      try simp only [s_a, s_b, s_c]
      refine wpAnyK_load (i := 12) (d := 55) (v := .int .i64 (so : Int)) rfl rfl rfl (by kernel_rfl) (by kernel_rfl) (by kernel_rfl) (by kernel_rfl) (by kernel_rfl) (fun _ _ _ h => h) (.inl ⟨rfl, fun V hV => ?_⟩) hS0 trivial ?_
      ·obtain ⟨r0, r1, r2, r3, r4⟩ := hV
       simp [go_sem, execOp, r2]
      try simp only [s_a, s_b, s_c]
      refine t_k 13 56 (.pointer (some ⟨bY, oY + so, none⟩)) rfl (by kernel_rfl) rfl (fun _ _ _ h => h) (fun V hV => ?_) ⟨trivial, .inr hS0⟩ ?_
      ·simp [go_sem, execOp, iso]
      try simp only [s_a, s_b, s_c]
      refine wpAnyK_load (i := 14) (d := 57) (v := .int .i64 z2) rfl rfl rfl (by kernel_rfl) (by kernel_rfl) (by kernel_rfl) (by kernel_rfl) (by kernel_rfl) (fun _ _ _ h => h) (.inl ⟨rfl, fun V hV => ?_⟩) hS0 trivial ?_
      ·obtain ⟨r0, r1, r2, r3, r4⟩ := hV
       simp [go_sem, execOp, r4]
      try simp only [s_a, s_b, s_c]
      refine t_k 15 58 (.int .i64 (z1 - z2)) rfl (by kernel_rfl) rfl (fun _ _ _ h => h) (fun V hV => ?_) ⟨trivial, .inr hS0⟩ ?_
      ·simp [go_sem, execOp, wd1]
      try simp only [s_a, s_b, s_c]
      obtain ⟨vn1, wp1, hrun, how, hbw, hkeep, hblk⟩ := append_int2 (w := W1.drew) (base := gb + 1) (v := vW) (l := (GG.take k).map Gs.w) ow1.drew (z1 - z2) (by rw [List.length_map, List.length_take]; omega) (by show gb + 1 ≤ W1.heap.size; omega)
      obtain ⟨hoth, hapt⟩ := hkeep vE ((GG.take k).map Gs.e) oe1.drew hap.symm
      have hngb : (vW : Value).ownBlock ≠ some gb := fun e => by have := (ow1.lt gb e).1; omega
      have hnbY : (vW : Value).ownBlock ≠ some bY := fun e => by have := (ow1.lt bY e).1; omega
      have kq : ∀ (q o : Nat) (z : Value), q < W1.heap.size → (vW : Value).ownBlock ≠ some q → W1.cell? ⟨q, o, none⟩ = some z → wp1.cell? ⟨q, o, none⟩ = some z := fun q o z hq hne hz => (World.cell?_of_block (w := W1.drew) (a := ⟨q, o, none⟩) (hblk q hq hne)).trans hz
      refine wpAnyK_step 16 rfl (by kernel_rfl) (fun K hK => ?_)
      go_simp
      have bx : Below W1.heap.size W1 (W1.alloc (.cells #[.int .i64 (z1 - z2)] 3)).drew := ((Below.refl _ _).alloc (Nat.le_refl _) _).drew
      refine hK.out _ _ ⟨trivial, .inr ⟨(bx.cell (p := ⟨gb, 1, none⟩) lg1).trans u10, (bx.cell (p := ⟨A, 3, none⟩) lA1).trans u11, (bx.cell (p := ⟨A, 2, none⟩) lA1).trans u12, (bx.cell (p := ⟨bY, oY + no, none⟩) lY1).trans u13, (bx.cell (p := ⟨bY, oY + so, none⟩) lY1).trans u14⟩⟩ ?_
      clear hK K bx
      try simp only [Act.put, s_a, s_b, s_c]
      refine wpAnyK_step 17 rfl (by kernel_rfl) (fun K hK => ?_)
      refine step_op_append rfl (s := .tmp 47) (x := .tmp 59) (t := 25) rfl rfl rfl hrun ?_
      have hS1 : wp1.cell? ⟨gb, 1, none⟩ = some vW ∧ wp1.cell? ⟨A, 3, none⟩ = some (.int .i64 (no : Int)) ∧ wp1.cell? ⟨A, 2, none⟩ = some (.int .i64 (so : Int)) ∧ wp1.cell? ⟨bY, oY + no, none⟩ = some (.int .i64 z1) ∧ wp1.cell? ⟨bY, oY + so, none⟩ = some (.int .i64 z2) := ⟨kq _ _ _ lg1 hngb u10, kq _ _ _ lA1 hnA1 u11, kq _ _ _ lA1 hnA1 u12, kq _ _ _ lY1 hnbY u13, kq _ _ _ lY1 hnbY u14⟩
      refine hK.out _ _ ⟨trivial, .inr hS1⟩ ?_
      clear hK K
      try simp only [Act.put, List.setIfInBounds_toArray]
      have gr1 : wp1.heap[gb]? = some (.cells #[.slice (some ⟨bS, offS, none⟩) KK capS, vW, vE] 177 (0,0)) := (hblk gb lg1 hngb).trans grw1
      have gf1 : wp1.frozen? ⟨gb, 1, none⟩ = false := frozen_of_row _ _ _ _ _ gr1
      have gc1 := hS1.1
      refine t_k 18 61 (.pointer (some ⟨gb, 0, none⟩)) rfl (by kernel_rfl) rfl (fun _ _ _ h => h) (fun V hV => ?_) ⟨trivial, .inr hS1⟩ ?_
      ·simp [go_sem, execOp]
      try simp only [s_a, s_b, s_c]
      refine t_k 19 62 (.pointer (some ⟨gb, 1, none⟩)) rfl (by kernel_rfl) rfl (fun _ _ _ h => h) (fun V hV => ?_) ⟨trivial, .inr hS1⟩ ?_
      ·simp [go_sem, execOp]
      try simp only
      clear hrun hkeep
      obtain ⟨oN1, cN1, hvn1, _⟩ := owns_intsAt how
      obtain ⟨nN1, hnN1⟩ : ∃ nN, ((GG.take k).map Gs.w ++ [z1 - z2]).length = nN := ⟨_, rfl⟩
      rw [hnN1] at hvn1
      rw [hvn1]
      have HVN1 := hidE hvn1
      clear hvn1 hnN1
      refine wpAnyK_step 20 rfl (by kernel_rfl) (fun K hK => ?_)
      go_simp
      refine hK.out _ _ ⟨trivial, .inl ⟨20, rfl, by kernel_rfl⟩⟩ ?_
      clear hK K hS0 hS1 u10 u11 u12 u13 u14
      refine wpAnyK_done (by kernel_rfl) ?_ _
      rw [← HVN1.out]
      obtain ⟨W6, hW6⟩ : ∃ W6, W6 = wp1.setCell ⟨gb, 1, none⟩ vn1 := ⟨_, rfl⟩
      rw [← hW6]
      have grn1 : W6.heap[gb]? = some (.cells #[.slice (some ⟨bS, offS, none⟩) KK capS, vn1, vE] 177 (0,0)) := by rw [hW6]; exact heap_setCell_same _ _ _ _ _ _ gr1
      have own1n : W6.ownsRow (gb + 1) 3 1 vn1 ((GG.take k).map Gs.w ++ [z1 - z2]).length (intsV ((GG.take k).map Gs.w ++ [z1 - z2])) := by rw [hW6]; exact ownsRow_setCell_below how (a := ⟨gb, 1, none⟩) (by show gb < gb + 1; omega) _
      have oth1n : W6.ownsRow (gb + 1) 3 1 vE ((GG.take k).map Gs.e).length (intsV ((GG.take k).map Gs.e)) := by rw [hW6]; exact ownsRow_setCell_below hoth (a := ⟨gb, 1, none⟩) (by show gb < gb + 1; omega) _
      have bl1n : Below gb W1 W6 := by rw [hW6]; exact (((Below.refl gb W1).drew).trans (hbw.mono (by omega))).setCell (p := ⟨gb, 1, none⟩) (Nat.le_refl _) _
      have blk1n : ∀ q : Nat, q < W1.heap.size → q ≠ gb → (vW : Value).ownBlock ≠ some q → W6.heap[q]? = W1.heap[q]? := fun q hq h1 h2 => by rw [hW6, heap_setCell_other _ _ _ _ h1]; exact hblk q hq h2
      have sz1n : W1.heap.size ≤ W6.heap.size := by rw [hW6]; simp; exact hbw.size
      clear hW6 how hoth hbw hblk kq gr1 gf1 gc1 grw1
      have lg2 : gb < W6.heap.size := by omega
      have lA2 : A < W6.heap.size := by omega
      have lY2 : bY < W6.heap.size := by omega
      have grw2 := grn1
      have u20 : W6.cell? ⟨gb, 2, none⟩ = some vE := c_e grn1 rfl
      have xA6 := (blk1n A lA1 (by omega) hnA1).trans X1.out
      have u21 : W6.cell? ⟨A, 5, none⟩ = some (.int .i64 (fno : Int)) := c_e xA6 rfl
      have u22 : W6.cell? ⟨A, 4, none⟩ = some (.int .i64 (fso : Int)) := c_e xA6 rfl
      have u23 : W6.cell? ⟨bY, oY + fno, none⟩ = some (.int .i64 z3) := (bl1n.cell (p := ⟨bY, oY + fno, none⟩) hby4).trans v13
      have u24 : W6.cell? ⟨bY, oY + fso, none⟩ = some (.int .i64 z4) := (bl1n.cell (p := ⟨bY, oY + fso, none⟩) hby4).trans v14
      have hap1 := hapt
      have B46 := hidE (B41.out.trans bl1n)
      clear hapt blk1n xA6 v13 v14 grn1 bl1n hngb hnbY
      go_upto_region 11 with fail
      refine wp_region_K (S2 := fun _ => True) (S := fun V => V.cell? ⟨gb, 2, none⟩ = some vE ∧ V.cell? ⟨A, 5, none⟩ = some (.int .i64 (fno : Int)) ∧ V.cell? ⟨A, 4, none⟩ = some (.int .i64 (fso : Int)) ∧ V.cell? ⟨bY, oY + fno, none⟩ = some (.int .i64 z3) ∧ V.cell? ⟨bY, oY + fso, none⟩ = some (.int .i64 z4)) (T := fun t => t == 20) (by kernel_rfl) ?_
      have hS0 : W6.drew.cell? ⟨gb, 2, none⟩ = some vE ∧ W6.drew.cell? ⟨A, 5, none⟩ = some (.int .i64 (fno : Int)) ∧ W6.drew.cell? ⟨A, 4, none⟩ = some (.int .i64 (fso : Int)) ∧ W6.drew.cell? ⟨bY, oY + fno, none⟩ = some (.int .i64 z3) ∧ W6.drew.cell? ⟨bY, oY + fso, none⟩ = some (.int .i64 z4) := ⟨u20, u21, u22, u23, u24⟩
      refine t_k 0 63 (.pointer (some ⟨gb, 0, none⟩)) rfl (by kernel_rfl) rfl (fun _ _ _ h => h) (fun V hV => ?_) ⟨trivial, .inr hS0⟩ ?_
      ·simp [go_sem, execOp]
      try simp only [s_a, s_b, s_c]
      refine t_k 1 64 (.pointer (some ⟨gb, 0, none⟩)) rfl (by kernel_rfl) rfl (fun _ _ _ h => h) (fun V hV => ?_) ⟨trivial, .inr hS0⟩ ?_
      ·simp [go_sem, execOp]
      try simp only [s_a, s_b, s_c]
      refine t_k 2 65 (.pointer (some ⟨gb, 0, none⟩)) rfl (by kernel_rfl) rfl (fun _ _ _ h => h) (fun V hV => ?_) ⟨trivial, .inr hS0⟩ ?_
      ·simp [go_sem, execOp]
      try simp only [s_a, s_b, s_c]
      refine t_k 3 66 (.pointer (some ⟨gb, 2, none⟩)) rfl (by kernel_rfl) rfl (fun _ _ _ h => h) (fun V hV => ?_) ⟨trivial, .inr hS0⟩ ?_
      ·simp [go_sem, execOp]
      try simp only [s_a, s_b, s_c]
      refine wpAnyK_load (i := 4) (d := 67) (v := vE) rfl rfl rfl (by kernel_rfl) (by kernel_rfl) (by kernel_rfl) (by kernel_rfl) (by kernel_rfl) (fun _ _ _ h => h) (.inl ⟨rfl, fun V hV => ?_⟩) hS0 trivial ?_
      ·obtain ⟨r0, r1, r2, r3, r4⟩ := hV
       simp [go_sem, execOp, r0]
      try simp only [s_a, s_b, s_c]
      refine t_k 5 68 (.slice (some ⟨bY, oY, none⟩) y.length cap2) rfl (by kernel_rfl) rfl (fun _ _ _ h => h) (fun V hV => ?_) ⟨trivial, .inr hS0⟩ ?_
      ·simp [go_sem, execOp]
      try simp only [s_a, s_b, s_c]
      refine t_k 6 69 (.pointer (some ⟨A, 5, none⟩)) rfl (by kernel_rfl) rfl (fun _ _ _ h => h) (fun V hV => ?_) ⟨trivial, .inr hS0⟩ ?_
      ·simp [go_sem, execOp]
      try simp only [s_a, s_b, s_c]
      refine wpAnyK_load (i := 7) (d := 70) (v := .int .i64 (fno : Int)) rfl rfl rfl (by kernel_rfl) (by kernel_rfl) (by kernel_rfl) (by kernel_rfl) (by kernel_rfl) (fun _ _ _ h => h) (.inl ⟨rfl, fun V hV => ?_⟩) hS0 trivial ?_
      ·obtain ⟨r0, r1, r2, r3, r4⟩ := hV
       simp [go_sem, execOp, r1]
      try simp only [s_a, s_b, s_c]
      refine t_k 8 71 (.pointer (some ⟨bY, oY + fno, none⟩)) rfl (by kernel_rfl) rfl (fun _ _ _ h => h) (fun V hV => ?_) ⟨trivial, .inr hS0⟩ ?_
      ·simp [go_sem, execOp, ifno]
      try simp only [s_a, s_b, s_c]
      refine wpAnyK_load (i := 9) (d := 72) (v := .int .i64 z3) rfl rfl rfl (by kernel_rfl) (by kernel_rfl) (by kernel_rfl) (by kernel_rfl) (by kernel_rfl) (fun _ _ _ h => h) (.inl ⟨rfl, fun V hV => ?_⟩) hS0 trivial ?_
      ·obtain ⟨r0, r1, r2, r3, r4⟩ := hV
       simp [go_sem, execOp, r3]
      try simp only [s_a, s_b, s_c]
      refine t_k 10 73 (.slice (some ⟨bY, oY, none⟩) y.length cap2) rfl (by kernel_rfl) rfl (fun _ _ _ h => h) (fun V hV => ?_) ⟨trivial, .inr hS0⟩ ?_
      ·simp [go_sem, execOp]
      try simp only [s_a, s_b, s_c]
      refine t_k 11 74 (.pointer (some ⟨A, 4, none⟩)) rfl (by kernel_rfl) rfl (fun _ _ _ h => h) (fun V hV => ?_) ⟨trivial, .inr hS0⟩ ?_
      ·simp [go_sem, execOp]
      try simp only [s_a, s_b, s_c]
      refine wpAnyK_load (i := 12) (d := 75) (v := .int .i64 (fso : Int)) rfl rfl rfl (by kernel_rfl) (by kernel_rfl) (by kernel_rfl) (by kernel_rfl) (by kernel_rfl) (fun _ _ _ h => h) (.inl ⟨rfl, fun V hV => ?_⟩) hS0 trivial ?_
      ·obtain ⟨r0, r1, r2, r3, r4⟩ := hV
       simp [go_sem, execOp, r2]
      try simp only [s_a, s_b, s_c]
      refine t_k 13 76 (.pointer (some ⟨bY, oY + fso, none⟩)) rfl (by kernel_rfl) rfl (fun _ _ _ h => h) (fun V hV => ?_) ⟨trivial, .inr hS0⟩ ?_
      ·simp [go_sem, execOp, ifso]
      try simp only [s_a, s_b, s_c]
      refine wpAnyK_load (i := 14) (d := 77) (v := .int .i64 z4) rfl rfl rfl (by kernel_rfl) (by kernel_rfl) (by kernel_rfl) (by kernel_rfl) (by kernel_rfl) (fun _ _ _ h => h) (.inl ⟨rfl, fun V hV => ?_⟩) hS0 trivial ?_
      ·obtain ⟨r0, r1, r2, r3, r4⟩ := hV
       simp [go_sem, execOp, r4]
      try simp only [s_a, s_b, s_c]
      refine t_k 15 78 (.int .i64 (z3 - z4)) rfl (by kernel_rfl) rfl (fun _ _ _ h => h) (fun V hV => ?_) ⟨trivial, .inr hS0⟩ ?_
      ·simp [go_sem, execOp, wd2]
      try simp only [s_a, s_b, s_c]
      obtain ⟨vn2, wp2, hrun, how, hbw, hkeep, hblk⟩ := append_int2 (w := W6.drew) (base := gb + 1) (v := vE) (l := (GG.take k).map Gs.e) oth1n.drew (z3 - z4) (by rw [List.length_map, List.length_take]; omega) (by show gb + 1 ≤ W6.heap.size; omega)
      obtain ⟨hoth, hapt⟩ := hkeep vn1 ((GG.take k).map Gs.w ++ [z1 - z2]) own1n.drew hap1.symm
      have hngb : (vE : Value).ownBlock ≠ some gb := fun e => by have := (oth1n.lt gb e).1; omega
      have hnbY : (vE : Value).ownBlock ≠ some bY := fun e => by have := (oth1n.lt bY e).1; omega
      have kq : ∀ (q o : Nat) (z : Value), q < W6.heap.size → (vE : Value).ownBlock ≠ some q → W6.cell? ⟨q, o, none⟩ = some z → wp2.cell? ⟨q, o, none⟩ = some z := fun q o z hq hne hz => (World.cell?_of_block (w := W6.drew) (a := ⟨q, o, none⟩) (hblk q hq hne)).trans hz
      refine wpAnyK_step 16 rfl (by kernel_rfl) (fun K hK => ?_)
      go_simp
      have bx : Below W6.heap.size W6 (W6.alloc (.cells #[.int .i64 (z3 - z4)] 3)).drew := ((Below.refl _ _).alloc (Nat.le_refl _) _).drew
      refine hK.out _ _ ⟨trivial, .inr ⟨(bx.cell (p := ⟨gb, 2, none⟩) lg2).trans u20, (bx.cell (p := ⟨A, 5, none⟩) lA2).trans u21, (bx.cell (p := ⟨A, 4, none⟩) lA2).trans u22, (bx.cell (p := ⟨bY, oY + fno, none⟩) lY2).trans u23, (bx.cell (p := ⟨bY, oY + fso, none⟩) lY2).trans u24⟩⟩ ?_
      clear hK K bx
      try simp only [Act.put, s_a, s_b, s_c]
      refine wpAnyK_step 17 rfl (by kernel_rfl) (fun K hK => ?_)
      refine step_op_append rfl (s := .tmp 67) (x := .tmp 79) (t := 25) rfl rfl rfl hrun ?_
      have hS1 : wp2.cell? ⟨gb, 2, none⟩ = some vE ∧ wp2.cell? ⟨A, 5, none⟩ = some (.int .i64 (fno : Int)) ∧ wp2.cell? ⟨A, 4, none⟩ = some (.int .i64 (fso : Int)) ∧ wp2.cell? ⟨bY, oY + fno, none⟩ = some (.int .i64 z3) ∧ wp2.cell? ⟨bY, oY + fso, none⟩ = some (.int .i64 z4) := ⟨kq _ _ _ lg2 hngb u20, kq _ _ _ lA2 hnA2 u21, kq _ _ _ lA2 hnA2 u22, kq _ _ _ lY2 hnbY u23, kq _ _ _ lY2 hnbY u24⟩
      refine hK.out _ _ ⟨trivial, .inr hS1⟩ ?_
      clear hK K
      try simp only [Act.put, List.setIfInBounds_toArray]
      have gr2 : wp2.heap[gb]? = some (.cells #[.slice (some ⟨bS, offS, none⟩) KK capS, vn1, vE] 177 (0,0)) := (hblk gb lg2 hngb).trans grw2
      have gf2 : wp2.frozen? ⟨gb, 2, none⟩ = false := frozen_of_row _ _ _ _ _ gr2
      have gc2 := hS1.1
      refine t_k 18 81 (.pointer (some ⟨gb, 0, none⟩)) rfl (by kernel_rfl) rfl (fun _ _ _ h => h) (fun V hV => ?_) ⟨trivial, .inr hS1⟩ ?_
      ·simp [go_sem, execOp]
      try simp only [s_a, s_b, s_c]
      refine t_k 19 82 (.pointer (some ⟨gb, 2, none⟩)) rfl (by kernel_rfl) rfl (fun _ _ _ h => h) (fun V hV => ?_) ⟨trivial, .inr hS1⟩ ?_
      ·simp [go_sem, execOp]
      try simp only
      clear hrun hkeep
      obtain ⟨oN2, cN2, hvn2, _⟩ := owns_intsAt how
      obtain ⟨nN2, hnN2⟩ : ∃ nN, ((GG.take k).map Gs.e ++ [z3 - z4]).length = nN := ⟨_, rfl⟩
      rw [hnN2] at hvn2
      rw [hvn2]
      have HVN2 := hidE hvn2
      clear hvn2 hnN2
      refine wpAnyK_step 20 rfl (by kernel_rfl) (fun K hK => ?_)
      go_simp
      refine hK.out _ _ ⟨trivial, .inl ⟨20, rfl, by kernel_rfl⟩⟩ ?_
      clear hK K hS0 hS1 u20 u21 u22 u23 u24
      refine wpAnyK_done (by kernel_rfl) ?_ _
      rw [← HVN2.out]
      obtain ⟨W7, hW7⟩ : ∃ W7, W7 = wp2.setCell ⟨gb, 2, none⟩ vn2 := ⟨_, rfl⟩
      rw [← hW7]
      have grn2 : W7.heap[gb]? = some (.cells #[.slice (some ⟨bS, offS, none⟩) KK capS, vn1, vn2] 177 (0,0)) := by rw [hW7]; exact heap_setCell_same _ _ _ _ _ _ gr2
      have own2n : W7.ownsRow (gb + 1) 3 1 vn2 ((GG.take k).map Gs.e ++ [z3 - z4]).length (intsV ((GG.take k).map Gs.e ++ [z3 - z4])) := by rw [hW7]; exact ownsRow_setCell_below how (a := ⟨gb, 2, none⟩) (by show gb < gb + 1; omega) _
      have oth2n : W7.ownsRow (gb + 1) 3 1 vn1 ((GG.take k).map Gs.w ++ [z1 - z2]).length (intsV ((GG.take k).map Gs.w ++ [z1 - z2])) := by rw [hW7]; exact ownsRow_setCell_below hoth (a := ⟨gb, 2, none⟩) (by show gb < gb + 1; omega) _
      have bl2n : Below gb W6 W7 := by rw [hW7]; exact (((Below.refl gb W6).drew).trans (hbw.mono (by omega))).setCell (p := ⟨gb, 2, none⟩) (Nat.le_refl _) _
      have blk2n : ∀ q : Nat, q < W6.heap.size → q ≠ gb → (vE : Value).ownBlock ≠ some q → W7.heap[q]? = W6.heap[q]? := fun q hq h1 h2 => by rw [hW7, heap_setCell_other _ _ _ _ h1]; exact hblk q hq h2
      have sz2n : W6.heap.size ≤ W7.heap.size := by rw [hW7]; simp; exact hbw.size
      clear hW7 how hoth hbw hblk kq gr2 gf2 gc2 grw2
      have st7 := hidE (show USt w4 W7 gb (some ⟨bS, offS, none⟩) KK capS vn1 vn2 ((GG.take (k + 1)).map Gs.w) ((GG.take (k + 1)).map Gs.e) from ⟨grn2, by rw [HTW.out]; exact oth2n, by rw [HTE.out]; exact own2n, hapt, B46.out.trans bl2n, by omega⟩)
      clear grn2 oth2n own2n hapt bl2n blk2n hngb hnbY own1n oth1n
      go_wp2_with fail
      go_roundw
      case rel => exact ⟨k + 1, vn1, vn2, by omega, by go_num, st7⟩
      case measure => simp [intOf]; omega
     ·have e9 : KK = k := by omega
      subst e9
      have hst9 := hst.out
      have htk : GG.take KK = GG := by rw [← HGL.out]; exact List.take_length
      rw [htk] at hst9
      obtain ⟨oW, cW, rfl, hiW⟩ := owns_intsAt hst9.ow
      obtain ⟨oE, cE, rfl, hiE⟩ := owns_intsAt hst9.oe
      have hlW : (GG.map Gs.w).length = KK := by rw [List.length_map]; exact HGL.out
      have hlE : (GG.map Gs.e).length = KK := by rw [List.length_map]; exact HGL.out
      have hgrr := hst9.gr
      have hsz := hst9.sz
      have hBL := hst9.bl
      have g1 : wr.cell? ⟨gb, 1, none⟩ = some (.slice oW KK cW) := by rw [cell_of_row _ _ _ _ _ _ hgrr, ← hlW]; rfl
      have g2 : wr.cell? ⟨gb, 2, none⟩ = some (.slice oE KK cE) := by rw [cell_of_row _ _ _ _ _ _ hgrr, ← hlE]; rfl
      have HAL1 := hidE (show Calls Tryz.prog 84 #[.slice oW KK cW, .func (.func 159) #[] #[]] wr _ by
       have := all_any wr oW cW (GG.map Gs.w) 159 #[] (fun v => inR v 0 1000000) (by rw [hlW]; omega) hiW (fun q _ V _ => (fine_any _ V).mono (fun e w' h => ⟨h.1, by rw [h.2]; exact Below.refl _ _⟩)) (enters_of Tryz.func159 (by kernel_rfl) rfl)
       rw [hlW] at this; exact this)
      have HAL2 := hidE (fun (W : World) (hb : Below wr.heap.size wr W) => show Calls Tryz.prog 84 #[.slice oE KK cE, .func (.func 159) #[] #[]] W _ by
       have := all_any W oE cE (GG.map Gs.e) 159 #[] (fun v => inR v 0 1000000) (by rw [hlE]; omega) (hiE.below hb (Nat.le_refl _)) (fun q _ V _ => (fine_any _ V).mono (fun e w' h => ⟨h.1, by rw [h.2]; exact Below.refl _ _⟩)) (enters_of Tryz.func159 (by kernel_rfl) rfl)
       rw [hlE] at this; exact this)
      have hm1 : (GG.map Gs.w).all (fun v => inR v 0 1000000) = GG.all wideB := by rw [List.all_map]; rfl
      have hm2 : (GG.map Gs.e).all (fun v => inR v 0 1000000) = GG.all wideE := by rw [List.all_map]; rfl
      rw [hm1] at HAL1
      rw [hm2] at HAL2
      have HGR := hidE (show GrAt wr gb SS GG from ⟨by rw [HSL.out, HGL.out], fun k h h2 => by
       have e1 := HSG.out k h2
       have e2 := HGG.out k h
       rw [e1, e2]
       exact ⟨rfl, rfl⟩, oS, capS, oW, cW, oE, cE, by rw [hgrr, hlW, hlE, HGL.out], hrec4.out.below (B := w4.heap.size) (by rw [hgb]; exact hBL) (Nat.le_refl _), hiW, hiE⟩)
      have HWB := hidE (BB4.out.trans (hBL.mono (by have := BB4.out.size; omega)))
      have hbase : w.heap.size ≤ gb := by have := BB4.out.size; omega
      clear hst hst9 hiW hiE hgrr hBL htk hm1 hm2 hlW hlE
      go_wp2_with fail
      refine HAL1.out.mono ?_
      rintro e wa ⟨rfl, hba⟩
      have HBA := hidE hba
      have g2a : wa.cell? ⟨gb, 2, none⟩ = some (.slice oE KK cE) := (hba.cell (p := ⟨gb, 2, none⟩) hsz).trans g2
      have HA2 := hidE (HAL2.out wa hba)
      clear hba HAL1 HAL2
      cases hAW : GG.all wideB with
      | false =>
        have HU := hidE (show uprightE F y (n : Int) = 1 by rw [hUW.out, if_pos (.inl hAW)])
        go_wp2_with fail
        try refine ⟨fun _ h => (by cases h), ?_⟩
        go_wp2_with fail
        go_ret2
        exact ⟨by unfold UpPost; rw [if_pos (by rw [HU.out]; decide), HU.out]; rfl, HWB.out.trans (HBA.out.mono HWB.out.size)⟩
      | true =>
        have HAW := hidE hAW
        clear hAW
        go_wp2_with fail
        refine HA2.out.mono ?_
        rintro e wb ⟨rfl, hbb⟩
        have HBB := hidE (HBA.out.trans (hbb.mono HBA.out.size))
        clear hbb HA2
        cases hAE : GG.all wideE with
        | false =>
          have HU := hidE (show uprightE F y (n : Int) = 1 by rw [hUW.out, if_pos (.inr hAE)])
          go_wp2_with fail
          go_ret2
          exact ⟨by unfold UpPost; rw [if_pos (by rw [HU.out]; decide), HU.out]; rfl, HWB.out.trans (HBB.out.mono HWB.out.size)⟩
        | true =>
          have HU := hidE (show uprightE F y (n : Int) = 0 by rw [hUW.out, if_neg (by rw [HAW.out, hAE]; simp)])
          go_wp2_with fail
          go_ret2
          refine ⟨?_, HWB.out.trans (HBB.out.mono HWB.out.size)⟩
          unfold UpPost
          rw [if_neg (by rw [HU.out]; decide), HPAR.out, HSS.out, HGGe.out]
          exact ⟨gb, rfl, hbase, HGR.out.below HBB.out⟩
 ·have zb : (fieldedE F [i] != 0) = true := by simpa using hz
  have HU := hidE (show uprightE F y i = fieldedE F [i] by unfold uprightE; rw [if_pos hz])
  obtain ⟨E, hE⟩ : ∃ E, fieldedE F [i] = E := ⟨_, rfl⟩
  rw [hE] at HFI HU zb hz
  clear h h2 hE
  unfold FV.val FV.arr at *
  go_enter Tryz.func99, Tryz.ntmps99
  go_wp2_with fail
  refine (HFI.out _ _ (by simp) B0.out).mono ?_
  rintro e w1 ⟨rfl, hb1⟩
  have a1 := B0.out.alloc B0.out.size (.cells #[.int .i64 i] 3)
  have B1 := hidE (a1.trans (hb1.mono a1.size))
  clear a1 hb1
  go_wp2_with fail
  go_ret2
  exact ⟨by unfold UpPost; rw [if_pos (by rw [HU.out]; exact hz), HU.out]; rfl, B1.out⟩
theorem UpPost.ok {F : Fld} {y : List Int} {i : Int} {base : Nat} {e : Ending} {w' : World} (h : UpPost F y i base e w') (hz : uprightE F y i = 0) : ∃ gb : Nat, e = .returned (.tuple #[.pointer (some ⟨gb, 0, none⟩), .int .i64 0]) ∧ base ≤ gb ∧ GrAt w' gb (stripsP F (F.par i)) (grP F y (F.par i)) := by
 unfold UpPost at h
 rwa [if_neg (by rw [hz]; decide)] at h
theorem UpPost.err {F : Fld} {y : List Int} {i : Int} {base : Nat} {e : Ending} {w' : World} (h : UpPost F y i base e w') {E : Int} (hE : uprightE F y i = E) (hz : E ≠ 0) : e = .returned (.tuple #[.pointer none, .int .i64 E]) := by
 unfold UpPost at h
 rw [hE, if_pos hz] at h
 exact h
set_option maxRecDepth 100000 in
set_option maxHeartbeats 2000000 in
theorem cutE_any (w : World) (x : FV) (F : Fld) (i m : Int) (a2 : Option Addr) (cap2 : Nat) (y : List Int) (hy : y.length ≤ 9223372036854775807) (h : FldAt w x F) (h2 : IntsAt w a2 y) :
 Calls Tryz.prog 37 #[x.val F, .slice a2 y.length cap2, .int .i64 i, .int .i64 m] w fun e w' => e = .returned (.tuple #[.int .i64 (cutE F y i m).1, .int .i64 (cutE F y i m).2]) ∧ Below w.heap.size w w' := by
 obtain ⟨W0, hW0⟩ : ∃ W0, W0 = w.alloc (.cells (x.arr F) 46) := ⟨_, rfl⟩
 have B0 := hidE (show Below w.heap.size w W0 by rw [hW0]; exact (Below.refl _ _).alloc (Nat.le_refl _) _)
 have x0 : W0.heap[w.heap.size]? = some (.cells (x.arr F) 46 (0,0)) := by rw [hW0]; exact heap_alloc_new _ _
 have f0 : W0.cell? ⟨w.heap.size, 0, none⟩ = some (.slice x.aS F.sts.length x.cS) := c_e x0 rfl
 have f1 : W0.cell? ⟨w.heap.size, 1, none⟩ = some (.slice x.aL F.lms.length x.cL) := c_e x0 rfl
 have f2 : W0.cell? ⟨w.heap.size, 2, none⟩ = some (.slice x.aP F.prs.length x.cP) := c_e x0 rfl
 have f3 : W0.cell? ⟨w.heap.size, 3, none⟩ = some (.slice x.aV F.vrs.length x.cV) := c_e x0 rfl
 have HUP := hidE (upright_any W0 x F i a2 cap2 y hy (h.below B0.out) (h2.below B0.out (Nat.le_refl _)))
 obtain ⟨P1, hP1⟩ : ∃ z, (cutE F y i m).1 = z := ⟨_, rfl⟩
 obtain ⟨P2, hP2⟩ : ∃ z, (cutE F y i m).2 = z := ⟨_, rfl⟩
 rw [hP1, hP2]
 have HW0 := hidE hW0
 clear x0 h h2
 unfold FV.val at HUP ⊢
 unfold FV.arr at HUP hW0 ⊢
 by_cases hz : uprightE F y i = 0
 ·obtain ⟨u1, u2, hgr, u4, u5⟩ := upright_ok hz
  obtain ⟨G, hG⟩ : ∃ G, grP F y (F.par i) = G := ⟨_, rfl⟩
  rw [hG] at hgr
  have HGG := hidE hG
  have HZZ := hidE hz
  unfold cutE at hP1 hP2
  rw [if_neg (by omega), hG] at hP1 hP2
  have hwb := areaTo_bd hgr.each G.length (Nat.le_refl _)
  rw [← hgr.whole] at hwb
  have hsh := hgr.short
  have HGR := hidE hgr
  have HP1 := hidE hP1
  have HP2 := hidE hP2
  clear hz u1 u2 u4 u5 hG hgr hP1 hP2
  obtain ⟨WH, hWH⟩ : ∃ z, wholeP G = z := ⟨_, rfl⟩
  rw [hWH] at HP1 HP2 hwb
  have HWH := hidE hWH
  clear hWH
  go_enter Tryz.func37, Tryz.ntmps37
  go_upto_region 1 with fail
  first | rw [← hW0] | skip
  clear hW0
  go_wp2_with fail
  refine HUP.out.mono ?_
  rintro e w1 ⟨hp, hb1⟩
  obtain ⟨gb, rfl, hgb, hga⟩ := hp.ok HZZ.out
  rw [HGG.out] at hga
  have B1 := hidE (B0.out.trans (hb1.mono B0.out.size))
  have HGA := hidE hga
  have HWO := hidE (by have := whole_any w1 gb _ G hga HGR.out; rw [HWH.out] at this; exact this)
  clear hb1 HUP hga hp f0 f1 f2 f3
  go_wp2_with fail
  refine HWO.out.mono ?_
  rintro e w2 ⟨rfl, hb2⟩
  have B2 := hidE (B1.out.trans (hb2.mono B1.out.size))
  have HGA2 := hidE (HGA.out.below hb2)
  clear hb2 HWO
  go_wp2_with fail
  refine (in_any m 0 WH w2).mono ?_
  rintro e w3 ⟨rfl, hw3⟩
  rw [← hw3]
  clear hw3
  cases hq : inR m 0 WH with
  | false =>
    obtain rfl : (0 : Int) = P1 := by have := HP1.out; rw [if_pos hq] at this; exact this
    obtain rfl : (51 : Int) = P2 := by have := HP2.out; rw [if_pos hq] at this; exact this
    clear hq
    go_wp2_with fail
    go_ret2
    exact ⟨rfl, B2.out⟩
  | true =>
    obtain hC : cutP G m = P1 := by have := HP1.out; rw [if_neg (by rw [hq]; simp)] at this; exact this
    obtain rfl : (0 : Int) = P2 := by have := HP2.out; rw [if_neg (by rw [hq]; simp)] at this; exact this
    have hmb := inR_iff.1 hq
    have HCU := hidE (by have := cut_any w2 gb _ G m HGA2.out HGR.out (by omega) (by omega); rw [hC] at this; exact this)
    clear hq hC hmb
    go_wp2_with fail
    refine HCU.out.mono ?_
    rintro e w4 ⟨rfl, hb4⟩
    have B4 := hidE (B2.out.trans (hb4.mono B2.out.size))
    clear hb4 HCU
    go_wp2_with fail
    go_ret2
    exact ⟨rfl, B4.out⟩
 ·have zb : (uprightE F y i != 0) = true := by simpa using hz
  unfold cutE at hP1 hP2
  rw [if_pos hz] at hP1 hP2
  obtain ⟨E, hE⟩ : ∃ E, uprightE F y i = E := ⟨_, rfl⟩
  rw [hE] at zb hz hP1 hP2
  have HEE := hidE hE
  have HZZ := hidE hz
  obtain rfl : (0 : Int) = P1 := hP1
  obtain rfl : E = P2 := hP2
  clear hz hE
  go_enter Tryz.func37, Tryz.ntmps37
  go_upto_region 1 with fail
  first | rw [← hW0] | skip
  clear hW0
  go_wp2_with fail
  refine HUP.out.mono ?_
  rintro e w1 ⟨hp, hb1⟩
  obtain rfl := hp.err HEE.out HZZ.out
  have B1 := hidE (B0.out.trans (hb1.mono B0.out.size))
  clear hb1 HUP hp f0 f1 f2 f3
  go_wp2_with fail
  go_ret2
  exact ⟨rfl, B1.out⟩
theorem results_cell_row2 {P : Program} {fn : Func} {p u : Tmp} {ty : TypeId} (h : fn.results = #[.cell p ty, .tmp u]) (tmps : Array Value) (w : World) (g : Nat) (t : TypeId) (cs : Array Value) (fr : Nat × Nat) (d : TypeDesc)
 (hp : tmps.getD p undef = .pointer (some ⟨g, 0, none⟩)) (hg : w.heap[g]? = some (.cells cs t fr))
 (hu : P.underlying ty = some d) (hd : (match d with | .struct _ | .array _ _ => true | _ => false) = true) (hi : (P.info? ty).map (·.size) = some cs.size) :
 (results fn tmps).run P w = .ok (.tuple #[.agg cs, tmps.getD u undef]) w := by
 have hp' : tmps[p]?.getD undef = .pointer (some ⟨g, 0, none⟩) := by simpa using hp
 simp [results, h, hp', asAddr, run_loadVar_row w g t ty cs fr d hg hu hd hi]
set_option maxRecDepth 100000 in
set_option maxHeartbeats 2000000 in
theorem westE_any (w : World) (x : FV) (F : Fld) (i m : Int) (a2 : Option Addr) (cap2 : Nat) (y : List Int) (hy : y.length ≤ 9223372036854775807) (h : FldAt w x F) (h2 : IntsAt w a2 y) :
 Calls Tryz.prog 34 #[x.val F, .slice a2 y.length cap2, .int .i64 i, .int .i64 m] w fun e w' => e = .returned (.tuple #[.agg #[.int .i64 (westE F y i m).1.1, .int .i64 (westE F y i m).1.2], .int .i64 (westE F y i m).2]) ∧ Below w.heap.size w w' := by
 obtain ⟨V0, hV0⟩ : ∃ V0, V0 = w.alloc (.cells (x.arr F) 46) := ⟨_, rfl⟩
 have D0 := hidE (show Below w.heap.size w V0 by rw [hV0]; exact (Below.refl _ _).alloc (Nat.le_refl _) _)
 have v0 : V0.heap[w.heap.size]? = some (.cells (x.arr F) 46 (0,0)) := by rw [hV0]; exact heap_alloc_new _ _
 have V0s : V0.heap.size = w.heap.size + 1 := by rw [hV0]; simp
 obtain ⟨W0, hW0⟩ : ∃ W0, W0 = V0.alloc (.cells #[.int .i64 0, .int .i64 0] 49) := ⟨_, rfl⟩
 have B0 := hidE (show Below w.heap.size w W0 by rw [hW0]; exact D0.out.alloc D0.out.size _)
 have x0 : W0.heap[w.heap.size]? = some (.cells (x.arr F) 46 (0,0)) := by rw [hW0]; exact (heap_alloc_old _ _ (by rw [V0s]; omega)).trans v0
 have X1 := hidE (show W0.heap[w.heap.size + 1]? = some (.cells #[.int .i64 0, .int .i64 0] 49 (0,0)) by rw [hW0, ← V0s]; exact heap_alloc_new _ _)
 have S0 := hidE (show w.heap.size + 1 < W0.heap.size by rw [hW0, ← V0s]; simp)
 have f0 : W0.cell? ⟨w.heap.size, 0, none⟩ = some (.slice x.aS F.sts.length x.cS) := c_e x0 rfl
 have f1 : W0.cell? ⟨w.heap.size, 1, none⟩ = some (.slice x.aL F.lms.length x.cL) := c_e x0 rfl
 have f2 : W0.cell? ⟨w.heap.size, 2, none⟩ = some (.slice x.aP F.prs.length x.cP) := c_e x0 rfl
 have f3 : W0.cell? ⟨w.heap.size, 3, none⟩ = some (.slice x.aV F.vrs.length x.cV) := c_e x0 rfl
 have HUP := hidE (upright_any W0 x F i a2 cap2 y hy (h.below B0.out) (h2.below B0.out (Nat.le_refl _)))
 obtain ⟨P1, hP1⟩ : ∃ z, (westE F y i m).1.1 = z := ⟨_, rfl⟩
 obtain ⟨P2, hP2⟩ : ∃ z, (westE F y i m).1.2 = z := ⟨_, rfl⟩
 obtain ⟨P3, hP3⟩ : ∃ z, (westE F y i m).2 = z := ⟨_, rfl⟩
 rw [hP1, hP2, hP3]
 have HV0 := hidE hV0
 have HW0 := hidE hW0
 clear x0 h h2 v0 V0s D0
 unfold FV.val at HUP ⊢
 unfold FV.arr at HUP hV0 ⊢
 by_cases hz : uprightE F y i = 0
 ·obtain ⟨u1, u2, hgr, u4, u5⟩ := upright_ok hz
  obtain ⟨G, hG⟩ : ∃ G, grP F y (F.par i) = G := ⟨_, rfl⟩
  rw [hG] at hgr
  have HGG := hidE hG
  have HZZ := hidE hz
  unfold westE at hP1 hP2 hP3
  rw [if_neg (by omega), hG] at hP1 hP2 hP3
  have HGR := hidE hgr
  have HP1 := hidE hP1
  have HP2 := hidE hP2
  have HP3 := hidE hP3
  clear hz u1 u2 u4 u5 hG hgr hP1 hP2 hP3
  obtain ⟨fr, hfr⟩ : ∃ z, fromP G = z := ⟨_, rfl⟩
  obtain ⟨tt, hto⟩ : ∃ z, toP G = z := ⟨_, rfl⟩
  rw [hfr, hto] at HP1 HP2 HP3
  have HFR := hidE hfr
  have HTO := hidE hto
  clear hfr hto
  go_enter Tryz.func34, Tryz.ntmps34
  go_upto_region 1 with fail
  first | rw [← hV0] | skip
  first | rw [← hW0] | skip
  clear hW0 hV0
  go_wp2_with fail
  refine HUP.out.mono ?_
  rintro e w1 ⟨hp, hb1⟩
  obtain ⟨gb, rfl, hgb, hga⟩ := hp.ok HZZ.out
  rw [HGG.out] at hga
  have B1 := hidE (B0.out.trans (hb1.mono B0.out.size))
  have HGA := hidE hga
  have S1 := hidE (Nat.lt_of_lt_of_le S0.out hb1.size)
  have Y1 := hidE ((hb1.block (w.heap.size + 1) S0.out).trans X1.out)
  have HFA := hidE (by have := from_any w1 gb _ G hga HGR.out.ne; rw [HFR.out] at this; exact this)
  have HTA := hidE (by have := to_any w1 gb _ G hga HGR.out.ne HGR.out.short; rw [HTO.out] at this; exact this)
  clear hb1 HUP hga hp f0 f1 f2 f3
  go_wp2_with fail
  refine HFA.out.mono ?_
  rintro e w2 ⟨rfl, hw2⟩
  have HW2 := hidE hw2
  clear hw2
  go_wp2_with fail
  have HTB := HTA.out
  rw [← HW2.out] at HTB
  refine HTB.mono ?_
  rintro e w3 ⟨rfl, hb3⟩
  rw [HW2.out] at hb3
  have B3 := hidE (B1.out.trans (hb3.mono B1.out.size))
  have HGA3 := hidE (HGA.out.below hb3)
  have S3 := hidE (Nat.lt_of_lt_of_le S1.out hb3.size)
  have Y3 := hidE ((hb3.block (w.heap.size + 1) S1.out).trans Y1.out)
  clear hb3 HTA HTB HFA
  go_wp2_with fail
  refine (in_any m fr tt w3).mono ?_
  rintro e w4 ⟨rfl, hw4⟩
  rw [← hw4]
  clear hw4
  cases hq : inR m fr tt with
  | false =>
    obtain rfl : (0 : Int) = P1 := by have := HP1.out; rw [if_pos hq] at this; exact this
    obtain rfl : (0 : Int) = P2 := by have := HP2.out; rw [if_pos hq] at this; exact this
    obtain rfl : (1 : Int) = P3 := by have := HP3.out; rw [if_pos hq] at this; exact this
    clear hq
    have HZ := hidE Y3.out
    clear Y3
    have z0 : w3.cell? ⟨w.heap.size + 1, 0, none⟩ = some (.int .i64 0) := c_e HZ.out rfl
    have z1 : w3.cell? ⟨w.heap.size + 1, 1, none⟩ = some (.int .i64 0) := c_e HZ.out rfl
    have z2 : w3.frozen? ⟨w.heap.size + 1, 0, none⟩ = false := frozen_of_row _ _ _ _ _ HZ.out
    have z3 : w3.frozen? ⟨w.heap.size + 1, 1, none⟩ = false := frozen_of_row _ _ _ _ _ HZ.out
    go_wp2_with fail
    try simp only [Exit.noGoto]
    refine bodyPost_ret (v := .tuple #[.agg #[.int .i64 0, .int .i64 0], .int .i64 1]) (results_cell_row2 Tryz.results34 _ _ (w.heap.size + 1) 49 _ (0,0) _ rfl (heap_setCell_same _ _ 1 _ _ _ (heap_setCell_same _ _ 0 _ _ _ HZ.out)) Tryz.underlying49 rfl (by kernel_rfl)) rfl ⟨rfl, ((B3.out.setCell (by simp) _).setCell (by simp) _)⟩
  | true =>
    obtain hC1 : (lowest (partP G m)).1 = P1 := by have := HP1.out; rw [if_neg (by rw [hq]; simp)] at this; exact this
    obtain hC2 : (lowest (partP G m)).2 = P2 := by have := HP2.out; rw [if_neg (by rw [hq]; simp)] at this; exact this
    obtain rfl : (0 : Int) = P3 := by have := HP3.out; rw [if_neg (by rw [hq]; simp)] at this; exact this
    have hmb := inR_iff.1 hq
    rw [← HFR.out, ← HTO.out] at hmb
    have hbd := HGR.out.part_bd hmb.1 hmb.2
    have hen := HGR.out.ends
    have HPA := hidE (part_any w3 gb _ G m HGA3.out HGR.out.each HGR.out.short (by omega) (by omega))
    unfold lowest at hC1 hC2
    obtain ⟨num, hnum⟩ : ∃ z, (partP G m).1 = z := ⟨_, rfl⟩
    obtain ⟨den, hden⟩ : ∃ z, (partP G m).2 = z := ⟨_, rfl⟩
    rw [hnum, hden] at hbd HPA hC1 hC2
    obtain ⟨nn, rfl⟩ : ∃ k : Nat, num = k := ⟨num.toNat, by omega⟩
    obtain ⟨dd, rfl⟩ : ∃ k : Nat, den = k := ⟨den.toNat, by omega⟩
    simp only [Int.toNat_natCast] at hC1 hC2
    obtain ⟨gg, hgg⟩ : ∃ z, Nat.gcd nn dd = z := ⟨_, rfl⟩
    have hg1 : 1 ≤ gg := by rw [← hgg]; exact Nat.gcd_pos_of_pos_right _ (by omega)
    have hg2 : gg ≤ dd := by rw [← hgg]; exact Nat.gcd_le_right _ (by omega)
    have HDV := fun W => divisor_any nn dd W (by omega) (by omega)
    rw [hgg] at hC1 hC2
    simp only [hgg] at HDV
    have HDV := hidE HDV
    obtain ⟨r1, hr1⟩ : ∃ r, r = nn / gg := ⟨_, rfl⟩
    obtain ⟨r2, hr2⟩ : ∃ r, r = dd / gg := ⟨_, rfl⟩
    have hq1 : ((nn : Int).tdiv gg) = (r1 : Int) := by rw [hr1]; rfl
    have hq2 : ((dd : Int).tdiv gg) = (r2 : Int) := by rw [hr2]; rfl
    have hq3 : r1 ≤ nn := by rw [hr1]; exact Nat.div_le_self _ _
    have hq4 : r2 ≤ dd := by rw [hr2]; exact Nat.div_le_self _ _
    clear hr1 hr2
    have hq5 : ((nn : Int).tdiv gg) = P1 := hC1
    have hq6 : ((dd : Int).tdiv gg) = P2 := hC2
    have k1 : IntKind.i64.wrap P1 = P1 := by
     refine Go.IntWalk.i64_in _ ⟨?_, ?_⟩ <;> omega
    have k2 : IntKind.i64.wrap P2 = P2 := by
     refine Go.IntWalk.i64_in _ ⟨?_, ?_⟩ <;> omega
    have hgz : ¬ gg = 0 := by omega
    clear hq hC1 hC2 hmb hq1 hq2 hq3 hq4 hnum hden hgg hen
    go_wp2_with fail
    refine HPA.out.mono ?_
    rintro e w5 ⟨rfl, hb5⟩
    have B5 := hidE (B3.out.trans (hb5.mono B3.out.size))
    have S5 := hidE (Nat.lt_of_lt_of_le S3.out hb5.size)
    have Y5 := hidE ((hb5.block (w.heap.size + 1) S3.out).trans Y3.out)
    clear hb5 HPA
    go_wp2_with fail
    refine (HDV.out _).mono ?_
    rintro e w6 ⟨rfl, hb6⟩
    have B6 := hidE (B5.out.trans (hb6.mono B5.out.size))
    have y6 := (hb6.block (w.heap.size + 1) S5.out).trans Y5.out
    have s6 := Nat.lt_of_lt_of_le S5.out hb6.size
    clear hb6 HDV
    have z6 : w6.heap[w.heap.size + 1]? = some (.cells #[.int .i64 0, .int .i64 0] 49 (0,0)) := y6
    go_wp2_with fail
    have HZ := hidE (show w6.drew.heap[w.heap.size + 1]? = some (.cells #[.int .i64 0, .int .i64 0] 49 (0,0)) from z6)
    clear y6 z6
    refine wp_region_G (S := fun V => V = w6.drew) (T := fun t => decide (7 ≤ t)) (by kernel_rfl) ?_
    have hS : (fun V : World => V = w6.drew) w6.drew := rfl
    refine t_g 0 43 (.int .i64 (nn : Int)) rfl (by kernel_rfl) rfl (fun _ _ _ h => h) (fun V hV => ?_) (.inr hS) ?_
    ·simp [go_sem, execOp]
    try simp only [s_a, s_b, s_c]
    refine t_g 1 44 (.int .i64 (gg : Int)) rfl (by kernel_rfl) rfl (fun _ _ _ h => h) (fun V hV => ?_) (.inr hS) ?_
    ·simp [go_sem, execOp]
    try simp only [s_a, s_b, s_c]
    refine t_g 2 45 (.int .i64 P1) rfl (by kernel_rfl) rfl (fun _ _ _ h => h) (fun V hV => ?_) (.inr hS) ?_
    ·simp [go_sem, execOp, hgz, hq5, k1]
    try simp only [s_a, s_b, s_c]
    refine t_g 3 46 (.int .i64 (dd : Int)) rfl (by kernel_rfl) rfl (fun _ _ _ h => h) (fun V hV => ?_) (.inr hS) ?_
    ·simp [go_sem, execOp]
    try simp only [s_a, s_b, s_c]
    refine t_g 4 47 (.int .i64 (gg : Int)) rfl (by kernel_rfl) rfl (fun _ _ _ h => h) (fun V hV => ?_) (.inr hS) ?_
    ·simp [go_sem, execOp]
    try simp only [s_a, s_b, s_c]
    refine t_g 5 48 (.int .i64 P2) rfl (by kernel_rfl) rfl (fun _ _ _ h => h) (fun V hV => ?_) (.inr hS) ?_
    ·simp [go_sem, execOp, hgz, hq6, k2]
    try simp only [s_a, s_b, s_c]
    refine t_g 6 49 (.agg #[.int .i64 P1, .int .i64 P2]) rfl (by kernel_rfl) rfl (fun _ _ _ h => h) (fun V hV => ?_) (.inr hS) ?_
    ·simp [go_sem, execOp]
    try simp only [s_a, s_b, s_c]
    refine wpAnyG_step 7 rfl (by kernel_rfl) (fun K hK => ?_)
    refine Eq.mpr (if_pos (by kernel_rfl)) ?_
    refine wp_store_row 49 _ _ rfl (w.heap.size + 1) #[.int .i64 P1, .int .i64 P2] rfl rfl 49 _ HZ.out (by kernel_rfl) rfl (by simp [Value.oneCell']) ?_
    refine hK.out _ _ (.inl ⟨7, rfl, by kernel_rfl⟩) ?_
    clear hK K
    try simp only [Act.put, List.setIfInBounds_toArray]
    refine wpAnyG_step 8 rfl (by kernel_rfl) (fun K hK => ?_)
    go_simp
    refine hK.out _ _ (.inl ⟨8, rfl, by kernel_rfl⟩) ?_
    clear hK K
    try simp only [Act.put, s_a, s_b, s_c]
    refine wpAnyG_done (by kernel_rfl) ?_ _
    go_wp2_with fail
    try simp only [Exit.noGoto]
    refine bodyPost_ret (v := .tuple #[.agg #[.int .i64 P1, .int .i64 P2], .int .i64 0]) (results_cell_row2 Tryz.results34 _ _ (w.heap.size + 1) 49 _ (0,0) _ rfl (setRow_heap _ _ _ _ _ _ HZ.out) Tryz.underlying49 rfl (by kernel_rfl)) rfl ⟨rfl, below_setRow B6.out.drew (by omega) _⟩
 ·have zb : (uprightE F y i != 0) = true := by simpa using hz
  unfold westE at hP1 hP2 hP3
  rw [if_pos hz] at hP1 hP2 hP3
  obtain ⟨E, hE⟩ : ∃ E, uprightE F y i = E := ⟨_, rfl⟩
  rw [hE] at zb hz hP1 hP2 hP3
  have HEE := hidE hE
  have HZZ := hidE hz
  obtain rfl : (0 : Int) = P1 := hP1
  obtain rfl : (0 : Int) = P2 := hP2
  obtain rfl : E = P3 := hP3
  clear hz hE
  go_enter Tryz.func34, Tryz.ntmps34
  go_upto_region 1 with fail
  first | rw [← hV0] | skip
  first | rw [← hW0] | skip
  clear hW0 hV0
  go_wp2_with fail
  refine HUP.out.mono ?_
  rintro e w1 ⟨hp, hb1⟩
  obtain rfl := hp.err HEE.out HZZ.out
  have B1 := hidE (B0.out.trans (hb1.mono B0.out.size))
  have y1 := (hb1.block (w.heap.size + 1) S0.out).trans X1.out
  have s1 := Nat.lt_of_lt_of_le S0.out hb1.size
  clear hb1 HUP hp f0 f1 f2 f3
  have HZ := hidE y1
  clear y1
  have z0 : w1.cell? ⟨w.heap.size + 1, 0, none⟩ = some (.int .i64 0) := c_e HZ.out rfl
  have z1 : w1.cell? ⟨w.heap.size + 1, 1, none⟩ = some (.int .i64 0) := c_e HZ.out rfl
  have z2 : w1.frozen? ⟨w.heap.size + 1, 0, none⟩ = false := frozen_of_row _ _ _ _ _ HZ.out
  have z3 : w1.frozen? ⟨w.heap.size + 1, 1, none⟩ = false := frozen_of_row _ _ _ _ _ HZ.out
  go_wp2_with fail
  try simp only [Exit.noGoto]
  refine bodyPost_ret (v := .tuple #[.agg #[.int .i64 0, .int .i64 0], .int .i64 E]) (results_cell_row2 Tryz.results34 _ _ (w.heap.size + 1) 49 _ (0,0) _ rfl (heap_setCell_same _ _ 1 _ _ _ (heap_setCell_same _ _ 0 _ _ _ HZ.out)) Tryz.underlying49 rfl (by kernel_rfl)) rfl ⟨rfl, ((B1.out.setCell (by simp) _).setCell (by simp) _)⟩
def fldS : Fld := ⟨[⟨⟨#[97]⟩, 0⟩, ⟨⟨#[98]⟩, 10⟩, ⟨⟨#[99]⟩, 30⟩], [⟨#[115, 111, 117, 116, 104]⟩, ⟨#[110, 111, 114, 116, 104]⟩], [⟨⟨#[112]⟩, 0, 0, 2⟩], []⟩
set_option maxRecDepth 100000 in
set_option maxHeartbeats 2000000 in
theorem fieldS_any (w : World) : Calls Tryz.prog 72 #[] w fun e w' => (∃ x : FV, e = .returned (x.val fldS) ∧ FldAt w' x fldS) ∧ Below w.heap.size w w' := by
 go_enter Tryz.func72, Tryz.ntmps72
 go_wp2_with fail
 obtain ⟨W, hW⟩ : ∃ W, W = ((((w.alloc (.cells #[.slice (some ⟨w.heap.size + 1, 0, none⟩) 3 3, .slice (some ⟨w.heap.size + 1 + 1, 0, none⟩) 2 2, .slice (some ⟨w.heap.size + 1 + 1 + 1, 0, none⟩) 1 1, .slice none 0 0] 46)).alloc
  (.cells #[.string ⟨#[97]⟩, .int .i64 0, .string ⟨#[98]⟩, .int .i64 10, .string ⟨#[99]⟩, .int .i64 30] 55)).alloc (.cells #[.string ⟨#[115, 111, 117, 116, 104]⟩, .string ⟨#[110, 111, 114, 116, 104]⟩] 9)).alloc (.cells #[.string ⟨#[112]⟩, .int .i64 0, .int .i64 0, .int .i64 2] 53)) := ⟨_, rfl⟩
 rw [← hW]
 have hs : W.heap.size = w.heap.size + 4 := by rw [hW]; simp
 have hb : Below w.heap.size w W := by rw [hW]; exact ((((Below.refl _ _).alloc (Nat.le_refl _) _).alloc (by simp) _).alloc (by simp; omega) _).alloc (by simp; omega) _
 have g0 : W.heap[w.heap.size]? = some (.cells #[.slice (some ⟨w.heap.size + 1, 0, none⟩) 3 3, .slice (some ⟨w.heap.size + 1 + 1, 0, none⟩) 2 2, .slice (some ⟨w.heap.size + 1 + 1 + 1, 0, none⟩) 1 1, .slice none 0 0] 46 (0,0)) := by
  rw [hW, Below.heap_alloc _ _ _ (by simp only [World.size_alloc]; omega), Below.heap_alloc _ _ _ (by simp only [World.size_alloc]; omega), Below.heap_alloc _ _ _ (by simp)]; exact heap_alloc_new _ _
 have g1 : W.heap[w.heap.size + 1]? = some (.cells #[.string ⟨#[97]⟩, .int .i64 0, .string ⟨#[98]⟩, .int .i64 10, .string ⟨#[99]⟩, .int .i64 30] 55 (0,0)) := by
  rw [hW, Below.heap_alloc _ _ _ (by simp only [World.size_alloc]; omega), Below.heap_alloc _ _ _ (by simp)]; exact heap_alloc_at _ _ _ (by simp)
 have g2 : W.heap[w.heap.size + 1 + 1]? = some (.cells #[.string ⟨#[115, 111, 117, 116, 104]⟩, .string ⟨#[110, 111, 114, 116, 104]⟩] 9 (0,0)) := by
  rw [hW, Below.heap_alloc _ _ _ (by simp)]; exact heap_alloc_at _ _ _ (by simp)
 have g3 : W.heap[w.heap.size + 1 + 1 + 1]? = some (.cells #[.string ⟨#[112]⟩, .int .i64 0, .int .i64 0, .int .i64 2] 53 (0,0)) := by
  rw [hW]; exact heap_alloc_at _ _ _ (by simp)
 clear hW
 refine bodyPost_ret (results_cell_row Tryz.results72 _ _ _ _ _ _ _ rfl g0 Tryz.underlying46 rfl (by kernel_rfl)) rfl ⟨⟨⟨some ⟨w.heap.size + 1, 0, none⟩, 3, some ⟨w.heap.size + 1 + 1, 0, none⟩, 2, some ⟨w.heap.size + 1 + 1 + 1, 0, none⟩, 1, none, 0⟩, rfl, ?_⟩, hb⟩
 refine ⟨.inr ⟨_, 0, rfl, by omega, fun i hi j hj => ?_⟩, .inr ⟨_, 0, rfl, by omega, fun i hi j hj => ?_⟩, .inr ⟨_, 0, rfl, by omega, fun i hi j hj => ?_⟩, .inl rfl, ⟨Nat.le_refl _, (by decide : (3 : Nat) ≤ 9223372036854775807)⟩, ⟨Nat.le_refl _, (by decide : (2 : Nat) ≤ 9223372036854775807)⟩, ⟨Nat.le_refl _, (by decide : (1 : Nat) ≤ 9223372036854775807)⟩, ⟨Nat.le_refl _, Nat.zero_le _⟩, ?_, ?_, ?_, ?_⟩
 ·rw [cell_of_row _ _ _ _ _ _ g1]
  have hi2 : i < 3 := hi
  rcases (by omega : i = 0 ∨ i = 1 ∨ i = 2) with rfl | rfl | rfl <;> rcases (by omega : j = 0 ∨ j = 1) with rfl | rfl <;> rfl
 ·rw [cell_of_row _ _ _ _ _ _ g2]
  have hi2 : i < 2 := hi
  obtain rfl : j = 0 := by omega
  rcases (by omega : i = 0 ∨ i = 1) with rfl | rfl <;> rfl
 ·rw [cell_of_row _ _ _ _ _ _ g3]
  have hi2 : i < 1 := hi
  obtain rfl : i = 0 := by omega
  rcases (by omega : j = 0 ∨ j = 1 ∨ j = 2 ∨ j = 3) with rfl | rfl | rfl | rfl <;> rfl
 ·decide
 ·intro s hs
  simp only [fldS, List.mem_cons, List.not_mem_nil, or_false] at hs
  rcases hs with rfl | rfl | rfl <;> exact ⟨by decide, by decide⟩
 ·intro s hs
  simp only [fldS, List.mem_cons, List.not_mem_nil, or_false] at hs
  subst hs
  exact ⟨⟨by decide, by decide⟩, ⟨by decide, by decide⟩, by decide, by decide⟩
 ·intro s hs
  simp [fldS] at hs
end Go.Proofs.YthjmkmjojlfejaaGreat
