/- The frame of a law: arguments opened, and read again behind the call. No conditions. -/
import Derived.Test.YthcmjhellpjllaaGreatRows
import Derived.Test.YthcmjhellpjllaaGreatA4
import Derived.WalkKit
import Derived.ProofKit
import Derived.OpenShut
import Derived.Carry
import Derived.Lib.SmallJoins
import Derived.Deep.Slices
namespace Go.Proofs.YthcmjhellpjllaaGreat
open Go Go.ChangeShapes Go.WideShapes Go.ChangeAt Go.RowKit Go.Joins Go.Deep

theorem Tryz.laidOut : laidOutB Tryz.prog = true := by kernel_rfl
theorem Tryz.own : ownKnob Tryz.prog.godebug = none := by kernel_rfl

/-! What the whole program owes, once. -/
theorem and2 {a b : Bool} (ha : a = true) (hb : b = true) : (a && b) = true := by rw [ha, hb]; rfl
theorem Tryz.fact1 : laidOutB Tryz.prog = true := by kernel_rfl
theorem Tryz.fact2 : mapsRowed Tryz.prog = true := by kernel_rfl
theorem Tryz.fact6 : (Tryz.prog.stops == []) = true := by kernel_rfl
theorem Tryz.fact8 : (Tryz.prog.stopKnobs == []) = true := by kernel_rfl
theorem Tryz.fact22 : Tryz.prog.plainKeys = true := by kernel_rfl
theorem Tryz.fact24 : Tryz.prog.stopsHeard = true := by kernel_rfl
set_option maxRecDepth 100000 in
/-- The words of the program's head, as a list of signs: the kernel is not asked to read a string. -/
theorem Tryz.head : ∃ l : List Char, Tryz.prog.initOrder = String.ofList l ∧ (stripLifts liftWords (behindMainWord (wordsSigns l))).1 = [] ∧ ((stripLifts liftWords (behindMainWord (wordsSigns l))).2.head? == some "cut".toList) = true ∧
    (match behindMainWord (wordsSigns l) with | c :: _ => (c == "gc".toList || c == "spec".toList) = false ∧ (c == "cut".toList) = true ∧ (some c == some "carried".toList) = false | [] => False) := by
  unfold Tryz.prog Tryz.progTables
  dsimp only
  refine ⟨_, rfl, ?_, ?_, ?_⟩
  · kernel_rfl
  · kernel_rfl
  · exact ⟨by kernel_rfl, by kernel_rfl, by kernel_rfl⟩
theorem Tryz.laysLater : Tryz.prog.laysLater = false := by kernel_rfl
theorem Tryz.bearsReflect : Tryz.prog.bearsReflect = false := by kernel_rfl
theorem Tryz.doorFits : Tryz.prog.doorFits [] = true := by kernel_rfl
/-- A program whose head says: cut, and lifts nothing. -/
def HeadCut (P : Program) : Prop := ∃ l : List Char, P.initOrder = String.ofList l ∧ (stripLifts liftWords (behindMainWord (wordsSigns l))).1 = [] ∧ ((stripLifts liftWords (behindMainWord (wordsSigns l))).2.head? == some "cut".toList) = true ∧
    (match behindMainWord (wordsSigns l) with | c :: _ => (c == "gc".toList || c == "spec".toList) = false ∧ (c == "cut".toList) = true ∧ (some c == some "carried".toList) = false | [] => False)
theorem headLifts_of {P : Program} (h : HeadCut P) : P.headLifts = [] := by
  obtain ⟨l, hl, h1, h2, h3⟩ := h
  unfold Program.headLifts
  rw [hl, String.toList_ofList]
  simp only [h1, ite_self]
theorem mayEnter_of {P : Program} (h : HeadCut P) (g1 : P.laysLater = false) (g2 : P.bearsReflect = false) (g3 : P.doorFits [] = true) : P.mayEnter = true := by
  obtain ⟨l, hl, h1, h2, h3⟩ := h
  unfold Program.mayEnter
  rw [hl, String.toList_ofList]
  cases hw : behindMainWord (wordsSigns l) with
  | nil => rw [hw] at h3; exact h3.elim
  | cons c rest =>
    rw [hw] at h1 h2 h3
    simp only [h1, h2, g1, g2, g3]
    simp
theorem liftsFinal_of {P : Program} (h : HeadCut P) : P.liftsFinal = false := by
  have hh := headLifts_of h
  obtain ⟨l, hl, h1, h2, h3⟩ := h
  unfold Program.liftsFinal
  rw [hh, hl, String.toList_ofList]
  cases hw : behindMainWord (wordsSigns l) with
  | nil => rw [hw] at h3; exact h3.elim
  | cons c rest =>
    rw [hw] at h3
    simp only [List.head?_cons, h3.2.2]
    rfl
theorem make_of {P : Program} (h : HeadCut P) : P.make = some .cut := by
  obtain ⟨l, hl, h1, h2, h3⟩ := h
  unfold Program.make
  rw [hl, String.toList_ofList]
  cases hw : behindMainWord (wordsSigns l) with
  | nil => rw [hw] at h3; exact h3.elim
  | cons c rest =>
    rw [hw] at h3
    simp only [h3.1, h3.2.1]
    rfl
theorem Tryz.headCut : HeadCut Tryz.prog := Tryz.head
theorem Tryz.fact25 : Tryz.prog.mayEnter = true := mayEnter_of Tryz.headCut Tryz.laysLater Tryz.bearsReflect Tryz.doorFits
theorem Tryz.fact26 : Tryz.prog.liftsFinal = false := liftsFinal_of Tryz.headCut
theorem Tryz.fact27 : Tryz.prog.make = some .cut := make_of Tryz.headCut

/-- A type whose readings stay. -/
def ArgOk (t : TypeId) : Prop := Tryz.prog.readableRec t = true ∧ t < Tryz.prog.types.size
theorem argOk24 : ArgOk 24 := ⟨by kernel_rfl, of_decide_eq_true (by kernel_rfl)⟩
theorem argOk27 : ArgOk 35 := ⟨by kernel_rfl, of_decide_eq_true (by kernel_rfl)⟩
theorem argOk3 : ArgOk 3 := ⟨by kernel_rfl, of_decide_eq_true (by kernel_rfl)⟩
theorem argOk5 : ArgOk 5 := ⟨by kernel_rfl, of_decide_eq_true (by kernel_rfl)⟩

section
variable {H : Type} {enc : TypeId × Value → H}

theorem trodAll_below {W W' : World} (hb : Below W.heap.size W W') : ∀ (ts : List TypeId) (vs : List Value) (ds : List (DataW H)) (ps : List MemPlace), (∀ t ∈ ts, ArgOk t) → DataW.TrodAll enc Tryz.prog W 0 (fun _ => true) true ts vs ds ps →
    (∀ x ∈ ps, x.block < W.heap.size) → DataW.TrodAll enc Tryz.prog W' 0 (fun b => decide (b < W.heap.size)) true ts vs ds ps
  | [], vs, ds, ps, _, h, _ => by
    obtain ⟨rfl, rfl, rfl⟩ := trodAll_nil h
    exact trodAll_mk0
  | t :: ts, vs, ds, ps, hT, h, hs => by
    obtain ⟨v, vs', d, ds', p, q, rfl, rfl, rfl, h1, h2⟩ := trodAll_cons h
    have ht := hT t (List.mem_cons_self ..)
    exact trodAll_cons_mk (Below.trod Tryz.laidOut ht.1 ht.2 h1 hb (fun x hx => hs x (List.mem_append_left _ hx))) (trodAll_below hb ts vs' ds' q (fun x hx => hT x (List.mem_cons_of_mem _ hx)) h2 (fun x hx => hs x (List.mem_append_right _ hx)))

/-- What a law owes behind its walk. -/
theorem law_post {f : Func} {s : ChangeSpec} {W W' : World} {args : Array Value} {ds gs : List (DataW H)} {before : List MemPlace}
    (hW : DataW.Whole enc Tryz.prog f.params.toList s.vars false W args.toList ds gs before) (hb : Below W.heap.size W W') (hrt : f.resultTypes = #[4])
    (hts : ∀ t ∈ f.params.toList, ArgOk t) (hsv : s.vars = []) (hfn : s.fn H (ds ++ []) = { results := [.lit (.bool true)], args := ds }) :
    s.post enc Tryz.prog f false true false false W args (.bool true) W' := by
  have hW' := hW
  obtain ⟨p, q, hA, hV, rfl, hfz, hnd⟩ := hW
  have hV' := hV
  rw [hsv] at hV'
  obtain ⟨rfl, rfl⟩ := trodVars_none hV'
  have hlt : ∀ x ∈ p, x.block < W.heap.size := fun x hx => by
    have := hW'.lt x
    exact this (List.mem_append_left _ hx)
  refine ⟨ds, [], p ++ [], [], p, [], hW', ?_, ?_, ?_, hb.frame _, fun h => by cases h⟩
  · rw [hfn, hrt]
    exact trodAll_cons_mk (shut_bool Tryz.underlying4 _) trodAll_mk0
  · rw [hfn]
    exact trodAll_below hb _ _ _ _ hts hA hlt
  · rw [hfn, hsv]
    rfl

theorem list_of {α : Type} {p : Nat → α → Prop} : ∀ n, (∀ i, i < n → ∃ x, p i x) → ∃ l : List α, l.length = n ∧ ∀ i (h : i < l.length), p i l[i]
  | 0, _ => ⟨[], rfl, fun i h => by simp at h⟩
  | n + 1, h => by
    obtain ⟨l, hl, hp⟩ := list_of n (fun i hi => h i (by omega))
    obtain ⟨x, hx⟩ := h n (by omega)
    refine ⟨l ++ [x], by simp [hl], fun i hi => ?_⟩
    by_cases e : i < l.length
    · rw [List.getElem_append_left e]; exact hp i e
    · have e2 : i = n := by simp at hi; omega
      subst e2
      rw [List.getElem_append_right (by omega)]
      simpa [hl] using hx

theorem cell_plain {w : World} {a : Addr} {v : Value} (h : w.cell? a = some v) : a.spot = none ∧ a.block < w.heap.size := by
  refine ⟨?_, ?_⟩
  · cases hsp : a.spot with
    | none => rfl
    | some s =>
      simp only [World.cell?] at h
      split at h
      · simp [hsp] at h
      · cases h
  · apply Classical.byContradiction
    intro hn
    have : w.heap[a.block]? = none := Array.getElem?_eq_none (by omega)
    simp [World.cell?, this] at h

theorem add_plain {b o i : Nat} : (⟨b, o, none⟩ : Addr).add i = ⟨b, o + i, none⟩ := by
  unfold Addr.add
  split <;> simp_all

theorem int_cell {W : World} {n : Nat} {v : Value} {y : DataW H × List MemPlace} (h : DataW.trod enc Tryz.prog W 0 (fun _ => true) true n 3 [v] = some y) : ∃ k : Int, v = .int .i64 k ∧ i64ok k := by
  obtain ⟨k, h1, _, h2⟩ := DataW.trod_int Tryz.underlying3 h
  refine ⟨k, by simpa using h1, ?_⟩
  have : IntKind.min .i64 ≤ k ∧ k ≤ IntKind.max .i64 := by simpa [Lit.wf] using h2
  simpa [i64ok, IntKind.min, IntKind.max, IntKind.signed, IntKind.bits] using this

/-- A list of numbers, read. -/
theorem ints_trod {W : World} {n : Nat} {cs : List Value} {x : DataW H × List MemPlace} (h : DataW.trod enc Tryz.prog W 0 (fun _ => true) true n 35 cs = some x) :
    ∃ (a : Option Addr) (cap : Nat) (l : List Int), cs = [.slice a l.length cap] ∧ IntsAt W a l ∧ SliceOk a l.length cap ∧ l.length ≤ 9223372036854775807 ∧ ∀ x ∈ l, i64ok x := by
  have c3 : Tryz.prog.cellsOf 3 = 1 := by kernel_rfl
  rcases open_slice1 Tryz.underlying35 c3 h with ⟨h1, _⟩ | ⟨a, len, cap, m, n', V, D, Pl, hcs, _, hl, hm, hmm, _, hx⟩
  · exact ⟨none, 0, [], h1, .inl rfl, fun _ => ⟨rfl, rfl⟩, by simp, by simp⟩
  · have hmm' : m = cap := hmm
    obtain ⟨l, hll, hlp⟩ := list_of (p := fun i (k : Int) => W.cell? (a.add i) = some (.int .i64 k) ∧ i64ok k) len (fun i hi => by
      obtain ⟨h1, h2⟩ := hx i (by omega)
      obtain ⟨k, hk, hok⟩ := int_cell h2
      exact ⟨k, by rw [h1, hk], hok⟩)
    have hm2 : cap ≤ 9223372036854775807 := hm
    refine ⟨some a, cap, l, by rw [hcs, hll], ?_, (fun e => by cases e), by omega, fun x hx => ?_⟩
    · by_cases h0 : len = 0
      · exact .inl (List.length_eq_zero_iff.1 (by omega))
      · have z := (hlp 0 (by omega)).1
        have ha : a.spot = none := by
          have := (cell_plain z).1
          unfold Addr.add at this
          simpa using this
        obtain ⟨b, off, sp⟩ := a
        simp only at ha
        subst ha
        refine .inr ⟨b, off, rfl, ?_, fun i hi => ?_⟩
        · have := (cell_plain z).2
          rw [add_plain] at this; exact this
        · have := (hlp i hi).1
          rw [add_plain] at this; exact this
    · obtain ⟨i, hi, rfl⟩ := List.getElem_of_mem hx
      exact (hlp i hi).2

theorem open_intsL {W : World} {v : Value} {d : DataW H} {p : List MemPlace} (h : DataW.Trod enc Tryz.prog W 0 (fun _ => true) true 35 v d p) (hv : v.cells.toList = [v]) :
    ∃ (a : Option Addr) (cap : Nat) (l : List Int), v = .slice a l.length cap ∧ IntsAt W a l ∧ SliceOk a l.length cap ∧ l.length ≤ 9223372036854775807 ∧ ∀ x ∈ l, i64ok x := by
  obtain ⟨n, hn⟩ := h
  obtain ⟨a, cap, l, h1, h2⟩ := ints_trod hn
  rw [hv] at h1
  exact ⟨a, cap, l, by simpa using h1, h2⟩

/-- The bounds of a system, read. -/
theorem bounds_trod {W : World} {n : Nat} {cs : List Value} {x : DataW H × List MemPlace} (h : DataW.trod enc Tryz.prog W 0 (fun _ => true) true n 22 cs = some x) :
    ∃ (a : Option Addr) (cap : Nat) (l : List Bd), cs = [.slice a l.length cap] ∧ BoundsAt W a l ∧ SliceOk a l.length cap ∧ l.length ≤ 9223372036854775807 ∧ ∀ b ∈ l, b.ok := by
  have c44 : Tryz.prog.cellsOf 47 = 4 := by kernel_rfl
  have c3 : Tryz.prog.cellsOf 3 = 1 := by kernel_rfl
  rcases open_slice Tryz.underlying22 h with ⟨h1, _⟩ | ⟨a, len, cap, m, n', D, Pl, hcs, _, hl, hm, hmm, _, hx⟩
  · exact ⟨none, 0, [], h1, .inl rfl, fun _ => ⟨rfl, rfl⟩, by simp, by simp⟩
  · have hmm' : m = cap := hmm
    rw [c44] at hx
    obtain ⟨l, hll, hlp⟩ := list_of (p := fun i (b : Bd) => (W.cell? ((a.add (i * 4)).add 0) = some (.int .i64 b.src) ∧ W.cell? ((a.add (i * 4)).add 1) = some (.int .i64 b.dst) ∧ W.cell? ((a.add (i * 4)).add 2) = some (.int .i64 b.most) ∧ W.cell? ((a.add (i * 4)).add 3) = some (.int .i64 b.rcd)) ∧ b.ok) len (fun i hi => by
      obtain ⟨cs', hc, ht⟩ := hx i (by omega)
      obtain ⟨_, hlen, hat⟩ := World.cells?_some hc
      match cs', hlen with
      | [u0, u1, u2, u3], _ =>
        obtain ⟨ys, n2, _, _, _, hyl, hf⟩ := DataW.trod_struct Tryz.underlying47 ht
        match ys, hyl with
        | [y0, y1, y2, y3], _ =>
          have f0 : DataW.trod enc Tryz.prog W 0 (fun _ => true) true n2 3 (([u0, u1, u2, u3].drop 0).take (Tryz.prog.cellsOf 3)) = some y0 := hf 0 _ rfl
          have f1 : DataW.trod enc Tryz.prog W 0 (fun _ => true) true n2 3 (([u0, u1, u2, u3].drop 1).take (Tryz.prog.cellsOf 3)) = some y1 := hf 1 _ rfl
          have f2 : DataW.trod enc Tryz.prog W 0 (fun _ => true) true n2 3 (([u0, u1, u2, u3].drop 2).take (Tryz.prog.cellsOf 3)) = some y2 := hf 2 _ rfl
          have f3 : DataW.trod enc Tryz.prog W 0 (fun _ => true) true n2 3 (([u0, u1, u2, u3].drop 3).take (Tryz.prog.cellsOf 3)) = some y3 := hf 3 _ rfl
          rw [c3] at f0 f1 f2 f3
          obtain ⟨k0, e0, o0⟩ := int_cell (v := u0) (y := y0) f0
          obtain ⟨k1, e1, o1⟩ := int_cell (v := u1) (y := y1) f1
          obtain ⟨k2, e2, o2⟩ := int_cell (v := u2) (y := y2) f2
          obtain ⟨k3, e3, o3⟩ := int_cell (v := u3) (y := y3) f3
          subst e0 e1 e2 e3
          exact ⟨⟨k0, k1, k2, k3⟩, ⟨hat 0 (by omega), hat 1 (by omega), hat 2 (by omega), hat 3 (by omega)⟩, o0, o1, o2, o3⟩)
    have hm2 : cap ≤ 9223372036854775807 := hm
    refine ⟨some a, cap, l, by rw [hcs, hll], ?_, (fun e => by cases e), by omega, fun x hx => ?_⟩
    · by_cases h0 : len = 0
      · exact .inl (List.length_eq_zero_iff.1 (by omega))
      · have z := (hlp 0 (by omega)).1.1
        have ha : a.spot = none := by
          have := (cell_plain z).1
          unfold Addr.add at this
          simpa using this
        obtain ⟨b, off, sp⟩ := a
        simp only at ha
        subst ha
        simp only [add_plain] at hlp
        refine .inr ⟨b, off, rfl, ?_, fun i hi => (hlp i hi).1⟩
        exact (cell_plain (hlp 0 (by omega)).1.1).2
    · obtain ⟨i, hi, rfl⟩ := List.getElem_of_mem hx
      exact (hlp i hi).2

set_option maxRecDepth 100000 in
theorem open_list {b0 : Nat} {W : World} {v : Value} {d : DataW H} {p : List MemPlace} (hv : Value.okWide Tryz.prog W .any b0 35 v) (h : DataW.Trod enc Tryz.prog W 0 (fun _ => true) true 35 v d p) :
    ∃ (a : Option Addr) (cap : Nat) (l : List Int), v = .slice a l.length cap ∧ IntsAt W a l ∧ SliceOk a l.length cap ∧ l.length ≤ 9223372036854775807 ∧ ∀ x ∈ l, i64ok x := by
  obtain ⟨n, hn⟩ := h
  obtain ⟨a, cap, l, h1, h2⟩ := ints_trod hn
  have hc : v = .slice a l.length cap := by
    have hs := okWide_slice Tryz.underlying35 hv
    obtain ⟨a', n', c', rfl⟩ := hs
    simpa [Value.cells] using h1
  exact ⟨a, cap, l, hc, h2⟩

set_option maxRecDepth 100000 in
theorem open_num {b0 : Nat} {W : World} {v : Value} {d : DataW H} {p : List MemPlace} (hv : Value.okWide Tryz.prog W .any b0 3 v) (h : DataW.Trod enc Tryz.prog W 0 (fun _ => true) true 3 v d p) : ∃ n : Int, v = .int .i64 n ∧ i64ok n := by
  obtain ⟨n, rfl, _, _, hw⟩ := open_int Tryz.underlying3 hv h
  refine ⟨n, rfl, ?_⟩
  have : IntKind.min .i64 ≤ n ∧ n ≤ IntKind.max .i64 := by simpa [Lit.wf] using hw
  simpa [i64ok, IntKind.min, IntKind.max, IntKind.signed, IntKind.bits] using this

set_option maxRecDepth 100000 in
/-- A system as an argument. -/
theorem open_sys {b0 : Nat} {W : World} {v : Value} {d : DataW H} {p : List MemPlace} (hv : Value.okWide Tryz.prog W .any b0 24 v) (h : DataW.Trod enc Tryz.prog W 0 (fun _ => true) true 24 v d p) :
    ∃ (N : Int) (a : Option Addr) (cap : Nat) (bs : List Bd), v = .agg #[.int .i64 N, .slice a bs.length cap] ∧ i64ok N ∧ BoundsAt W a bs ∧ SliceOk a bs.length cap ∧ bs.length ≤ 9223372036854775807 ∧ ∀ b ∈ bs, b.ok := by
  obtain ⟨v0, v1, y0, y1, n, rfl, _, _, h0, h1⟩ := open_agg2 Tryz.underlying24 (by kernel_rfl) (by kernel_rfl) hv h
  obtain ⟨N, rfl, hN⟩ := int_cell h0
  obtain ⟨a, cap, bs, e, h2⟩ := bounds_trod h1
  exact ⟨N, a, cap, bs, by simpa using e, hN, h2⟩
end

end Go.Proofs.YthcmjhellpjllaaGreat
