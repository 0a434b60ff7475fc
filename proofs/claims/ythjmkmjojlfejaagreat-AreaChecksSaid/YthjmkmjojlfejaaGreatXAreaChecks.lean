/- What the law AreaChecks needs beyond the base: Wa, Wm, Wk, Ws, Wt, Wu, Wx, PlG, PlH, Y1, PlP, PlQ, Y2, Mf4, Ad, Y3, Ae, Yd, Sd, Rf1, Mf7, Du1, Rf2, Y5, Yh, Rf3, Rf4, Rf5, Al1, Lr, Lk. No conditions beyond those stated. -/
import Derived.Test.YthjmkmjojlfejaaGreatB01
import Derived.Test.YthjmkmjojlfejaaGreatProg
import Derived.WalkKit
import Derived.Handy
import Derived.RangeFuncRecord
import Derived.Shelf.Abstract
import Derived.Deep.QuietTactic
import Derived.BigQuiet
import Derived.Laws.CopyOwn
import Derived.WalkSmall
import Derived.RangeFuncNested
import Derived.RangeFuncBound
import Derived.RangeFuncCalls
import Derived.RangeFuncLeaves
import Derived.Shelf.RegionOpen
import Derived.OwnWalkIn
import Derived.TacticsInMore
import Derived.LoopNIn
import Derived.LoopIn
import Derived.Maps.AppendAt
import Derived.Deep.Onto
import Derived.OrdersHeld
import Derived.Deep.LoopGhost
import Derived.Deep.WholeRow
import Derived.Deep.OwnRows
import Derived.StillTailTactics
import Derived.Test.YthjmkmjojlfejaaGreatB02
import Derived.Great.Walk
import Derived.Great.BuildSlice
import Derived.WalkMore
import Derived.Deep.MidRow
import Derived.Deep.RegionHeld3
import Derived.Deep.DeepCutAuto
import Derived.Shelf.Small.Bits
import Derived.Shelf.Small.Wraps
import Derived.Shelf.Strconv.Itoa0
import Derived.Shelf.Sort.Plain
import Derived.Shelf.Slices.Turned
import Derived.Ground.Names2Prog
import Derived.Shelf.Slices.CompactI
import Derived.Shelf.Slices.SearchI
import Derived.Shelf.Slices.Cells
import Derived.Shelf.Slices.In.SortNone
import Derived.Lib.OwnBridge
import Derived.Lib.SliceRun
import Derived.WalkSpells
import Derived.Deep.RegionWith
import Derived.Lib.AppendZerosOnto
import Derived.Deep.CutBlock
import Derived.Test.YthjmkmjojlfejaaGreatB03
import Derived.IntWalk
import Derived.Test.YthjmkmjojlfejaaGreatB05
import Derived.Test.YthjmkmjojlfejaaGreatB07
import Derived.Test.YthjmkmjojlfejaaGreatB06
import Derived.Test.YthjmkmjojlfejaaGreatB04
import Derived.Test.YthjmkmjojlfejaaGreatB12
import Derived.Test.YthjmkmjojlfejaaGreatB11
import Derived.Test.YthjmkmjojlfejaaGreatB10
import Derived.Test.YthjmkmjojlfejaaGreatB13
import Derived.Test.YthjmkmjojlfejaaGreatB09
import Derived.Test.YthjmkmjojlfejaaGreatB08
import Derived.Scope
import Derived.RangeFuncBox

namespace Go.Proofs.YthjmkmjojlfejaaGreat
open Go Go.RowKit Go.Shelf
theorem refwithin_any (n a b : Int) (w : World) : Calls Tryz.prog 180 #[.int .i64 n, .int .i64 a, .int .i64 b] w fun e w' => e = .returned (.bool (inR n a b)) ∧ w = w' := by
  unfold inR
  go_enter Tryz.func180, Tryz.ntmps180
  go_wp2
  all_goals go_ret
  all_goals refine ⟨?_, rfl⟩
  all_goals simp [*]
  omega
end Go.Proofs.YthjmkmjojlfejaaGreat

namespace Go.Proofs.YthjmkmjojlfejaaGreat
open Go Go.RowKit Go.Shelf
theorem ints_one (w : World) (x : Int) : IntsAt (w.alloc (.cells #[.int .i64 x] 3)) (some ⟨w.heap.size, 0, none⟩) [x] :=
  .inr ⟨_, _, rfl, by simp, fun i hi => by
    rw [cell_of_row _ _ _ _ _ _ (heap_alloc_new w _)]
    match i, hi with
    | 0, _ => rfl⟩
end Go.Proofs.YthjmkmjojlfejaaGreat

namespace Go.Proofs.YthjmkmjojlfejaaGreat
open Go Go.RowKit Go.Shelf
attribute [local go_sem] Oper.semAt_some
theorem info3 : (Tryz.prog.info? 3).map (fun i => (i.zero, i.size, i.bytes)) = some (some (.int .i64 0), 1, 8) := by kernel_rfl
end Go.Proofs.YthjmkmjojlfejaaGreat

namespace Go.Proofs.YthjmkmjojlfejaaGreat
open Go Go.RowKit Go.Shelf
def rcds (bs : List Bd) : List Int := (bs.filter fun b => decide (0 < b.rcd)).map Bd.rcd
def recordsP (bs : List Bd) : List Int := Lib.compact (sortP (rcds bs))
theorem rcds_snoc (bs : List Bd) (b : Bd) : rcds (bs ++ [b]) = rcds bs ++ (if 0 < b.rcd then [b.rcd] else []) := by
  unfold rcds
  rw [List.filter_append, List.map_append]
  by_cases h : 0 < b.rcd <;> simp [h]
end Go.Proofs.YthjmkmjojlfejaaGreat

namespace Go.Proofs.YthjmkmjojlfejaaGreat
open Go Go.RowKit Go.Shelf
/-- A list of integers that stands in a block. -/
theorem owns_block {W : World} {base g n cap : Nat} {xs : List Int} (h : W.ownsRow base 3 1 (.slice (some ⟨g, 0, none⟩) n cap) n (intsV xs)) : ∃ C, W.heap[g]? = some (.cells C 3 (0,0)) ∧ base ≤ g ∧ n ≤ cap ∧ cap ≤ maxLen ∧ C.size = cap ∧ C.toList.take n = intsV xs := by
  rcases h.2 with ⟨e, _⟩ | ⟨g', cp, cu, e, hb, hh, hn, hm, hs, ht⟩
  · cases e
  · cases e; exact ⟨cu, hh, hb, hn, hm, by omega, by simpa using ht⟩
end Go.Proofs.YthjmkmjojlfejaaGreat

namespace Go.Proofs.YthjmkmjojlfejaaGreat
open Go Go.RowKit Go.Shelf
/-- What a closure that tests bounds owes, where its own memory stands. -/
def TestsBoundsK (P : Program) (f : FuncId) (caps : Array Value) (Fix : Nat → Prop) (w : World) (bs : List Bd) (p : Bd → Bool) : Prop :=
  ∀ k (_ : k < bs.length) (W : World), KeepsB Fix w W → Calls P f (#[bs[k].val] ++ caps) W fun e W' => e = .returned (.bool (p bs[k])) ∧ Below W.heap.size W W'
set_option maxHeartbeats 400000 in
theorem indexFuncBounds_any (w : World) (a : Option Addr) (cap : Nat) (bs : List Bd) (f : FuncId) (caps : Array Value) (Fix : Nat → Prop) (p : Bd → Bool) (hl : bs.length ≤ 9223372036854775807) (h : BoundsAt w a bs)
    (hF : ∀ b, Fix b → b < w.heap.size) (hf : TestsBoundsK Tryz.prog f caps Fix w bs p) (eg : Enters Tryz.prog f) :
    Calls Tryz.prog 138 #[.slice a bs.length cap, .func (.func f) #[] caps] w fun e w' => e = .returned (.int .i64 (idxOf p bs)) ∧ Below w.heap.size w w' := by
  have H := hidE h
  have HF := hidE hf
  have HFx := hidE hF
  unfold Enters at eg
  clear h hf hF
  go_enter Tryz.func138, Tryz.ntmps138
  go_wp2
  go_loopw [8] (fun i wr => ∃ k : Nat, k ≤ bs.length ∧ i = .int .i64 k ∧ Hid ((bs.take k).any p = false) ∧ Below w.heap.size w wr)
      (fun i _ => bs.length - (intOf i).toNat)
  case atStart => exact ⟨0, by omega, rfl, hidE rfl, by go_grown⟩
  case round =>
    obtain ⟨k, hk, rfl, HA, hb⟩ := hrel
    by_cases hlt : k < bs.length
    · obtain ⟨b, off, rfl, hbl, hcs⟩ := H.out.at hlt
      obtain ⟨c0, c1, c2, c3⟩ := hcs.below hb hbl
      have hcall := HF.out k hlt wr (KeepsB.below hb HFx.out)
      unfold Bd.val at hcall
      obtain ⟨x, hx⟩ : ∃ x, bs[k] = x := ⟨_, rfl⟩
      rw [hx] at c0 c1 c2 c3 hcall
      have HX := hidE hx
      clear hx hcs
      obtain ⟨q, hq⟩ : ∃ q, p x = q := ⟨_, rfl⟩
      rw [hq] at hcall
      have HC := hidE hcall
      have HQ := hidE hq
      clear hcall hq
      cases q with
      | true =>
        go_wp2_with (go_at_fn f; refine HC.out.mono ?_; rintro e w' ⟨rfl, hb'⟩)
        go_ret
        exact ⟨by rw [idxOf_found hlt HA.out (by rw [HX.out]; exact HQ.out)]; rfl, hb.trans (hb'.mono hb.size)⟩
      | false =>
        go_wp2_with (go_at_fn f; refine HC.out.mono ?_; rintro e w' ⟨rfl, hb'⟩)
        go_roundw
        case rel => exact ⟨k + 1, by omega, by go_num, hidE (take_any_succ hlt HA.out (by rw [HX.out]; exact HQ.out)), hb.trans (hb'.mono hb.size)⟩
        case measure => simp [intOf]; omega
    · go_wp2_with fail
      go_ret
      exact ⟨by rw [idxOf_none (any_of_take (by omega) HA.out)]; rfl, hb⟩
end Go.Proofs.YthjmkmjojlfejaaGreat

namespace Go.Proofs.YthjmkmjojlfejaaGreat
open Go Go.RowKit Go.Shelf
theorem run_append_nil (w : World) (base : Nat) (t ty e : TypeId) (i : TypeInfo) (size : Nat) (ht : Tryz.prog.underlying t = some (.slice e)) (hi : Tryz.prog.info? e = some i)
    (v : Value) (n : Nat) (xs : List Value) (hown : w.ownsRow base e size v n xs) (c : Nat) : (Builtin.append_ #[t, t] ty #[v, .slice none 0 c]).run Tryz.prog w = .ok v w := by
  rcases hown.2 with ⟨rfl, rfl⟩ | ⟨g, cap, cur, rfl, _, _, hnc, _⟩
  · simp [Builtin.append_, run_underlying ht, sizeOf, typeInfo, hi, Builtin.lenOf, Builtin.firstCells]
  · simp [Builtin.append_, run_underlying ht, sizeOf, typeInfo, hi, Builtin.lenOf, Builtin.firstCells, hnc, storeCells]
theorem intsV_oneV (l : List Int) : ∀ u ∈ intsV l, u.oneCell' = true := by intro u hu; simp [intsV] at hu; obtain ⟨q, _, rfl⟩ := hu; rfl
theorem intsAt_news {w : World} {b off : Nat} {l : List Int} (h : ∀ i (hi : i < l.length), w.cell? ⟨b, off + i, none⟩ = some (.int .i64 l[i])) : ∀ j u, (intsV l)[j]? = some u → w.cell? ((⟨b, off, none⟩ : Addr).add j) = some u := by
  intro j u hj
  rw [show ((⟨b, off, none⟩ : Addr).add j) = ⟨b, off + j, none⟩ from by unfold Addr.add; split <;> simp_all]
  have hlt : j < l.length := by have := (List.getElem?_eq_some_iff.1 hj).1; simpa [intsV] using this
  rw [h j hlt]
  simpa [intsV, hlt] using hj
theorem intsV_cat (a b : List Int) : intsV (a ++ b) = intsV a ++ intsV b := by simp [intsV]
theorem append_ints (w : World) (base : Nat) (v : Value) (xs : List Int) (hown : w.ownsRow base 3 1 v xs.length (intsV xs)) (a : Option Addr) (cap : Nat) (l : List Int) (h : IntsAt w a l) (hx : xs.length ≤ 100000) (hl : l.length ≤ 100000) (hb : base ≤ w.heap.size) (ty : TypeId) :
    ∃ v' w', (Builtin.append_ #[25, 25] ty #[v, .slice a l.length cap]).run Tryz.prog w = .ok v' w' ∧ w'.ownsRow base 3 1 v' (xs ++ l).length (intsV (xs ++ l)) ∧ Below base w w' := by
  obtain ⟨i0, hi, hz0, hz1, hz2⟩ := info_parts info3
  cases a with
  | none =>
    have hl0 : l = [] := by rcases h with e | ⟨b, off, e, _⟩; exact e; cases e
    subst hl0
    exact ⟨v, w, run_append_nil w base 25 ty 3 i0 1 Tryz.underlying25 hi v _ _ hown cap, by simpa using hown, Below.refl _ _⟩
  | some ad =>
    have hnews : ∀ j u, (intsV l)[j]? = some u → w.cell? (ad.add j) = some u := by
      rcases h with e | ⟨b, off, e, _, hc⟩
      · subst e; intro j u hj; simp [intsV] at hj
      · cases e; exact intsAt_news hc
    obtain ⟨v', w', hrun, h2, h3, _, h5⟩ := run_append_own_at (P := Tryz.prog) w base 25 ty 3 i0 _ 1 8 Tryz.underlying25 hi hz0 hz1 hz2 rfl (by decide) v _ _ hown ad l.length cap (intsV l) (by simp [intsV]) hnews (intsV_oneV l) (by unfold maxLen; omega) (by omega) hb
    refine ⟨v', w', hrun, by rw [List.length_append, intsV_cat]; exact h2, (Below.refl base w).grown h3 hb (fun q e => ?_)⟩
    rcases hown.2 with ⟨e1, _⟩ | ⟨g1, cp', cu, e1, hge, hh, _⟩
    · rw [e1] at e; simp [Value.ownBlock] at e
    · rw [e1] at e
      simp only [Value.ownBlock, Option.some.injEq] at e
      omega
end Go.Proofs.YthjmkmjojlfejaaGreat

namespace Go.Proofs.YthjmkmjojlfejaaGreat
/-- Ascending lists with the same numbers are the same. -/
theorem asc_ext : ∀ {l m : List Int}, l.Pairwise (· < ·) → m.Pairwise (· < ·) → (∀ x, x ∈ l ↔ x ∈ m) → l = m
  | [], [], _, _, _ => rfl
  | [], b :: m, _, _, h => by have := (h b).2 (List.mem_cons_self ..); simp at this
  | a :: l, [], _, _, h => by have := (h a).1 (List.mem_cons_self ..); simp at this
  | a :: l, b :: m, hl, hm, h => by
    rw [List.pairwise_cons] at hl hm
    have e : a = b := by
      rcases List.mem_cons.1 ((h a).1 (List.mem_cons_self ..)) with e | e
      · exact e
      · rcases List.mem_cons.1 ((h b).2 (List.mem_cons_self ..)) with e2 | e2
        · exact e2.symm
        · have := hm.1 a e; have := hl.1 b e2; omega
    subst e
    congr 1
    refine asc_ext hl.2 hm.2 (fun x => ⟨fun hx => ?_, fun hx => ?_⟩)
    · rcases List.mem_cons.1 ((h x).1 (List.mem_cons_of_mem _ hx)) with e | e
      · have := hl.1 x hx; omega
      · exact e
    · rcases List.mem_cons.1 ((h x).2 (List.mem_cons_of_mem _ hx)) with e | e
      · have := hm.1 x hx; omega
      · exact e
/-- The reference's insert. -/
def insAt (l : List Int) (n : Int) : Nat := (l.takeWhile fun x => decide (x < n)).length
def insertP (l : List Int) (n : Int) : List Int := if (l.drop (insAt l n)).head? = some n then l else l.take (insAt l n) ++ [n] ++ l.drop (insAt l n)
theorem insAt_le (l : List Int) (n : Int) : insAt l n ≤ l.length := by
  unfold insAt; exact (List.takeWhile_sublist _).length_le
theorem take_ins (l : List Int) (n : Int) : ∀ x ∈ l.take (insAt l n), x < n := by
  unfold insAt
  induction l with
  | nil => intro x hx; simp at hx
  | cons y l ih =>
    intro x hx
    by_cases h : y < n
    · simp only [List.takeWhile_cons, h, decide_true, if_true, List.length_cons, List.take_succ_cons] at hx
      rcases List.mem_cons.1 hx with e | e
      · omega
      · exact ih x e
    · simp [h] at hx
theorem drop_ins {l : List Int} {n : Int} (hl : l.Pairwise (· < ·)) : ∀ x ∈ l.drop (insAt l n), n ≤ x := by
  unfold insAt
  induction l with
  | nil => intro x hx; simp at hx
  | cons y l ih =>
    intro x hx
    rw [List.pairwise_cons] at hl
    by_cases h : y < n
    · simp only [List.takeWhile_cons, h, decide_true, if_true, List.length_cons, List.drop_succ_cons] at hx
      exact ih hl.2 x hx
    · simp only [List.takeWhile_cons, h, decide_false, Bool.false_eq_true, if_false, List.length_nil, List.drop_zero] at hx
      rcases List.mem_cons.1 hx with e | e
      · omega
      · have := hl.1 x e; omega
theorem mem_insertP {l : List Int} {n x : Int} : x ∈ insertP l n ↔ x = n ∨ x ∈ l := by
  unfold insertP
  split
  · rename_i h
    constructor
    · exact .inr
    · rintro (e | e)
      · subst e
        exact List.mem_of_mem_drop (List.mem_of_mem_head? h)
      · exact e
  · have : x ∈ l ↔ x ∈ l.take (insAt l n) ∨ x ∈ l.drop (insAt l n) := by rw [← List.mem_append, List.take_append_drop]
    rw [this]
    simp only [List.mem_append, List.mem_singleton]
    constructor
    · rintro ((h | h) | h)
      · exact .inr (.inl h)
      · exact .inl h
      · exact .inr (.inr h)
    · rintro (h | h | h)
      · exact .inl (.inr h)
      · exact .inl (.inl h)
      · exact .inr h
theorem insertP_asc {l : List Int} {n : Int} (hl : l.Pairwise (· < ·)) : (insertP l n).Pairwise (· < ·) := by
  unfold insertP
  split
  · exact hl
  · rename_i h
    have h1 := take_ins l n
    have h2 := drop_ins (n := n) hl
    have hd : ∀ x ∈ l.drop (insAt l n), n < x := by
      intro x hx
      cases hq : l.drop (insAt l n) with
      | nil => rw [hq] at hx; simp at hx
      | cons y r =>
        rw [hq] at h hx h2
        have hp : (y :: r).Pairwise (· < ·) := by rw [← hq]; exact hl.sublist (List.drop_sublist _ _)
        rw [List.pairwise_cons] at hp
        simp only [List.head?_cons, Option.some.injEq] at h
        have hy := h2 y (List.mem_cons_self ..)
        rcases List.mem_cons.1 hx with e | e
        · omega
        · have := hp.1 x e; omega
    rw [List.pairwise_append, List.pairwise_append]
    refine ⟨⟨hl.sublist (List.take_sublist _ _), by simp, fun x hx y hy => by rw [List.mem_singleton.1 hy]; exact h1 x hx⟩, hl.sublist (List.drop_sublist _ _), fun x hx y hy => ?_⟩
    rcases List.mem_append.1 hx with e | e
    · have := h1 x e; have := hd y hy; omega
    · rw [List.mem_singleton.1 e]; exact hd y hy
end Go.Proofs.YthjmkmjojlfejaaGreat

namespace Go.Proofs.YthjmkmjojlfejaaGreat
open Go
theorem recordsP_asc (bs : List Bd) : (recordsP bs).Pairwise (· < ·) := (compact_asc (sortP_le _)).1
theorem mem_recordsP {bs : List Bd} {x : Int} : x ∈ recordsP bs ↔ ∃ b ∈ bs, 0 < b.rcd ∧ b.rcd = x := by
  unfold recordsP
  rw [(compact_asc (sortP_le _)).2, mem_sortP]
  unfold rcds
  simp only [List.mem_map, List.mem_filter, decide_eq_true_eq, and_assoc]
/-- The reference's Blame: the records put in one by one. -/
def blStep (fine : Int → Bool) (out : List Int) (b : Bd) : List Int := if 0 < b.rcd ∧ fine b.rcd = true then insertP out b.rcd else out
theorem blFold_asc (fine : Int → Bool) : ∀ (bs : List Bd) (out : List Int), out.Pairwise (· < ·) → (bs.foldl (blStep fine) out).Pairwise (· < ·) ∧ ∀ x, x ∈ bs.foldl (blStep fine) out ↔ x ∈ out ∨ ∃ b ∈ bs, 0 < b.rcd ∧ fine b.rcd = true ∧ b.rcd = x
  | [], out, h => by simp [h]
  | b :: bs, out, h => by
    rw [List.foldl_cons]
    have hs : (blStep fine out b).Pairwise (· < ·) ∧ ∀ x, x ∈ blStep fine out b ↔ x ∈ out ∨ (0 < b.rcd ∧ fine b.rcd = true ∧ b.rcd = x) := by
      unfold blStep
      split
      · rename_i hc
        refine ⟨insertP_asc h, fun x => ?_⟩
        rw [mem_insertP]
        constructor
        · rintro (e | e)
          · exact .inr ⟨hc.1, hc.2, e.symm⟩
          · exact .inl e
        · rintro (e | ⟨_, _, e⟩)
          · exact .inr e
          · exact .inl e.symm
      · rename_i hc
        refine ⟨h, fun x => ⟨.inl, ?_⟩⟩
        rintro (e | ⟨e1, e2, _⟩)
        · exact e
        · exact absurd ⟨e1, e2⟩ hc
    obtain ⟨h1, h2⟩ := blFold_asc fine bs _ hs.1
    refine ⟨h1, fun x => ?_⟩
    rw [h2 x, hs.2 x]
    simp only [List.mem_cons, exists_eq_or_imp]
    constructor
    · rintro ((e | e) | e)
      · exact .inl e
      · exact .inr (.inl e)
      · exact .inr (.inr e)
    · rintro (e | e | e)
      · exact .inl (.inl e)
      · exact .inl (.inr e)
      · exact .inr e
theorem blame_fold (fine : Int → Bool) (bs : List Bd) : bs.foldl (blStep fine) [] = (recordsP bs).filter fine := by
  obtain ⟨h1, h2⟩ := blFold_asc fine bs [] List.Pairwise.nil
  refine asc_ext h1 ((recordsP_asc bs).sublist List.filter_sublist) (fun x => ?_)
  rw [h2 x, List.mem_filter, mem_recordsP]
  constructor
  · rintro (e | ⟨b, hb, e1, e2, rfl⟩)
    · simp at e
    · exact ⟨⟨b, hb, e1, rfl⟩, e2⟩
  · rintro ⟨⟨b, hb, e1, rfl⟩, e2⟩
    exact .inr ⟨b, hb, e1, e2, rfl⟩
theorem blFold_len (fine : Int → Bool) : ∀ (bs : List Bd) (out : List Int), (bs.foldl (blStep fine) out).length ≤ out.length + bs.length
  | [], out => Nat.le_refl _
  | b :: bs, out => by
    rw [List.foldl_cons]
    have := blFold_len fine bs (blStep fine out b)
    have h2 : (blStep fine out b).length ≤ out.length + 1 := by
      unfold blStep insertP
      split
      · split
        · omega
        · simp; have := insAt_le out b.rcd; omega
      · omega
    simp only [List.length_cons]; omega
end Go.Proofs.YthjmkmjojlfejaaGreat

namespace Go.Proofs.YthjmkmjojlfejaaGreat
open Go Go.RowKit Go.Shelf
theorem refwithin_at {n a b : Int} {r : Bool} (h : inR n a b = r) (w : World) : Calls Tryz.prog 180 #[.int .i64 n, .int .i64 a, .int .i64 b] w fun e w' => e = .returned (.bool r) ∧ w = w' := by
  rw [← h]; exact refwithin_any n a b w
theorem checkP_bad {N : Int} {bs : List Bd} (h1 : ¬ 128 < N) (h2 : ¬ 2000 < bs.length) (h3 : ¬ N < 1) {k : Nat} (hk : k < bs.length) (hb : badB N bs[k] = true) : checkP N bs = 1 := by
  rw [checkP, if_neg (by omega), checkedP, if_neg h3, any_of_at hk hb]; rfl
set_option maxHeartbeats 2000000 in
theorem refcheck_any (w : World) (N : Int) (a : Option Addr) (cap : Nat) (bs : List Bd) (hN : i64ok N) (hl : bs.length ≤ 9223372036854775807) (h : BoundsAt w a bs) :
    Calls Tryz.prog 130 #[.agg #[.int .i64 N, .slice a bs.length cap]] w fun e w' => e = .returned (.int .i64 (checkP N bs)) ∧ Below w.heap.size w w' := by
  unfold i64ok at hN
  by_cases h1 : 128 < N
  · have e : checkP N bs = 2 := by simp [checkP, h1]
    have E := hidE e
    have hd : decide (N > 128) = true := by simpa using h1
    clear e
    go_enter Tryz.func130, Tryz.ntmps130
    go_wp2
    go_ret
    exact ⟨by rw [E.out]; rfl, by go_grown⟩
  have hd1 : decide (N > 128) = false := by simpa using h1
  by_cases h2 : 2000 < bs.length
  · have e : checkP N bs = 2 := by simp [checkP, h2]
    have E := hidE e
    have hd : decide ((bs.length : Int) > 2000) = true := by simp; omega
    clear e
    go_enter Tryz.func130, Tryz.ntmps130
    go_wp2
    go_ret
    exact ⟨by rw [E.out]; rfl, by go_grown⟩
  have hd2 : decide ((bs.length : Int) > 2000) = false := by simp; omega
  by_cases h3 : N < 1
  · have e : checkP N bs = 1 := by rw [checkP, if_neg (by omega), checkedP, if_pos h3]
    have E := hidE e
    clear e
    go_enter Tryz.func130, Tryz.ntmps130
    go_wp2
    go_ret
    exact ⟨by rw [E.out]; rfl, by go_grown⟩
  have hw1 : IntKind.i64.wrap (N - 1) = N - 1 := IntWalk.i64_in _ (by omega)
  go_enter Tryz.func130, Tryz.ntmps130
  go_wp2
  go_loopw [3] (fun i wr => ∃ k : Nat, k ≤ bs.length ∧ i = .int .i64 k ∧ Hid ((bs.take k).any (badB N) = false) ∧ Hid (wr.heap[w.heap.size]? = some (.cells #[.int .i64 N, .slice a bs.length cap] 24 (0,0))) ∧ Below w.heap.size w wr)
      (fun i _ => bs.length - (intOf i).toNat)
  case atStart => exact ⟨0, by omega, rfl, hidE rfl, hidE (heap_alloc_new _ _), by go_grown⟩
  case round =>
    obtain ⟨k, hk, rfl, HA, HS, hb⟩ := hrel
    have hc0 : wr.cell? ⟨w.heap.size, 0, none⟩ = some (.int .i64 N) := by rw [cell_of_row _ _ _ _ _ _ HS.out]; rfl
    have hc1 : wr.cell? ⟨w.heap.size, 1, none⟩ = some (.slice a bs.length cap) := by rw [cell_of_row _ _ _ _ _ _ HS.out]; rfl
    have hsz : w.heap.size < wr.heap.size := lt_of_block HS.out
    by_cases hlt : k < bs.length
    · obtain ⟨b, off, rfl, hbl, hcs⟩ := h.at hlt
      obtain ⟨c0, c1, c2, c3⟩ := hcs.below hb hbl
      obtain ⟨x, hx⟩ : ∃ x, bs[k] = x := ⟨_, rfl⟩
      rw [hx] at c0 c1 c2 c3
      have hbad : badB N bs[k] = (!inR x.src 0 (N - 1) || !inR x.dst 0 (N - 1) || x.src == x.dst || !inR x.most (-1000000) 1000000 || !inR x.rcd 0 1000000) := by rw [hx]; rfl
      obtain ⟨r1, q1⟩ : ∃ r, inR x.src 0 (N - 1) = r := ⟨_, rfl⟩
      obtain ⟨r2, q2⟩ : ∃ r, inR x.dst 0 (N - 1) = r := ⟨_, rfl⟩
      obtain ⟨r3, q3⟩ : ∃ r, inR x.most (-1000000) 1000000 = r := ⟨_, rfl⟩
      obtain ⟨r4, q4⟩ : ∃ r, inR x.rcd 0 1000000 = r := ⟨_, rfl⟩
      rw [q1, q2, q3, q4] at hbad
      have HH := hidE h
      have HB := hidE hbad
      have Q1 := hidE q1
      have Q2 := hidE q2
      have Q3 := hidE q3
      have Q4 := hidE q4
      obtain ⟨xs, xd, xm, xr⟩ := x
      simp only at c0 c1 c2 c3
      clear hcs h hx hbad q1 q2 q3 q4
      have stay : badB N bs[k] = false → ∃ k' : Nat, k' ≤ bs.length ∧ Value.int .i64 ((k : Int) + 1) = .int .i64 k' ∧ Hid ((bs.take k').any (badB N) = false) := fun hf => ⟨k + 1, by omega, by go_num, hidE (take_any_succ hlt HA.out hf)⟩
      have ST := hidE stay
      have CB := hidE (fun hf : badB N bs[k] = true => checkP_bad (by omega) (by omega) (by omega) hlt hf)
      clear stay
      cases r1 with
      | false =>
        go_wp2_with (go_at_call 180; first | ((with_reducible refine (refwithin_at Q1.out _).mono ?_); rintro e w' ⟨rfl, rfl⟩))
        go_ret
        exact ⟨by rw [CB.out (by rw [HB.out]; rfl)]; rfl, by go_grown⟩
      | true =>
        cases r2 with
        | false =>
          go_wp2_with (go_at_call 180; first | ((with_reducible refine (refwithin_at Q1.out _).mono ?_); rintro e w' ⟨rfl, rfl⟩) | ((with_reducible refine (refwithin_at Q2.out _).mono ?_); rintro e w' ⟨rfl, rfl⟩))
          go_ret
          exact ⟨by rw [CB.out (by rw [HB.out]; rfl)]; rfl, by go_grown⟩
        | true =>
          cases r3 with
          | false =>
            go_wp2_with (go_at_call 180; first | ((with_reducible refine (refwithin_at Q1.out _).mono ?_); rintro e w' ⟨rfl, rfl⟩) | ((with_reducible refine (refwithin_at Q2.out _).mono ?_); rintro e w' ⟨rfl, rfl⟩) | ((with_reducible refine (refwithin_at Q3.out _).mono ?_); rintro e w' ⟨rfl, rfl⟩))
            go_ret
            exact ⟨by rw [CB.out (by rw [HB.out]; simp)]; rfl, by go_grown⟩
          | true =>
            cases r4 with
            | false =>
              go_wp2_with (go_at_call 180; first | ((with_reducible refine (refwithin_at Q1.out _).mono ?_); rintro e w' ⟨rfl, rfl⟩) | ((with_reducible refine (refwithin_at Q2.out _).mono ?_); rintro e w' ⟨rfl, rfl⟩) | ((with_reducible refine (refwithin_at Q3.out _).mono ?_); rintro e w' ⟨rfl, rfl⟩) | ((with_reducible refine (refwithin_at Q4.out _).mono ?_); rintro e w' ⟨rfl, rfl⟩))
              go_ret
              exact ⟨by rw [CB.out (by rw [HB.out]; simp)]; rfl, by go_grown⟩
            | true =>
              by_cases he : xs = xd
              · have hbe : (xs == xd) = true := by simpa using he
                have HBE := hidE hbe
                go_wp2_with (go_at_call 180; first | ((with_reducible refine (refwithin_at Q1.out _).mono ?_); rintro e w' ⟨rfl, rfl⟩) | ((with_reducible refine (refwithin_at Q2.out _).mono ?_); rintro e w' ⟨rfl, rfl⟩) | ((with_reducible refine (refwithin_at Q3.out _).mono ?_); rintro e w' ⟨rfl, rfl⟩) | ((with_reducible refine (refwithin_at Q4.out _).mono ?_); rintro e w' ⟨rfl, rfl⟩))
                go_ret
                exact ⟨by rw [CB.out (by rw [HB.out, HBE.out]; simp)]; rfl, by go_grown⟩
              · have hbe : (xs == xd) = false := by simpa using he
                have HBE := hidE hbe
                go_wp2_with (go_at_call 180; first | ((with_reducible refine (refwithin_at Q1.out _).mono ?_); rintro e w' ⟨rfl, rfl⟩) | ((with_reducible refine (refwithin_at Q2.out _).mono ?_); rintro e w' ⟨rfl, rfl⟩) | ((with_reducible refine (refwithin_at Q3.out _).mono ?_); rintro e w' ⟨rfl, rfl⟩) | ((with_reducible refine (refwithin_at Q4.out _).mono ?_); rintro e w' ⟨rfl, rfl⟩))
                go_roundw
                case rel =>
                  obtain ⟨k', g1, g2, g3⟩ := ST.out (by rw [HB.out, HBE.out]; rfl)
                  exact ⟨k', g1, g2, g3, hidE ((Below.heap_alloc _ _ _ hsz).trans HS.out), by go_grown⟩
                case measure => simp [intOf]; omega
    · have e : checkP N bs = 0 := by rw [checkP, if_neg (by omega), checkedP, if_neg (by omega), any_of_take (by omega) HA.out]; rfl
      have E := hidE e
      clear e
      go_wp2
      go_ret
      exact ⟨by rw [E.out]; rfl, hb⟩
end Go.Proofs.YthjmkmjojlfejaaGreat

namespace Go.Proofs.YthjmkmjojlfejaaGreat
def bAt (bs : List Bd) (i : Int) : Bd := bs.getD i.toNat bd0
/-- The numbers are indices of bounds. -/
def indexP (n : Nat) (l : List Int) : Bool := !(l.any fun i => !inR i 0 ((n : Int) - 1))
theorem indexP_iff {n : Nat} {l : List Int} : indexP n l = true ↔ ∀ i ∈ l, 0 ≤ i ∧ i < n := by
  unfold indexP
  simp only [Bool.not_eq_true', List.any_eq_false]
  constructor
  · intro h i hi; have := inR_true.1 (by simpa using h i hi); omega
  · intro h i hi; have := h i hi; simp [inR_true.2 (show 0 ≤ i ∧ i ≤ (n : Int) - 1 by omega)]
end Go.Proofs.YthjmkmjojlfejaaGreat

namespace Go.Proofs.YthjmkmjojlfejaaGreat
def keptB (y : List Int) (b : Bd) : Bool := decide (b.most < getI y b.dst - getI y b.src)
/-- Kept: the index, whether all are kept, the error. -/
def keptE (N : Int) (bs : List Bd) (y : List Int) : Int × Bool × Int :=
  if checkP N bs ≠ 0 then (0, false, checkP N bs) else if valuesB N y = false then (0, false, 1) else (max (idxOf (keptB y) bs) 0, decide (idxOf (keptB y) bs < 0), 0)
/-- Values that keep a system. -/
structure Keeps (N : Nat) (bs : List Bd) (y : List Int) : Prop where
  len : y.length = N
  zero : y.getD 0 0 = 0
  bd : ∀ v ∈ y, -400000000 ≤ v ∧ v ≤ 400000000
  pot : Pot y bs
theorem kept_pot {bs : List Bd} {y : List Int} : idxOf (keptB y) bs < 0 ↔ Pot y bs := by
  rw [idxOf_neg]
  unfold Pot keptB
  simp only [List.any_eq_false, decide_eq_true_eq]
  constructor
  · intro h b hb; have := h b hb; omega
  · intro h b hb; have := h b hb; omega
theorem keptE_iff {N : Nat} {bs : List Bd} {y : List Int} (hc : checkP N bs = 0) : (keptE N bs y).2.1 = true ↔ Keeps N bs y := by
  unfold keptE
  rw [if_neg (by simp [hc])]
  split
  · rename_i h
    constructor
    · intro e; simp at e
    · intro k; rw [valuesB_iff.2 ⟨k.len, k.zero, k.bd⟩] at h; simp at h
  · rename_i h
    have h2 := valuesB_iff.1 (by simpa using h)
    simp only [decide_eq_true_eq]
    rw [kept_pot]
    exact ⟨fun p => ⟨h2.1, h2.2.1, h2.2.2, p⟩, fun k => k.pot⟩
theorem keptE_bad {N : Int} {bs : List Bd} {y : List Int} (h : (keptE N bs y).2.1 = true) : (keptE N bs y).2.2 = 0 ∧ checkP N bs = 0 := by
  unfold keptE at h ⊢
  split at h
  · simp at h
  · rename_i h1
    rw [if_neg h1]
    split at h
    · simp at h
    · rename_i h2
      rw [if_neg h2]
      exact ⟨rfl, Classical.not_not.1 h1⟩
end Go.Proofs.YthjmkmjojlfejaaGreat

namespace Go.Proofs.YthjmkmjojlfejaaGreat
open Go Go.RowKit Go.Shelf
theorem within_at {n a b : Int} {r : Bool} (h : inR n a b = r) (w : World) : Calls Tryz.prog 185 #[.int .i64 n, .int .i64 a, .int .i64 b] w fun e w' => e = .returned (.bool r) ∧ w = w' := by
  rw [← h]; exact within_any n a b w
theorem values1_any (w : World) (v : Int) : Calls Tryz.prog 184 #[.int .i64 v] w fun e w' => e = .returned (.bool (!inR v (-400000000) 400000000)) ∧ w = w' := by
  obtain ⟨r, hr⟩ : ∃ r, inR v (-400000000) 400000000 = r := ⟨_, rfl⟩
  rw [hr]
  have HR := hidE hr
  clear hr
  go_enter Tryz.func184, Tryz.ntmps184
  go_wp2_with (go_at_call 185; refine (within_at HR.out _).mono ?_; rintro e w' ⟨rfl, rfl⟩)
  go_ret
  exact ⟨rfl, rfl⟩
set_option maxHeartbeats 400000 in
theorem values_any (w : World) (N : Int) (sv : Value) (a : Option Addr) (cap : Nat) (y : List Int) (hN0 : 1 ≤ N) (hN1 : N ≤ 128) (hl : y.length ≤ 9223372036854775807) (h : IntsAt w a y) :
    Calls Tryz.prog 137 #[.agg #[.int .i64 N, sv], .slice a y.length cap] w fun e w' => e = .returned (.bool (valuesB N y)) ∧ Below w.heap.size w w' := by
  by_cases h1 : (y.length : Int) = N
  · have h1b : ((y.length : Int) == N) = true := by simpa using h1
    have hlt : 0 < y.length := by omega
    obtain ⟨b, off, rfl, hbl, hc⟩ := h.at hlt
    have hg : y.getD 0 0 = y[0] := getD_get y 0 hlt
    obtain ⟨v, hv⟩ : ∃ v, y[0] = v := ⟨_, rfl⟩
    rw [hv] at hc hg
    rw [Nat.add_zero] at hc
    by_cases h2 : v = 0
    · have h2b : (v == 0) = true := by simpa using h2
      have hq := containsFuncInts_any (w.alloc (.cells #[.int .i64 N, sv] 24)) (some ⟨b, off, none⟩) cap y 184 #[] (fun v => !inR v (-400000000) 400000000) hl (h.alloc _) (fun k hk W hb => (values1_any W y[k]).mono fun _ _ ⟨he, hw⟩ => ⟨he, hw ▸ Below.refl _ _⟩) (enters_of Tryz.func184 (by kernel_rfl) rfl)
      have hval : valuesB N y = !(y.any fun v => !inR v (-400000000) 400000000) := by unfold valuesB; rw [hg, h1]; simp [h2]
      obtain ⟨r, hr⟩ : ∃ r, (y.any fun v => !inR v (-400000000) 400000000) = r := ⟨_, rfl⟩
      rw [hr] at hq hval
      have HQ := hidE hq
      have HV := hidE hval
      clear hq hval hr hg hv h1 h2 h
      go_enter Tryz.func137, Tryz.ntmps137
      go_wp2_with fail
      refine HQ.out.mono ?_
      rintro e w1 ⟨rfl, hb1⟩
      go_wp2_with fail
      go_ret
      exact ⟨by rw [HV.out]; rfl, ((Below.refl _ _).alloc (Nat.le_refl _) _).trans (hb1.mono (by simp))⟩
    · have h2b : (v == 0) = false := by simpa using h2
      have hval : valuesB N y = false := by unfold valuesB; rw [hg]; simp [h2]
      have HV := hidE hval
      clear hval hg hv h1 h2 h
      go_enter Tryz.func137, Tryz.ntmps137
      go_wp2_with fail
      go_ret
      exact ⟨by rw [HV.out]; rfl, by go_grown⟩
  · have h1b : ((y.length : Int) == N) = false := by simpa using h1
    have hval : valuesB N y = false := by unfold valuesB; simp [h1]
    have HV := hidE hval
    clear hval h1 h
    go_enter Tryz.func137, Tryz.ntmps137
    go_wp2_with fail
    go_ret
    exact ⟨by rw [HV.out]; rfl, by go_grown⟩
set_option maxHeartbeats 400000 in
theorem kept1_any (w : World) (b : Bd) (N bl : Nat) (a : Option Addr) (cap : Nat) (y : List Int) (hb : b.valid N) (hN : y.length = N) (_hN1 : N ≤ 128) (hv : ∀ v ∈ y, -400000000 ≤ v ∧ v ≤ 400000000) (h : IntsAt w a y) (hc : w.cell? ⟨bl, 0, none⟩ = some (.slice a y.length cap)) (hbl : bl < w.heap.size) :
    Calls Tryz.prog 139 #[b.val, .pointer (some ⟨bl, 0, none⟩)] w fun e w' => e = .returned (.bool (keptB y b)) ∧ Below w.heap.size w w' := by
  obtain ⟨v1, v2, v3, v4, v5, v6⟩ := hb
  obtain ⟨ys, yd, ym, yr⟩ := b
  simp only at v1 v2 v3 v4 v5 v6
  obtain ⟨si, rfl⟩ := Int.eq_ofNat_of_zero_le v1
  obtain ⟨di, rfl⟩ := Int.eq_ofNat_of_zero_le v3
  have hs : si < y.length := by omega
  have hd : di < y.length := by omega
  obtain ⟨b, off, rfl, hbw, hcs⟩ := h.at hs
  obtain ⟨b', off', e', _, hcd⟩ := h.at hd
  cases e'
  have q1 := hv y[si] (List.getElem_mem _)
  have q2 := hv y[di] (List.getElem_mem _)
  have hkb : keptB y ⟨si, di, ym, yr⟩ = decide (ym < y[di] - y[si]) := by
    unfold keptB getI
    rw [decide_eq_decide]
    simp only [Int.toNat_natCast]
    rw [getD_get y 0 hs, getD_get y 0 hd]
  obtain ⟨x, hx⟩ : ∃ x, y[si] = x := ⟨_, rfl⟩
  obtain ⟨z, hz⟩ : ∃ z, y[di] = z := ⟨_, rfl⟩
  rw [hx, hz] at hkb
  rw [hx] at hcs q1
  rw [hz] at hcd q2
  have s0 : (si : Int) < y.length := by omega
  have d0 : (di : Int) < y.length := by omega
  have hw1 : IntKind.i64.wrap (z - x) = z - x := IntWalk.i64_in _ (by omega)
  have HK := hidE hkb
  have hbl1 : bl < w.heap.size + 1 := by omega
  clear hkb hx hz hN h hv hbw
  unfold Bd.val
  go_enter Tryz.func139, Tryz.ntmps139
  go_wp2_with fail
  go_quiet (fail)
  go_wp2_with fail
  go_ret
  exact ⟨by rw [HK.out]; rfl, ((Below.refl _ _).alloc (Nat.le_refl _) _).trans (below_drewN' _ _)⟩
set_option maxHeartbeats 1000000 in
theorem kept_any (w : World) (N : Int) (a : Option Addr) (cap : Nat) (bs : List Bd) (a2 : Option Addr) (cap2 : Nat) (y : List Int) (hN : i64ok N) (hl : bs.length ≤ 9223372036854775807) (hl2 : y.length ≤ 9223372036854775807) (h : BoundsAt w a bs) (h2 : IntsAt w a2 y) :
    Calls Tryz.prog 67 #[.agg #[.int .i64 N, .slice a bs.length cap], .slice a2 y.length cap2] w fun e w' => e = .returned (.tuple #[.int .i64 (keptE N bs y).1, .bool (keptE N bs y).2.1, .int .i64 (keptE N bs y).2.2]) ∧ Below w.heap.size w w' := by
  obtain ⟨W0, hW0⟩ : ∃ W0, W0 = (w.alloc (.cells #[.int .i64 N, .slice a bs.length cap] 24)).alloc (.cells #[.slice a2 y.length cap2] 25) := ⟨_, rfl⟩
  have b0 : Below w.heap.size w W0 := by rw [hW0]; exact ((Below.refl _ _).alloc (Nat.le_refl _) _).alloc (by simp) _
  have x0 : W0.heap[w.heap.size]? = some (.cells #[.int .i64 N, .slice a bs.length cap] 24 (0,0)) := by rw [hW0, Below.heap_alloc _ _ _ (by simp), heap_alloc_new]
  have x1 : W0.heap[w.heap.size + 1]? = some (.cells #[.slice a2 y.length cap2] 25 (0,0)) := by rw [hW0, heap_alloc_at _ _ _ (by simp)]
  have hck := check_any W0 N a cap bs hN hl (h.below b0 (Nat.le_refl _))
  by_cases hc : checkP N bs = 0
  · obtain ⟨n0, n1, n2, nv⟩ := checkP_zero hc
    rw [hc] at hck
    have HCK := hidE hck
    have H := hidE h
    have H2 := hidE h2
    have X0 := hidE x0
    have X1 := hidE x1
    have B0 := hidE b0
    have HW := hidE hW0
    have HC := hidE hc
    have NV := hidE nv
    clear hck h h2 x0 x1 b0 hW0 hc nv hN
    go_enter Tryz.func67, Tryz.ntmps67
    go_upto_region 1 with fail
    rw [← HW.out]
    have e0 : W0.cell? ⟨w.heap.size, 0, none⟩ = some (.int .i64 N) := by rw [cell_of_row _ _ _ _ _ _ X0.out]; rfl
    have e1 : W0.cell? ⟨w.heap.size, 1, none⟩ = some (.slice a bs.length cap) := by rw [cell_of_row _ _ _ _ _ _ X0.out]; rfl
    go_wp2_with fail
    refine HCK.out.mono ?_
    rintro e w1 ⟨rfl, hb1⟩
    have y0 := blk_below hb1 (lt_of_block X0.out) X0.out
    have y1 := blk_below hb1 (lt_of_block X1.out) X1.out
    have B1 := B0.out.trans (hb1.mono B0.out.size)
    have hva := values_any w1 N (.slice a bs.length cap) a2 cap2 y n0 n1 hl2 (H2.out.below B1 (Nat.le_refl _))
    have Y0 := hidE y0
    have Y1 := hidE y1
    have HB1 := hidE B1
    have HVA := hidE hva
    have f0 : w1.cell? ⟨w.heap.size, 0, none⟩ = some (.int .i64 N) := by rw [cell_of_row _ _ _ _ _ _ Y0.out]; rfl
    have f1 : w1.cell? ⟨w.heap.size, 1, none⟩ = some (.slice a bs.length cap) := by rw [cell_of_row _ _ _ _ _ _ Y0.out]; rfl
    have f2 : w1.cell? ⟨w.heap.size + 1, 0, none⟩ = some (.slice a2 y.length cap2) := cell_of_one Y1.out
    clear y0 y1 B1 hb1 hva e0 e1
    go_wp2_with fail
    refine HVA.out.mono ?_
    rintro e w2 ⟨rfl, hb2⟩
    have z0 := blk_below hb2 (lt_of_block Y0.out) Y0.out
    have z1 := blk_below hb2 (lt_of_block Y1.out) Y1.out
    have B2 := HB1.out.trans (hb2.mono HB1.out.size)
    have Z0 := hidE z0
    have Z1 := hidE z1
    have HB2 := hidE B2
    clear z0 z1 B2 hb2 f0 f1 f2
    cases hvb : valuesB N y with
    | false =>
      have hk : keptE N bs y = (0, false, 1) := by unfold keptE; rw [if_neg (by simp [HC.out]), if_pos hvb]
      have HK := hidE hk
      clear hvb hk
      go_wp2_with fail
      go_ret3
      exact ⟨by rw [HK.out]; rfl, HB2.out⟩
    | true =>
      have hk : keptE N bs y = (max (idxOf (keptB y) bs) 0, decide (idxOf (keptB y) bs < 0), 0) := by unfold keptE; rw [if_neg (by simp [HC.out]), if_neg (by rw [hvb]; simp)]
      obtain ⟨R, rfl⟩ := Int.eq_ofNat_of_zero_le (show 0 ≤ N by omega)
      obtain ⟨q1, q2, q3⟩ := valuesB_iff.1 hvb
      have e0 : w2.cell? ⟨w.heap.size, 0, none⟩ = some (.int .i64 (R : Int)) := by rw [cell_of_row _ _ _ _ _ _ Z0.out]; rfl
      have e1 : w2.cell? ⟨w.heap.size, 1, none⟩ = some (.slice a bs.length cap) := by rw [cell_of_row _ _ _ _ _ _ Z0.out]; rfl
      have l1 := lt_of_block Z1.out
      have hidx := indexFuncBounds_any w2 a cap bs 139 #[.pointer (some ⟨w.heap.size + 1, 0, none⟩)] (· < w2.heap.size) (keptB y) hl (H.out.below HB2.out (Nat.le_refl _)) (fun b hb => hb)
        (fun k hk W hkp => kept1_any W bs[k] R (w.heap.size + 1) a2 cap2 y (NV.out _ (List.getElem_mem _)).1 q1 (by omega) q3 ((H2.out.below HB2.out (Nat.le_refl _)).kept (fun b hb => hkp.same b hb) hkp.size) ((hkp.cell (by show w.heap.size + 1 < _; exact l1)).trans (cell_of_one Z1.out)) (Nat.lt_of_lt_of_le l1 hkp.size))
        (enters_of Tryz.func139 (by kernel_rfl) rfl)
      obtain ⟨ix, hix⟩ : ∃ x, idxOf (keptB y) bs = x := ⟨_, rfl⟩
      rw [hix] at hidx hk
      have HI := hidE hidx
      have HK := hidE hk
      clear hvb hk hidx hix q1 q2 q3
      go_wp2_with fail
      refine HI.out.mono ?_
      rintro e w3 ⟨rfl, hb3⟩
      have HB3 := hidE (HB2.out.trans (hb3.mono HB2.out.size))
      clear hb3 e0 e1
      go_wp2_with fail
      go_ret3
      exact ⟨by rw [HK.out]; rfl, HB3.out⟩
  · have hk : keptE N bs y = (0, false, checkP N bs) := by unfold keptE; rw [if_pos hc]
    obtain ⟨c, hcc⟩ : ∃ c, checkP N bs = c := ⟨_, rfl⟩
    rw [hcc] at hk hc hck
    have hc2 : (c != 0) = true := by simpa using hc
    have HCK := hidE hck
    have HK := hidE hk
    have X0 := hidE x0
    have B0 := hidE b0
    have HW := hidE hW0
    clear hck hk hc hcc h h2 hN x0 x1 b0 hW0
    go_enter Tryz.func67, Tryz.ntmps67
    go_upto_region 1 with fail
    rw [← HW.out]
    have e0 : W0.cell? ⟨w.heap.size, 0, none⟩ = some (.int .i64 N) := by rw [cell_of_row _ _ _ _ _ _ X0.out]; rfl
    have e1 : W0.cell? ⟨w.heap.size, 1, none⟩ = some (.slice a bs.length cap) := by rw [cell_of_row _ _ _ _ _ _ X0.out]; rfl
    go_wp2_with fail
    refine HCK.out.mono ?_
    rintro e w1 ⟨rfl, hb1⟩
    clear e0 e1
    go_wp2_with fail
    go_ret3
    exact ⟨by rw [HK.out]; rfl, B0.out.trans (hb1.mono B0.out.size)⟩
end Go.Proofs.YthjmkmjojlfejaaGreat

namespace Go.Proofs.YthjmkmjojlfejaaGreat
def costFrom (flow : List Int) : Nat → List Bd → Int
  | _, [] => 0
  | i, b :: bs => flow.getD i 0 * b.most + costFrom flow (i + 1) bs
def costOf (bs : List Bd) (flow : List Int) : Int := costFrom flow 0 bs
end Go.Proofs.YthjmkmjojlfejaaGreat

namespace Go.Proofs.YthjmkmjojlfejaaGreat
open Go Go.RowKit Go.Shelf
def costTo (bs : List Bd) (flow : List Int) (k : Nat) : Int := sumN (fun i => flow.getD i 0 * (bnd bs i).most) k
theorem sumN_shift (f : Nat → Int) : ∀ n, sumN f (n + 1) = f 0 + sumN (fun i => f (i + 1)) n
  | 0 => by simp [sumN]
  | n + 1 => by rw [sumN_succ, sumN_shift f n, sumN_succ]; omega
theorem netFrom_eq (flow : List Int) (v : Int) : ∀ (bs : List Bd) (i : Nat), netFrom flow v i bs = sumN (fun j => (if (bnd bs j).dst = v then flow.getD (i + j) 0 else 0) - (if (bnd bs j).src = v then flow.getD (i + j) 0 else 0)) bs.length
  | [], _ => rfl
  | b :: bs, i => by
    rw [List.length_cons, sumN_shift]
    simp only [netFrom]
    rw [netFrom_eq flow v bs (i + 1)]
    simp only [bnd, List.getD_cons_zero, List.getD_cons_succ, Nat.add_zero]
    congr 1
    refine sumN_congr fun j _ => ?_
    rw [show i + 1 + j = i + (j + 1) from by omega]
    rfl
theorem netOf_eq (bs : List Bd) (flow : List Int) (v : Int) : netOf bs flow v = netTo bs flow v bs.length := by
  unfold netOf netTo
  rw [netFrom_eq]
  simp only [Nat.zero_add]
theorem costFrom_eq (flow : List Int) : ∀ (bs : List Bd) (i : Nat), costFrom flow i bs = sumN (fun j => flow.getD (i + j) 0 * (bnd bs j).most) bs.length
  | [], _ => rfl
  | b :: bs, i => by
    rw [List.length_cons, sumN_shift]
    simp only [costFrom]
    rw [costFrom_eq flow bs (i + 1)]
    simp only [bnd, List.getD_cons_zero, List.getD_cons_succ, Nat.add_zero]
    congr 1
    refine sumN_congr fun j _ => ?_
    rw [show i + 1 + j = i + (j + 1) from by omega]
theorem costOf_eq (bs : List Bd) (flow : List Int) : costOf bs flow = costTo bs flow bs.length := by
  unfold costOf costTo
  rw [costFrom_eq]
  simp only [Nat.zero_add]
/-- Whether all points from 1 on below k get what they shall. -/
def carriedTo (bs : List Bd) (flow w : List Int) (k : Nat) : Bool := (List.range k).all fun p => p == 0 || netOf bs flow p == w.getD p 0
def carriesP (N : Nat) (bs : List Bd) (w flow : List Int) : Int × Bool := if carriedTo bs flow w N then (costOf bs flow, true) else (0, false)
theorem carriedTo_succ (bs : List Bd) (flow w : List Int) (k : Nat) : carriedTo bs flow w (k + 1) = (carriedTo bs flow w k && (k == 0 || netOf bs flow k == w.getD k 0)) := by
  unfold carriedTo
  rw [List.range_succ, List.all_append]
  simp
theorem carriedTo_mono {bs : List Bd} {flow w : List Int} {k n : Nat} (h : k ≤ n) (hn : carriedTo bs flow w n = true) : carriedTo bs flow w k = true := by
  unfold carriedTo at *
  rw [List.all_eq_true] at *
  intro x hx
  exact hn x (List.mem_range.2 (by have := List.mem_range.1 hx; omega))
theorem costTo_bd {bs : List Bd} {flow : List Int} (hf : ∀ i, 0 ≤ flow.getD i 0 ∧ flow.getD i 0 ≤ 1000000000) (hm : ∀ b ∈ bs, -1000000 ≤ b.most ∧ b.most ≤ 1000000) {k : Nat} (hk : k ≤ bs.length) (hl : bs.length ≤ 4000) :
    -4000000000000000000 ≤ costTo bs flow k ∧ costTo bs flow k ≤ 4000000000000000000 := by
  have := sumN_bd (f := fun i => flow.getD i 0 * (bnd bs i).most) (c := 1000000000000000) (n := k) fun i hi => by
    have h1 := hf i
    have h2 := hm (bnd bs i) (by rw [bnd_get (by omega)]; exact List.getElem_mem _)
    have := mul_bd (A := 1000000000) (B := 1000000) (a := flow.getD i 0) (b := (bnd bs i).most) (by omega) h1.2 h2.1 h2.2
    show -1000000000000000 ≤ flow.getD i 0 * (bnd bs i).most ∧ flow.getD i 0 * (bnd bs i).most ≤ 1000000000000000
    omega
  unfold costTo
  omega
set_option maxRecDepth 100000 in
set_option maxHeartbeats 2000000 in
theorem carries_any (w : World) (N : Nat) (a : Option Addr) (cap : Nat) (bs : List Bd) (a2 : Option Addr) (cap2 : Nat) (x : List Int) (a3 : Option Addr) (cap3 : Nat) (flow : List Int) (hN1 : N ≤ 128) (hl : bs.length ≤ 4000) (hx : x.length = N) (hf : flow.length = bs.length)
    (h : BoundsAt w a bs) (h2 : IntsAt w a2 x) (h3 : IntsAt w a3 flow) (hv : ∀ b ∈ bs, b.valid N ∧ b.src ≠ b.dst) (hfl : ∀ i, 0 ≤ flow.getD i 0 ∧ flow.getD i 0 ≤ 1000000000) :
    Calls Tryz.prog 125 #[.agg #[.int .i64 (N : Int), .slice a bs.length cap], .slice a2 x.length cap2, .slice a3 flow.length cap3] w fun e w' => e = .returned (.tuple #[.int .i64 (carriesP N bs x flow).1, .bool (carriesP N bs x flow).2]) ∧ Below w.heap.size w w' := by
  have HCB := hidE (fun (k : Nat) (hk : k ≤ bs.length) => costTo_bd hfl (fun b hb => ⟨(hv b hb).1.2.2.2.2.1, (hv b hb).1.2.2.2.2.2⟩) hk hl)
  have H := hidE h
  have H2 := hidE h2
  have H3 := hidE h3
  have HV := hidE hv
  have HFL := hidE hfl
  have HX := hidE hx
  have HFE := hidE hf
  obtain ⟨P1, hP1⟩ : ∃ z, (carriesP N bs x flow).1 = z := ⟨_, rfl⟩
  obtain ⟨P2, hP2⟩ : ∃ z, (carriesP N bs x flow).2 = z := ⟨_, rfl⟩
  rw [hP1, hP2]
  have HP1 := hidE hP1
  have HP2 := hidE hP2
  have hl128 : w.heap.size + 1 < w.heap.size + 1 + 1 := by omega
  clear h h2 h3 hv hfl hx hf hP1 hP2
  go_enter Tryz.func125, Tryz.ntmps125
  go_wp2_with fail
  go_loopw [9, 16] (fun c i wr => ∃ (k : Nat) (s : List Int), k ≤ bs.length ∧ i = .int .i64 k ∧ c = .int .i64 (costTo bs flow k) ∧ Hid (NetRow N bs flow k s) ∧
      Hid (wr.heap[w.heap.size]? = some (.cells #[.int .i64 (N : Int), .slice a bs.length cap] 24 (0,0))) ∧ Hid (wr.heap[w.heap.size + 1]? = some (.cells (rowA s) 153 (0,0))) ∧ Below w.heap.size w wr)
      (fun _ i _ => bs.length - (intOf i).toNat)
  case atStart => exact ⟨0, rep128 0, Nat.zero_le _, rfl, rfl, hidE (NetRow.start N bs flow), hidE (heap_alloc2_old _ _ _), hidE (by rw [heap_alloc2_new, zc153]), by go_grown⟩
  case round =>
    obtain ⟨k, s, hk, rfl, rfl, HN, H1, HA, hb⟩ := hrel
    have hcb := HCB.out k hk
    by_cases hlt : k < bs.length
    · have hcb1 := HCB.out (k + 1) hlt
      have HCS := hidE (sumN_succ (fun i => flow.getD i 0 * (bnd bs i).most) k)
      obtain ⟨b, off, rfl, hbl, hcs⟩ := H.out.at hlt
      obtain ⟨d0, d1, d2, d3⟩ := hcs.below hb hbl
      have hval := HV.out bs[k] (List.getElem_mem hlt)
      have hfk : k < flow.length := by rw [HFE.out]; exact hlt
      obtain ⟨bf, off3, rfl, hbf, hfc⟩ := H3.out.at hfk
      rw [← hb.cell hbf, ← getD_get flow 0 hfk] at hfc
      have hflk := HFL.out k
      have HBN := hidE (bnd_get hlt)
      obtain ⟨f, hfe⟩ : ∃ f, flow.getD k 0 = f := ⟨_, rfl⟩
      obtain ⟨y, hy⟩ : ∃ y, bs[k] = y := ⟨_, rfl⟩
      rw [hy] at d0 d1 d2 d3 hval HBN
      rw [hfe] at hfc hflk
      have HFE2 := hidE hfe
      have HY := hidE hy
      obtain ⟨xs, xd, xm, xr⟩ := y
      obtain ⟨⟨v1, v2, v3, v4, v5, v6⟩, vne⟩ := hval
      simp only at d0 d1 d2 d3 v1 v2 v3 v4 v5 v6 vne
      obtain ⟨si, rfl⟩ := Int.eq_ofNat_of_zero_le v1
      obtain ⟨di, rfl⟩ := Int.eq_ofNat_of_zero_le v3
      have hne : si ≠ di := by omega
      have HSTEP := hidE (HN.out.step hN1 hlt (by rw [hy]) (by rw [hy]) hne (by omega) (by omega) hfe hflk.1 hflk.2)
      have HNE := hidE hne
      have hsl := HN.out.1
      have hsz : w.heap.size + 1 < wr.heap.size := lt_of_block HA.out
      have b3s := HN.out.2.2 si
      have b3d := HN.out.2.2 di
      have HSL := hidE hsl
      have s1 : (si : Int) < 128 := by omega
      have s2 : (di : Int) < 128 := by omega
      have hpm := mul_bd (A := 1000000000) (B := 1000000) (a := f) (b := xm) (by omega) hflk.2 v5 v6
      have hct : Hid (costTo bs flow (k + 1) = costTo bs flow k + f * xm) := hidE (by rw [costTo, HCS.out, ← costTo, HBN.out, HFE2.out])
      rw [hct.out] at hcb1
      have p0 : -1000000000000000 ≤ f * xm := by omega
      have p1 : f * xm ≤ 1000000000000000 := by omega
      obtain ⟨vs, hvs⟩ : ∃ v, s.getD si 0 = v := ⟨_, rfl⟩
      obtain ⟨vd, hvd⟩ : ∃ v, s.getD di 0 = v := ⟨_, rfl⟩
      rw [hvs] at b3s HSTEP
      rw [hvd] at b3d HSTEP
      have HVS := hidE hvs
      have HVD := hidE hvd
      have B := hidE hb
      have hwa : IntKind.i64.wrap (vd + f) = vd + f := IntWalk.i64_in _ (by omega)
      have hwb : IntKind.i64.wrap (vs - f) = vs - f := IntWalk.i64_in _ (by omega)
      have hwc : IntKind.i64.wrap (f * xm) = f * xm := IntWalk.i64_in _ (by omega)
      have HWD := hidE hwa
      have HWS := hidE hwb
      have HWM := hidE hwc
      clear hwa hwb hwc
      clear hfe hy hcs hsl hvs hvd hb vne hpm hne
      obtain ⟨ct, hctt⟩ : ∃ c, costTo bs flow k = c := ⟨_, rfl⟩
      rw [hctt] at hct hcb hcb1 ⊢
      clear hctt
      go_upto_region 6 with fail
      obtain ⟨X, hX⟩ : ∃ X, X = wr.alloc (.cells #[.int .i64 (si : Int), .int .i64 (di : Int), .int .i64 xm, .int .i64 xr] 81) := ⟨_, rfl⟩
      rw [← hX]
      have xa : X.heap[w.heap.size + 1]? = some (.cells (rowA s) 153 (0,0)) := by rw [hX]; exact (Below.heap_alloc _ _ _ hsz).trans HA.out
      have x1 : X.heap[w.heap.size]? = some (.cells #[.int .i64 (N : Int), .slice (some ⟨b, off, none⟩) bs.length cap] 24 (0,0)) := by rw [hX]; exact (Below.heap_alloc _ _ _ (by omega)).trans H1.out
      have xb : X.heap[wr.heap.size]? = some (.cells #[.int .i64 (si : Int), .int .i64 (di : Int), .int .i64 xm, .int .i64 xr] 81 (0,0)) := by rw [hX]; exact heap_alloc_new _ _
      have xB : Below w.heap.size w X := by rw [hX]; exact B.out.alloc B.out.size _
      have xf : X.cell? ⟨bf, off3 + k, none⟩ = some (.int .i64 f) := by rw [hX]; exact (Below.cell ((Below.refl wr.heap.size wr).alloc (Nat.le_refl _) _) (p := ⟨bf, off3 + k, none⟩) (Nat.lt_of_lt_of_le hbf B.out.size)).trans hfc
      have z0 : X.cell? ⟨wr.heap.size, 0, none⟩ = some (.int .i64 (si : Int)) := by rw [cell_of_row _ _ _ _ _ _ xb]; rfl
      have z1 : X.cell? ⟨wr.heap.size, 1, none⟩ = some (.int .i64 (di : Int)) := by rw [cell_of_row _ _ _ _ _ _ xb]; rfl
      have zd : X.cell? ⟨w.heap.size + 1, di, none⟩ = some (.int .i64 vd) := by rw [cell_of_row _ _ _ _ _ _ xa, rowA_get (by rw [HSL.out]; omega), HVD.out]
      have zf : X.frozen? ⟨w.heap.size + 1, di, none⟩ = false := frozen_of_row _ _ _ _ _ xa
      have XA := hidE xa
      have X1 := hidE x1
      have XB := hidE xb
      have XBB := hidE xB
      have XF := hidE xf
      have hww := HWD.out
      clear hX xa x1 xb xB d0 d1 d2 d3 hfc
      go_still_tail 10, (by kernel_rfl)
      go_upto_region 7 with fail
      clear hww
      obtain ⟨Y, hY⟩ : ∃ Y, Y = (X.setCell ⟨w.heap.size + 1, di, none⟩ (.int .i64 (vd + f))).drew := ⟨_, rfl⟩
      rw [← hY]
      have ya : Y.heap[w.heap.size + 1]? = some (.cells (rowA (s.set di (vd + f))) 153 (0,0)) := by rw [hY]; exact (heap_setCell_same _ _ _ _ _ _ XA.out).trans (by rw [rowA_set])
      have y1 : Y.heap[w.heap.size]? = some (.cells #[.int .i64 (N : Int), .slice (some ⟨b, off, none⟩) bs.length cap] 24 (0,0)) := by rw [hY]; exact (heap_setCell_other _ _ _ _ (by simp)).trans X1.out
      have yb : Y.heap[wr.heap.size]? = some (.cells #[.int .i64 (si : Int), .int .i64 (di : Int), .int .i64 xm, .int .i64 xr] 81 (0,0)) := by rw [hY]; exact (heap_setCell_other _ _ _ _ (by simp; omega)).trans XB.out
      have yB : Below w.heap.size w Y := by rw [hY]; exact (XBB.out.setCell (by simp) _).drew
      have yf : Y.cell? ⟨bf, off3 + k, none⟩ = some (.int .i64 f) := by rw [hY]; exact (World.cell?_setCell_other _ _ _ _ (by intro e; have := congrArg Addr.block e; simp at this; omega)).trans XF.out
      have z0' : Y.cell? ⟨wr.heap.size, 0, none⟩ = some (.int .i64 (si : Int)) := by rw [cell_of_row _ _ _ _ _ _ yb]; rfl
      have zs : Y.cell? ⟨w.heap.size + 1, si, none⟩ = some (.int .i64 vs) := by rw [cell_of_row _ _ _ _ _ _ ya, rowA_get (by rw [List.length_set, HSL.out]; omega), getD_set_at, if_neg (fun h => HNE.out h.1.symm), HVS.out]
      have zf' : Y.frozen? ⟨w.heap.size + 1, si, none⟩ = false := frozen_of_row _ _ _ _ _ ya
      have YA := hidE ya
      have Y1 := hidE y1
      have YB := hidE yb
      have YBB := hidE yB
      have YF := hidE yf
      have hww := HWS.out
      clear hY ya y1 yb yB z0 z1 zd zf xf
      go_still_tail 10, (by kernel_rfl)
      go_upto_region 8 with fail
      clear hww
      obtain ⟨Z, hZ⟩ : ∃ Z, Z = (Y.setCell ⟨w.heap.size + 1, si, none⟩ (.int .i64 (vs - f))).drew := ⟨_, rfl⟩
      rw [← hZ]
      have za : Z.heap[w.heap.size + 1]? = some (.cells (rowA ((s.set di (vd + f)).set si (vs - f))) 153 (0,0)) := by rw [hZ]; exact (heap_setCell_same _ _ _ _ _ _ YA.out).trans (by rw [rowA_set])
      have z1 : Z.heap[w.heap.size]? = some (.cells #[.int .i64 (N : Int), .slice (some ⟨b, off, none⟩) bs.length cap] 24 (0,0)) := by rw [hZ]; exact (heap_setCell_other _ _ _ _ (by simp)).trans Y1.out
      have zb : Z.heap[wr.heap.size]? = some (.cells #[.int .i64 (si : Int), .int .i64 (di : Int), .int .i64 xm, .int .i64 xr] 81 (0,0)) := by rw [hZ]; exact (heap_setCell_other _ _ _ _ (by simp; omega)).trans YB.out
      have zB : Below w.heap.size w Z := by rw [hZ]; exact (YBB.out.setCell (by simp) _).drew
      have zff : Z.cell? ⟨bf, off3 + k, none⟩ = some (.int .i64 f) := by rw [hZ]; exact (World.cell?_setCell_other _ _ _ _ (by intro e; have := congrArg Addr.block e; simp at this; omega)).trans YF.out
      have z2 : Z.cell? ⟨wr.heap.size, 2, none⟩ = some (.int .i64 xm) := by rw [cell_of_row _ _ _ _ _ _ zb]; rfl
      have ZA := hidE za
      have Z1 := hidE z1
      have ZBB := hidE zB
      have hww := HWM.out
      clear hZ za z1 zb zB z0' zs zf' yf
      go_quiet (fail)
      clear hww
      go_wp2_with fail
      go_roundw
      case rel => exact ⟨k + 1, _, by omega, by go_num, by rw [hct.out], HSTEP, hidE Z1.out, hidE ZA.out, ZBB.out.trans (below_drewN' _ _)⟩
      case measure => simp [intOf]; omega
    · obtain rfl : k = bs.length := by omega
      have HNN := hidE (fun v (hv : v < N) => (HN.out.2.1 v hv).trans (netOf_eq bs flow v).symm)
      have HSL := hidE HN.out.1
      have b3s := hidE HN.out.2.2
      have B := hidE hb
      obtain ⟨A, rfl⟩ : ∃ A : World, A = wr := ⟨wr, rfl⟩
      obtain ⟨ct, hctt⟩ : ∃ c, costTo bs flow bs.length = c := ⟨_, rfl⟩
      have HCT := hidE ((costOf_eq bs flow).trans hctt)
      rw [hctt] at hcb ⊢
      clear hctt hb HCB HN
      go_wp2_with fail
      go_loopw [12] (fun i wr => ∃ (v nd : Nat), 1 ≤ v ∧ (v ≤ N ∨ v = 1) ∧ i = .int .i64 v ∧ Hid (carriedTo bs flow x v = true) ∧ wr = A.drewN nd) (fun i _ => N - (intOf i).toNat)
      case atStart => exact ⟨1, 0, Nat.le_refl _, .inr rfl, rfl, hidE (by simp [carriedTo, List.range_succ]), rfl⟩
      case round =>
        obtain ⟨v, nd, hv1, hv2, rfl, HCA, rfl⟩ := hrel
        have c1 : A.cell? ⟨w.heap.size, 0, none⟩ = some (.int .i64 (N : Int)) := by rw [cell_of_row _ _ _ _ _ _ H1.out]; rfl
        by_cases hvl : v < N
        · have hvx : v < x.length := by rw [HX.out]; exact hvl
          obtain ⟨bw, offw, rfl, hbw, hwc⟩ := H2.out.at hvx
          rw [← B.out.cell hbw, ← getD_get x 0 hvx] at hwc
          have cv : A.cell? ⟨w.heap.size + 1, v, none⟩ = some (.int .i64 (netOf bs flow v)) := by rw [cell_of_row _ _ _ _ _ _ HA.out, rowA_get (by rw [HSL.out]; omega), HNN.out v hvl]
          have HSUC := hidE (carriedTo_succ bs flow x v)
          have hvdec : decide ((v : Int) < (N : Int)) = true := by simp; omega
          obtain ⟨p, hp⟩ : ∃ p, netOf bs flow v = p := ⟨_, rfl⟩
          obtain ⟨q, hq⟩ : ∃ q, x.getD v 0 = q := ⟨_, rfl⟩
          rw [hp] at cv HSUC
          rw [hq] at hwc HSUC
          have HP := hidE hp
          have HQ := hidE hq
          clear hp hq
          by_cases hpq : p = q
          · have hpqb : (p != q) = false := by simpa using hpq
            have HN1 : Hid (carriedTo bs flow x (v + 1) = true) := hidE (by rw [HSUC.out, HCA.out]; simp [hpq])
            clear hpq
            go_wp2_with fail
            go_quiet (fail)
            go_wp2_with fail
            go_roundw
            case rel => exact ⟨v + 1, _, by omega, .inl (by omega), by go_num, HN1, rfl⟩
            case measure => simp [intOf]; omega
          · have hpqb : (p != q) = true := by simpa using hpq
            have HF : Hid (carriedTo bs flow x N = false) := hidE (by
              cases hc : carriedTo bs flow x N with
              | false => rfl
              | true =>
                have := carriedTo_mono (show v + 1 ≤ N by omega) hc
                rw [HSUC.out] at this
                simp [hpq] at this
                omega)
            have hP1 := HP1.out
            have hP2 := HP2.out
            unfold carriesP at hP1 hP2
            rw [HF.out] at hP1 hP2
            obtain rfl : (0 : Int) = P1 := by simpa using hP1
            obtain rfl : false = P2 := by simpa using hP2
            clear hpq hP1 hP2
            go_wp2_with fail
            go_quiet (fail)
            go_wp2_with fail
            go_ret2
            exact ⟨rfl, (B.out.trans (below_drewN' _ _)).trans (below_drewN' _ _)⟩
        · have hvdec : decide ((v : Int) < (N : Int)) = false := by simp; omega
          have HT : Hid (carriedTo bs flow x N = true) := hidE (carriedTo_mono (by omega) HCA.out)
          have hP1 := HP1.out
          have hP2 := HP2.out
          unfold carriesP at hP1 hP2
          rw [HT.out] at hP1 hP2
          simp only [if_true] at hP1 hP2
          obtain rfl : ct = P1 := by rw [← hP1, HCT.out]
          obtain rfl : true = P2 := hP2
          clear hP1
          go_wp2_with fail
          go_ret2
          exact ⟨rfl, B.out.trans (below_drewN' _ _)⟩
end Go.Proofs.YthjmkmjojlfejaaGreat

namespace Go.Proofs.YthjmkmjojlfejaaGreat
open Go Go.RowKit Go.Shelf
set_option maxHeartbeats 1000000 in
theorem refvalues_any (w : World) (N : Int) (sv : Value) (a : Option Addr) (cap : Nat) (y : List Int) (hN0 : 1 ≤ N) (hl : y.length ≤ 9223372036854775807) (h : IntsAt w a y) :
    Calls Tryz.prog 148 #[.agg #[.int .i64 N, sv], .slice a y.length cap] w fun e w' => e = .returned (.bool (valuesB N y)) ∧ Below w.heap.size w w' := by
  by_cases h1 : (y.length : Int) = N
  · have h1b : ((y.length : Int) != N) = false := by simpa using h1
    have h1c : ((y.length : Int) == 0) = false := beq_eq_false_iff_ne.2 (by omega)
    have hlt : 0 < y.length := by omega
    obtain ⟨b, off, rfl, hbl, hc⟩ := h.at hlt
    have hg : y.getD 0 0 = y[0] := getD_get y 0 hlt
    obtain ⟨v, hv⟩ : ∃ v, y[0] = v := ⟨_, rfl⟩
    rw [hv] at hc hg
    rw [Nat.add_zero] at hc
    by_cases h2 : v = 0
    · have h2b : (v != 0) = false := by simpa using h2
      have hval : valuesB N y = !(y.any fun v => !inR v (-400000000) 400000000) := by unfold valuesB; rw [hg, h1]; simp [h2]
      have HV := hidE hval
      have H := hidE h
      have HH1 := hidE h1
      clear hval hg hv h2 h h1
      go_enter Tryz.func148, Tryz.ntmps148
      go_wp2_with fail
      go_loopw [5] (fun i wr => ∃ k : Nat, k ≤ y.length ∧ i = .int .i64 k ∧ Hid ((y.take k).any (fun v => !inR v (-400000000) 400000000) = false) ∧ Below w.heap.size w wr) (fun i _ => y.length - (intOf i).toNat)
      case atStart => exact ⟨0, by omega, rfl, hidE rfl, by go_grown⟩
      case round =>
        obtain ⟨k, hk, rfl, HA, hb⟩ := hrel
        clear hc
        by_cases hlt2 : k < y.length
        · obtain ⟨b', off', e', _, hck⟩ := (H.out.below hb (Nat.le_refl _)).at hlt2
          cases e'
          obtain ⟨x, hx⟩ : ∃ x, y[k] = x := ⟨_, rfl⟩
          rw [hx] at hck
          obtain ⟨r, hr⟩ : ∃ r, inR x (-400000000) 400000000 = r := ⟨_, rfl⟩
          have HX := hidE hx
          have HR := hidE hr
          clear hx hr
          cases r with
          | false =>
            have hq := any_of_at (p := fun v => !inR v (-400000000) 400000000) hlt2 (by rw [HX.out, HR.out]; rfl)
            have HQ := hidE hq
            clear hq
            go_wp2_with (go_at_call 180; refine (refwithin_at HR.out _).mono ?_; rintro e w' ⟨rfl, rfl⟩)
            go_ret
            exact ⟨by rw [HV.out, HQ.out]; rfl, hb⟩
          | true =>
            go_wp2_with (go_at_call 180; refine (refwithin_at HR.out _).mono ?_; rintro e w' ⟨rfl, rfl⟩)
            go_roundw
            case rel => exact ⟨k + 1, by omega, by go_num, hidE (take_any_succ hlt2 HA.out (by rw [HX.out, HR.out]; rfl)), hb⟩
            case measure => simp [intOf]; omega
        · have hq := any_of_take (p := fun v => !inR v (-400000000) 400000000) (by omega) HA.out
          have HQ := hidE hq
          clear hq
          go_wp2_with fail
          go_ret
          exact ⟨by rw [HV.out, HQ.out]; rfl, hb⟩
    · have h2b : (v != 0) = true := by simpa using h2
      have hval : valuesB N y = false := by unfold valuesB; rw [hg]; simp [h2]
      have HV := hidE hval
      clear hval hg hv h2 h h1
      go_enter Tryz.func148, Tryz.ntmps148
      go_wp2_with fail
      go_ret
      exact ⟨by rw [HV.out]; rfl, by go_grown⟩
  · have h1b : ((y.length : Int) != N) = true := by simpa using h1
    have hval : valuesB N y = false := by unfold valuesB; simp [h1]
    have HV := hidE hval
    clear hval h1 h
    go_enter Tryz.func148, Tryz.ntmps148
    go_wp2_with fail
    go_ret
    exact ⟨by rw [HV.out]; rfl, by go_grown⟩
set_option maxHeartbeats 1000000 in
theorem broken_any (w : World) (N : Nat) (a : Option Addr) (cap : Nat) (bs : List Bd) (a2 : Option Addr) (cap2 : Nat) (y : List Int) (hl : bs.length ≤ 4000) (h : BoundsAt w a bs) (h2 : IntsAt w a2 y) (hv : AllValid N bs) (hN : y.length = N) (_hN1 : N ≤ 128) (hy : ∀ v ∈ y, -400000000 ≤ v ∧ v ≤ 400000000) :
    Calls Tryz.prog 195 #[.agg #[.int .i64 N, .slice a bs.length cap], .slice a2 y.length cap2] w fun e w' => e = .returned (.int .i64 (idxOf (keptB y) bs)) ∧ Below w.heap.size w w' := by
  have H := hidE h
  have H2 := hidE h2
  have HV := hidE hv
  have HY := hidE hy
  have HN := hidE hN
  clear h h2 hv hy hN
  go_enter Tryz.func195, Tryz.ntmps195
  go_wp2_with fail
  go_loopw [5] (fun i wr => ∃ k : Nat, k ≤ bs.length ∧ i = .int .i64 k ∧ Hid ((bs.take k).any (keptB y) = false) ∧ Hid (wr.heap[w.heap.size]? = some (.cells #[.int .i64 N, .slice a bs.length cap] 24 (0,0))) ∧ Below w.heap.size w wr) (fun i _ => bs.length - (intOf i).toNat)
  case atStart => exact ⟨0, by omega, rfl, hidE rfl, hidE (heap_alloc_new _ _), by go_grown⟩
  case round =>
    obtain ⟨k, hk, rfl, HA, HS, hb⟩ := hrel
    have hc1 : wr.cell? ⟨w.heap.size, 1, none⟩ = some (.slice a bs.length cap) := by rw [cell_of_row _ _ _ _ _ _ HS.out]; rfl
    have hsz : w.heap.size < wr.heap.size := lt_of_block HS.out
    by_cases hlt : k < bs.length
    · obtain ⟨b, off, rfl, hbl, hcs⟩ := H.out.at hlt
      obtain ⟨c0, c1, c2, c3⟩ := hcs.below hb hbl
      have hval := HV.out bs[k] (List.getElem_mem _)
      obtain ⟨x, hx⟩ : ∃ x, bs[k] = x := ⟨_, rfl⟩
      rw [hx] at c0 c1 c2 c3 hval
      obtain ⟨ys, yd, ym, yr⟩ := x
      obtain ⟨v1, v2, v3, v4, v5, v6⟩ := hval
      simp only at c0 c1 c2 c3 v1 v2 v3 v4 v5 v6
      obtain ⟨si, rfl⟩ := Int.eq_ofNat_of_zero_le v1
      obtain ⟨di, rfl⟩ := Int.eq_ofNat_of_zero_le v3
      have hs : si < y.length := by have := HN.out; omega
      have hd : di < y.length := by have := HN.out; omega
      have H2w := H2.out.below hb (Nat.le_refl _)
      obtain ⟨b2, off2, rfl, hbw, hcs2⟩ := H2w.at hs
      obtain ⟨b', off', e', _, hcd2⟩ := H2w.at hd
      cases e'
      have q1 := HY.out y[si] (List.getElem_mem _)
      have q2 := HY.out y[di] (List.getElem_mem _)
      have hkb : keptB y ⟨si, di, ym, yr⟩ = decide (ym < y[di] - y[si]) := by
        unfold keptB getI
        rw [decide_eq_decide]
        simp only [Int.toNat_natCast]
        rw [getD_get y 0 hs, getD_get y 0 hd]
      obtain ⟨x, hx1⟩ : ∃ x, y[si] = x := ⟨_, rfl⟩
      obtain ⟨z, hz⟩ : ∃ z, y[di] = z := ⟨_, rfl⟩
      rw [hx1, hz] at hkb
      rw [hx1] at hcs2 q1
      rw [hz] at hcd2 q2
      rw [← hx] at hkb
      have s0 : (si : Int) < y.length := by omega
      have d0 : (di : Int) < y.length := by omega
      have hw1 : IntKind.i64.wrap (z - x) = z - x := IntWalk.i64_in _ (by omega)
      have l1 : b2 < wr.heap.size := hbw
      have HKB := hidE hkb
      clear hcs hx hx1 hz hkb H2w
      by_cases hgt : ym < z - x
      · have hq : keptB y bs[k] = true := by rw [HKB.out]; simpa using hgt
        have hix := idxOf_found hlt HA.out hq
        have HIX := hidE hix
        have hdd : decide (z - x > ym) = true := by simpa using hgt
        clear hq hix
        go_wp2_with fail
        go_quiet (fail)
        go_wp2_with fail
        go_ret
        exact ⟨by rw [HIX.out]; rfl, (hb.alloc hb.size _).trans (below_drewN' _ _)⟩
      · have hq : keptB y bs[k] = false := by rw [HKB.out]; simpa using hgt
        have HQ := hidE hq
        have hdd : decide (z - x > ym) = false := by simpa using hgt
        clear hq
        go_wp2_with fail
        go_quiet (fail)
        go_wp2_with fail
        go_roundw
        case rel => exact ⟨k + 1, by omega, by go_num, hidE (take_any_succ hlt HA.out HQ.out), hidE ((Below.heap_alloc _ _ _ hsz).trans HS.out), (hb.alloc hb.size _).trans (below_drewN' _ _)⟩
        case measure => simp [intOf]; omega
    · have hix := idxOf_none (any_of_take (by omega) HA.out)
      have HIX := hidE hix
      clear hix
      go_wp2_with fail
      go_ret
      exact ⟨by rw [HIX.out]; rfl, hb⟩
set_option maxHeartbeats 1000000 in
theorem refkept_any (w : World) (N : Int) (a : Option Addr) (cap : Nat) (bs : List Bd) (a2 : Option Addr) (cap2 : Nat) (y : List Int) (hN : i64ok N) (hl : bs.length ≤ 9223372036854775807) (hl2 : y.length ≤ 9223372036854775807) (h : BoundsAt w a bs) (h2 : IntsAt w a2 y) :
    Calls Tryz.prog 149 #[.agg #[.int .i64 N, .slice a bs.length cap], .slice a2 y.length cap2] w fun e w' => e = .returned (.tuple #[.int .i64 (keptE N bs y).1, .bool (keptE N bs y).2.1, .int .i64 (keptE N bs y).2.2]) ∧ Below w.heap.size w w' := by
  have b0 : Below w.heap.size w (w.alloc (.cells #[.int .i64 N, .slice a bs.length cap] 24)) := (Below.refl _ _).alloc (Nat.le_refl _) _
  have hck := refcheck_any (w.alloc (.cells #[.int .i64 N, .slice a bs.length cap] 24)) N a cap bs hN hl (h.below b0 (Nat.le_refl _))
  have B0 := hidE b0
  by_cases hc : checkP N bs = 0
  · obtain ⟨n0, n1, n2, nv⟩ := checkP_zero hc
    rw [hc] at hck
    have HCK := hidE hck
    have H := hidE h
    have H2 := hidE h2
    have HC := hidE hc
    have NV := hidE nv
    clear hck h h2 hc nv hN b0
    go_enter Tryz.func149, Tryz.ntmps149
    go_wp2_with fail
    refine HCK.out.mono ?_
    rintro e w1 ⟨rfl, hb1⟩
    have y0 := blk_below hb1 (by simp) (heap_alloc_new w (.cells #[.int .i64 N, .slice a bs.length cap] 24))
    have B1 := B0.out.trans (hb1.mono B0.out.size)
    have hva := refvalues_any w1 N (.slice a bs.length cap) a2 cap2 y n0 hl2 (H2.out.below B1 (Nat.le_refl _))
    have Y0 := hidE y0
    have HB1 := hidE B1
    have HVA := hidE hva
    have f0 : w1.cell? ⟨w.heap.size, 0, none⟩ = some (.int .i64 N) := by rw [cell_of_row _ _ _ _ _ _ Y0.out]; rfl
    have f1 : w1.cell? ⟨w.heap.size, 1, none⟩ = some (.slice a bs.length cap) := by rw [cell_of_row _ _ _ _ _ _ Y0.out]; rfl
    clear y0 B1 hb1 hva
    go_wp2_with fail
    refine HVA.out.mono ?_
    rintro e w2 ⟨rfl, hb2⟩
    have z0 := blk_below hb2 (lt_of_block Y0.out) Y0.out
    have B2 := HB1.out.trans (hb2.mono HB1.out.size)
    have Z0 := hidE z0
    have HB2 := hidE B2
    clear z0 B2 hb2 f0 f1
    cases hvb : valuesB N y with
    | false =>
      have hk : keptE N bs y = (0, false, 1) := by unfold keptE; rw [if_neg (by simp [HC.out]), if_pos hvb]
      have HK := hidE hk
      clear hvb hk
      go_wp2_with fail
      go_ret3
      exact ⟨by rw [HK.out]; rfl, HB2.out⟩
    | true =>
      have hk : keptE N bs y = (max (idxOf (keptB y) bs) 0, decide (idxOf (keptB y) bs < 0), 0) := by unfold keptE; rw [if_neg (by simp [HC.out]), if_neg (by rw [hvb]; simp)]
      obtain ⟨R, rfl⟩ := Int.eq_ofNat_of_zero_le (show 0 ≤ N by omega)
      obtain ⟨q1, q2, q3⟩ := valuesB_iff.1 hvb
      have e0 : w2.cell? ⟨w.heap.size, 0, none⟩ = some (.int .i64 (R : Int)) := by rw [cell_of_row _ _ _ _ _ _ Z0.out]; rfl
      have e1 : w2.cell? ⟨w.heap.size, 1, none⟩ = some (.slice a bs.length cap) := by rw [cell_of_row _ _ _ _ _ _ Z0.out]; rfl
      have hidx := broken_any w2 R a cap bs a2 cap2 y (by omega) (H.out.below HB2.out (Nat.le_refl _)) (H2.out.below HB2.out (Nat.le_refl _)) (fun b hb => (NV.out b hb).1) q1 (by omega) q3
      obtain ⟨ix, hix⟩ : ∃ x, idxOf (keptB y) bs = x := ⟨_, rfl⟩
      rw [hix] at hidx hk
      have HI := hidE hidx
      have HK := hidE hk
      clear hvb hk hidx hix q1 q2 q3
      by_cases hneg : ix < 0
      · have hdd : decide (ix ≥ 0) = false := by simp; omega
        have hmx : max ix 0 = 0 := by omega
        have HMX := hidE hmx
        clear hmx
        go_wp2_with fail
        refine HI.out.mono ?_
        rintro e w3 ⟨rfl, hb3⟩
        have HB3 := hidE (HB2.out.trans (hb3.mono HB2.out.size))
        clear hb3 e0 e1
        go_wp2_with fail
        go_ret3
        exact ⟨by rw [HK.out]; simp only; rw [HMX.out, decide_eq_true hneg]; rfl, HB3.out⟩
      · have hdd : decide (ix ≥ 0) = true := by simp; omega
        have hmx : max ix 0 = ix := by omega
        have HMX := hidE hmx
        clear hmx
        go_wp2_with fail
        refine HI.out.mono ?_
        rintro e w3 ⟨rfl, hb3⟩
        have HB3 := hidE (HB2.out.trans (hb3.mono HB2.out.size))
        clear hb3 e0 e1
        go_wp2_with fail
        go_ret3
        exact ⟨by rw [HK.out]; simp only; rw [HMX.out, decide_eq_false (by omega)]; rfl, HB3.out⟩
  · have hk : keptE N bs y = (0, false, checkP N bs) := by unfold keptE; rw [if_pos hc]
    obtain ⟨c, hcc⟩ : ∃ c, checkP N bs = c := ⟨_, rfl⟩
    rw [hcc] at hk hc hck
    have hc2 : (c != 0) = true := by simpa using hc
    have HCK := hidE hck
    have HK := hidE hk
    clear hck hk hc hcc h h2 hN b0
    go_enter Tryz.func149, Tryz.ntmps149
    go_wp2_with fail
    refine HCK.out.mono ?_
    rintro e w1 ⟨rfl, hb1⟩
    go_wp2_with fail
    go_ret3
    exact ⟨by rw [HK.out]; rfl, B0.out.trans (hb1.mono B0.out.size)⟩
end Go.Proofs.YthjmkmjojlfejaaGreat

namespace Go.Proofs.YthjmkmjojlfejaaGreat
open Go Go.RowKit Go.Shelf
theorem weighed_bd {N : Int} {x : List Int} (h : weighedB N x = true) : (x.length : Int) = N ∧ ∀ v ∈ x, -1000000 ≤ v ∧ v ≤ 1000000 := by
  unfold weighedB at h
  simp only [Bool.and_eq_true, decide_eq_true_eq, List.all_eq_true] at h
  refine ⟨h.1.1, fun v hv => ?_⟩
  have := h.2 v hv
  unfold inR at this
  simpa using this
def formE (N : Int) (bs : List Bd) (x y : List Int) : Int × Int := if checkP N bs ≠ 0 then (0, checkP N bs) else if weighedB N x = false ∨ valuesB N y = false then (0, 1) else (formP x y, 0)
def flowE (N : Int) (bs : List Bd) (x flow : List Int) (most : Int) : Bool × Int :=
  if checkP N bs ≠ 0 then (false, checkP N bs) else if weighedB N x = false then (false, 1) else if flowingB bs.length flow = false then (false, 0) else ((carriesP N.toNat bs x flow).2 && decide ((carriesP N.toNat bs x flow).1 ≤ most), 0)
def bestE (N : Int) (bs : List Bd) (x y flow : List Int) : Bool × Int :=
  if checkP N bs ≠ 0 then (false, checkP N bs) else if weighedB N x = false ∨ valuesB N y = false then (false, 1) else if (keptE N bs y).2.1 = false ∨ flowingB bs.length flow = false then (false, 0)
  else ((carriesP N.toNat bs x flow).2 && ((carriesP N.toNat bs x flow).1 == formP x y), 0)
theorem keptE_err0 {N : Int} {bs : List Bd} {y : List Int} (h : checkP N bs = 0) (hv : valuesB N y = true) : (keptE N bs y).2.2 = 0 := by
  unfold keptE
  rw [if_neg (by omega), if_neg (by simp [hv])]
set_option maxHeartbeats 2000000 in
theorem checkFlow_any (w : World) (N : Int) (a : Option Addr) (cap : Nat) (bs : List Bd) (a2 : Option Addr) (cap2 : Nat) (x : List Int) (a3 : Option Addr) (cap3 : Nat) (flow : List Int) (most : Int) (hN : i64ok N) (hl : bs.length ≤ 9223372036854775807) (h : BoundsAt w a bs) (hl2 : x.length ≤ 9223372036854775807) (h2 : IntsAt w a2 x) (hl3 : flow.length ≤ 9223372036854775807) (h3 : IntsAt w a3 flow) :
    Calls Tryz.prog 58 #[.agg #[.int .i64 N, .slice a bs.length cap], .slice a2 x.length cap2, .slice a3 flow.length cap3, .int .i64 most] w fun e w' => e = .returned (.tuple #[.bool (flowE N bs x flow most).1, .int .i64 (flowE N bs x flow most).2]) ∧ Below w.heap.size w w' := by
  have B0 := hidE (show Below w.heap.size w (w.alloc (.cells #[.int .i64 N, .slice a bs.length cap] 24)) from (Below.refl _ _).alloc (Nat.le_refl _) _)
  have hch := check_any (w.alloc (.cells #[.int .i64 N, .slice a bs.length cap] 24)) N a cap bs hN hl (h.alloc _)
  obtain ⟨P1, hP1⟩ : ∃ z, (flowE N bs x flow most).1 = z := ⟨_, rfl⟩
  obtain ⟨P2, hP2⟩ : ∃ z, (flowE N bs x flow most).2 = z := ⟨_, rfl⟩
  rw [hP1, hP2]
  have H := hidE h
  have HN := hidE hN
  have H2 := hidE h2
  have H3 := hidE h3
  clear h h2 h3 hN
  by_cases z : checkP N bs = 0
  · rw [z] at hch
    obtain ⟨R, rfl, hR1, hR2, hbl, hv⟩ := allOk_of z
    have HZ := hidE z
    have HCH := hidE hch
    have HV := hidE hv
    clear z hch hv
    have HWE := hidE (fun W hy => weighed_any W (R : Int) a2 cap2 x hl2 hy)
    have HFL := hidE (fun W hy => flowing_any W (R : Int) a bs.length cap a3 cap3 flow hl3 hy)
    cases hq : weighedB (R : Int) x with
    | false =>
      unfold flowE at hP1 hP2
      rw [if_neg (by have := HZ.out; omega), if_pos hq] at hP1 hP2
      obtain rfl : false = P1 := hP1
      obtain rfl : (1 : Int) = P2 := hP2
      rw [hq] at HWE
      clear hq
      go_enter Tryz.func58, Tryz.ntmps58
      go_wp2_with fail
      refine (HCH.out).mono ?_
      rintro e w1 ⟨rfl, hb1⟩
      have x1 := blk_below hb1 (by simp) (heap_alloc_new w (.cells #[.int .i64 (R : Int), .slice a bs.length cap] 24))
      have c0_1 : w1.cell? ⟨w.heap.size, 0, none⟩ = some (.int .i64 (R : Int)) := by rw [cell_of_row _ _ _ _ _ _ x1]; rfl
      have c1_1 : w1.cell? ⟨w.heap.size, 1, none⟩ = some (.slice a bs.length cap) := by rw [cell_of_row _ _ _ _ _ _ x1]; rfl
      have l1 := lt_of_block x1
      have B1 := hidE (B0.out.trans (hb1.mono B0.out.size))
      have X1 := hidE x1
      clear hb1 x1
      go_wp2_with fail
      refine (HWE.out _ ((H2).out.below B1.out (Nat.le_refl _))).mono ?_
      rintro e w2 ⟨rfl, hb2⟩
      have x2 := blk_below hb2 l1 X1.out
      have c0_2 : w2.cell? ⟨w.heap.size, 0, none⟩ = some (.int .i64 (R : Int)) := by rw [cell_of_row _ _ _ _ _ _ x2]; rfl
      have c1_2 : w2.cell? ⟨w.heap.size, 1, none⟩ = some (.slice a bs.length cap) := by rw [cell_of_row _ _ _ _ _ _ x2]; rfl
      have l2 := lt_of_block x2
      have B2 := hidE (B1.out.trans (hb2.mono B1.out.size))
      have X2 := hidE x2
      clear hb2 x2 c0_1 c1_1
      go_wp2_with fail
      go_ret2
      exact ⟨rfl, B2.out⟩
    | true =>
      have HB := hidE (weighed_bd hq)
      rw [hq] at HWE
      cases hu : flowingB bs.length flow with
      | false =>
        unfold flowE at hP1 hP2
        rw [if_neg (by have := HZ.out; omega), if_neg (by simp [hq]), if_pos hu] at hP1 hP2
        obtain rfl : false = P1 := hP1
        obtain rfl : (0 : Int) = P2 := hP2
        rw [hu] at HFL
        clear hq hu
        go_enter Tryz.func58, Tryz.ntmps58
        go_wp2_with fail
        refine (HCH.out).mono ?_
        rintro e w1 ⟨rfl, hb1⟩
        have x1 := blk_below hb1 (by simp) (heap_alloc_new w (.cells #[.int .i64 (R : Int), .slice a bs.length cap] 24))
        have c0_1 : w1.cell? ⟨w.heap.size, 0, none⟩ = some (.int .i64 (R : Int)) := by rw [cell_of_row _ _ _ _ _ _ x1]; rfl
        have c1_1 : w1.cell? ⟨w.heap.size, 1, none⟩ = some (.slice a bs.length cap) := by rw [cell_of_row _ _ _ _ _ _ x1]; rfl
        have l1 := lt_of_block x1
        have B1 := hidE (B0.out.trans (hb1.mono B0.out.size))
        have X1 := hidE x1
        clear hb1 x1
        go_wp2_with fail
        refine (HWE.out _ ((H2).out.below B1.out (Nat.le_refl _))).mono ?_
        rintro e w2 ⟨rfl, hb2⟩
        have x2 := blk_below hb2 l1 X1.out
        have c0_2 : w2.cell? ⟨w.heap.size, 0, none⟩ = some (.int .i64 (R : Int)) := by rw [cell_of_row _ _ _ _ _ _ x2]; rfl
        have c1_2 : w2.cell? ⟨w.heap.size, 1, none⟩ = some (.slice a bs.length cap) := by rw [cell_of_row _ _ _ _ _ _ x2]; rfl
        have l2 := lt_of_block x2
        have B2 := hidE (B1.out.trans (hb2.mono B1.out.size))
        have X2 := hidE x2
        clear hb2 x2 c0_1 c1_1
        go_wp2_with fail
        refine (HFL.out _ ((H3).out.below B2.out (Nat.le_refl _))).mono ?_
        rintro e w3 ⟨rfl, hb3⟩
        have x3 := blk_below hb3 l2 X2.out
        have c0_3 : w3.cell? ⟨w.heap.size, 0, none⟩ = some (.int .i64 (R : Int)) := by rw [cell_of_row _ _ _ _ _ _ x3]; rfl
        have c1_3 : w3.cell? ⟨w.heap.size, 1, none⟩ = some (.slice a bs.length cap) := by rw [cell_of_row _ _ _ _ _ _ x3]; rfl
        have l3 := lt_of_block x3
        have B3 := hidE (B2.out.trans (hb3.mono B2.out.size))
        have X3 := hidE x3
        clear hb3 x3 c0_2 c1_2
        go_wp2_with fail
        go_ret2
        exact ⟨rfl, B3.out⟩
      | true =>
        unfold flowE at hP1 hP2
        rw [if_neg (by have := HZ.out; omega), if_neg (by simp [hq]), if_neg (by simp [hu])] at hP1 hP2
        obtain rfl : (0 : Int) = P2 := hP2
        have HFB := hidE (flowing_bd hu)
        have HCR := hidE (fun W hb hx hf => carries_any W R a cap bs a2 cap2 x a3 cap3 flow hR2 (by omega) (by have := HB.out.1; omega) HFB.out.1 hb hx hf HV.out HFB.out.2)
        rw [Int.toNat_natCast] at hP1
        obtain ⟨c, hc⟩ : ∃ c, (carriesP R bs x flow).1 = c := ⟨_, rfl⟩
        obtain ⟨k, hk⟩ : ∃ k, (carriesP R bs x flow).2 = k := ⟨_, rfl⟩
        rw [hc, hk] at HCR
        simp only [hc, hk] at hP1
        rw [hu] at HFL
        have HP := hidE hP1
        clear hq hu hc hk hP1
        go_enter Tryz.func58, Tryz.ntmps58
        go_wp2_with fail
        refine (HCH.out).mono ?_
        rintro e w1 ⟨rfl, hb1⟩
        have x1 := blk_below hb1 (by simp) (heap_alloc_new w (.cells #[.int .i64 (R : Int), .slice a bs.length cap] 24))
        have c0_1 : w1.cell? ⟨w.heap.size, 0, none⟩ = some (.int .i64 (R : Int)) := by rw [cell_of_row _ _ _ _ _ _ x1]; rfl
        have c1_1 : w1.cell? ⟨w.heap.size, 1, none⟩ = some (.slice a bs.length cap) := by rw [cell_of_row _ _ _ _ _ _ x1]; rfl
        have l1 := lt_of_block x1
        have B1 := hidE (B0.out.trans (hb1.mono B0.out.size))
        have X1 := hidE x1
        clear hb1 x1
        go_wp2_with fail
        refine (HWE.out _ ((H2).out.below B1.out (Nat.le_refl _))).mono ?_
        rintro e w2 ⟨rfl, hb2⟩
        have x2 := blk_below hb2 l1 X1.out
        have c0_2 : w2.cell? ⟨w.heap.size, 0, none⟩ = some (.int .i64 (R : Int)) := by rw [cell_of_row _ _ _ _ _ _ x2]; rfl
        have c1_2 : w2.cell? ⟨w.heap.size, 1, none⟩ = some (.slice a bs.length cap) := by rw [cell_of_row _ _ _ _ _ _ x2]; rfl
        have l2 := lt_of_block x2
        have B2 := hidE (B1.out.trans (hb2.mono B1.out.size))
        have X2 := hidE x2
        clear hb2 x2 c0_1 c1_1
        go_wp2_with fail
        refine (HFL.out _ ((H3).out.below B2.out (Nat.le_refl _))).mono ?_
        rintro e w3 ⟨rfl, hb3⟩
        have x3 := blk_below hb3 l2 X2.out
        have c0_3 : w3.cell? ⟨w.heap.size, 0, none⟩ = some (.int .i64 (R : Int)) := by rw [cell_of_row _ _ _ _ _ _ x3]; rfl
        have c1_3 : w3.cell? ⟨w.heap.size, 1, none⟩ = some (.slice a bs.length cap) := by rw [cell_of_row _ _ _ _ _ _ x3]; rfl
        have l3 := lt_of_block x3
        have B3 := hidE (B2.out.trans (hb3.mono B2.out.size))
        have X3 := hidE x3
        clear hb3 x3 c0_2 c1_2
        go_wp2_with fail
        refine (HCR.out _ ((H).out.below B3.out (Nat.le_refl _)) ((H2).out.below B3.out (Nat.le_refl _)) ((H3).out.below B3.out (Nat.le_refl _))).mono ?_
        rintro e w4 ⟨rfl, hb4⟩
        have x4 := blk_below hb4 l3 X3.out
        have c0_4 : w4.cell? ⟨w.heap.size, 0, none⟩ = some (.int .i64 (R : Int)) := by rw [cell_of_row _ _ _ _ _ _ x4]; rfl
        have c1_4 : w4.cell? ⟨w.heap.size, 1, none⟩ = some (.slice a bs.length cap) := by rw [cell_of_row _ _ _ _ _ _ x4]; rfl
        have l4 := lt_of_block x4
        have B4 := hidE (B3.out.trans (hb4.mono B3.out.size))
        have X4 := hidE x4
        clear hb4 x4 c0_3 c1_3
        cases k with
        | false =>
          obtain rfl : false = P1 := by have := HP.out; simpa using this
          go_wp2_with fail
          go_ret2
          exact ⟨rfl, B4.out⟩
        | true =>
          by_cases hm : c ≤ most
          · have hmd : decide (c ≤ most) = true := by simpa using hm
            obtain rfl : true = P1 := by have := HP.out; simpa [hm] using this
            clear hm
            go_wp2_with fail
            go_ret2
            exact ⟨rfl, B4.out⟩
          · have hmd : decide (c ≤ most) = false := by simpa using hm
            obtain rfl : false = P1 := by have := HP.out; simpa [hm] using this
            clear hm
            go_wp2_with fail
            go_ret2
            exact ⟨rfl, B4.out⟩
  · have zb : (checkP N bs != 0) = true := by simpa using z
    unfold flowE at hP1 hP2
    rw [if_pos z] at hP1 hP2
    obtain rfl : false = P1 := hP1
    obtain rfl : checkP N bs = P2 := hP2
    have HCH := hidE hch
    obtain ⟨c, hc⟩ : ∃ c, checkP N bs = c := ⟨_, rfl⟩
    rw [hc] at zb HCH ⊢
    clear hch hc z
    go_enter Tryz.func58, Tryz.ntmps58
    go_wp2_with fail
    refine (HCH.out).mono ?_
    rintro e w1 ⟨rfl, hb1⟩
    have x1 := blk_below hb1 (by simp) (heap_alloc_new w (.cells #[.int .i64 N, .slice a bs.length cap] 24))
    have c0_1 : w1.cell? ⟨w.heap.size, 0, none⟩ = some (.int .i64 N) := by rw [cell_of_row _ _ _ _ _ _ x1]; rfl
    have c1_1 : w1.cell? ⟨w.heap.size, 1, none⟩ = some (.slice a bs.length cap) := by rw [cell_of_row _ _ _ _ _ _ x1]; rfl
    have l1 := lt_of_block x1
    have B1 := hidE (B0.out.trans (hb1.mono B0.out.size))
    have X1 := hidE x1
    clear hb1 x1
    go_wp2_with fail
    go_ret2
    exact ⟨rfl, B1.out⟩
set_option maxHeartbeats 2000000 in
theorem checkBest_any (w : World) (N : Int) (a : Option Addr) (cap : Nat) (bs : List Bd) (a2 : Option Addr) (cap2 : Nat) (x : List Int) (a3 : Option Addr) (cap3 : Nat) (y : List Int) (a4 : Option Addr) (cap4 : Nat) (flow : List Int) (hN : i64ok N) (hl : bs.length ≤ 9223372036854775807) (h : BoundsAt w a bs) (hl2 : x.length ≤ 9223372036854775807) (h2 : IntsAt w a2 x) (hl3 : y.length ≤ 9223372036854775807) (h3 : IntsAt w a3 y) (hl4 : flow.length ≤ 9223372036854775807) (h4 : IntsAt w a4 flow) :
    Calls Tryz.prog 60 #[.agg #[.int .i64 N, .slice a bs.length cap], .slice a2 x.length cap2, .slice a3 y.length cap3, .slice a4 flow.length cap4] w fun e w' => e = .returned (.tuple #[.bool (bestE N bs x y flow).1, .int .i64 (bestE N bs x y flow).2]) ∧ Below w.heap.size w w' := by
  have B0 := hidE (show Below w.heap.size w (w.alloc (.cells #[.int .i64 N, .slice a bs.length cap] 24)) from (Below.refl _ _).alloc (Nat.le_refl _) _)
  have hch := check_any (w.alloc (.cells #[.int .i64 N, .slice a bs.length cap] 24)) N a cap bs hN hl (h.alloc _)
  obtain ⟨P1, hP1⟩ : ∃ z, (bestE N bs x y flow).1 = z := ⟨_, rfl⟩
  obtain ⟨P2, hP2⟩ : ∃ z, (bestE N bs x y flow).2 = z := ⟨_, rfl⟩
  rw [hP1, hP2]
  have H := hidE h
  have HN := hidE hN
  have H2 := hidE h2
  have H3 := hidE h3
  have H4 := hidE h4
  clear h h2 h3 h4 hN
  by_cases z : checkP N bs = 0
  · rw [z] at hch
    obtain ⟨R, rfl, hR1, hR2, hbl, hv⟩ := allOk_of z
    have HZ := hidE z
    have HCH := hidE hch
    have HV := hidE hv
    clear z hch hv
    have HWE := hidE (fun W hy => weighed_any W (R : Int) a2 cap2 x hl2 hy)
    have HVA := hidE (fun W hy => valued_any W (R : Int) a3 cap3 y (by omega) hl3 hy)
    have HFL := hidE (fun W hy => flowing_any W (R : Int) a bs.length cap a4 cap4 flow hl4 hy)
    have HKE := hidE (fun W hb hy => kept_any W (R : Int) a cap bs a3 cap3 y HN.out hl hl3 hb hy)
    cases hq : weighedB (R : Int) x with
    | false =>
      unfold bestE at hP1 hP2
      rw [if_neg (by have := HZ.out; omega), if_pos (.inl hq)] at hP1 hP2
      obtain rfl : false = P1 := hP1
      obtain rfl : (1 : Int) = P2 := hP2
      rw [hq] at HWE
      clear hq
      go_enter Tryz.func60, Tryz.ntmps60
      go_wp2_with fail
      refine (HCH.out).mono ?_
      rintro e w1 ⟨rfl, hb1⟩
      have x1 := blk_below hb1 (by simp) (heap_alloc_new w (.cells #[.int .i64 (R : Int), .slice a bs.length cap] 24))
      have c0_1 : w1.cell? ⟨w.heap.size, 0, none⟩ = some (.int .i64 (R : Int)) := by rw [cell_of_row _ _ _ _ _ _ x1]; rfl
      have c1_1 : w1.cell? ⟨w.heap.size, 1, none⟩ = some (.slice a bs.length cap) := by rw [cell_of_row _ _ _ _ _ _ x1]; rfl
      have l1 := lt_of_block x1
      have B1 := hidE (B0.out.trans (hb1.mono B0.out.size))
      have X1 := hidE x1
      clear hb1 x1
      go_wp2_with fail
      refine (HWE.out _ ((H2).out.below B1.out (Nat.le_refl _))).mono ?_
      rintro e w2 ⟨rfl, hb2⟩
      have x2 := blk_below hb2 l1 X1.out
      have c0_2 : w2.cell? ⟨w.heap.size, 0, none⟩ = some (.int .i64 (R : Int)) := by rw [cell_of_row _ _ _ _ _ _ x2]; rfl
      have c1_2 : w2.cell? ⟨w.heap.size, 1, none⟩ = some (.slice a bs.length cap) := by rw [cell_of_row _ _ _ _ _ _ x2]; rfl
      have l2 := lt_of_block x2
      have B2 := hidE (B1.out.trans (hb2.mono B1.out.size))
      have X2 := hidE x2
      clear hb2 x2 c0_1 c1_1
      go_wp2_with fail
      go_ret2
      exact ⟨rfl, B2.out⟩
    | true =>
      have HB := hidE (weighed_bd hq)
      rw [hq] at HWE
      cases hu : valuesB (R : Int) y with
      | false =>
        unfold bestE at hP1 hP2
        rw [if_neg (by have := HZ.out; omega), if_pos (.inr hu)] at hP1 hP2
        obtain rfl : false = P1 := hP1
        obtain rfl : (1 : Int) = P2 := hP2
        rw [hu] at HVA
        clear hq hu
        go_enter Tryz.func60, Tryz.ntmps60
        go_wp2_with fail
        refine (HCH.out).mono ?_
        rintro e w1 ⟨rfl, hb1⟩
        have x1 := blk_below hb1 (by simp) (heap_alloc_new w (.cells #[.int .i64 (R : Int), .slice a bs.length cap] 24))
        have c0_1 : w1.cell? ⟨w.heap.size, 0, none⟩ = some (.int .i64 (R : Int)) := by rw [cell_of_row _ _ _ _ _ _ x1]; rfl
        have c1_1 : w1.cell? ⟨w.heap.size, 1, none⟩ = some (.slice a bs.length cap) := by rw [cell_of_row _ _ _ _ _ _ x1]; rfl
        have l1 := lt_of_block x1
        have B1 := hidE (B0.out.trans (hb1.mono B0.out.size))
        have X1 := hidE x1
        clear hb1 x1
        go_wp2_with fail
        refine (HWE.out _ ((H2).out.below B1.out (Nat.le_refl _))).mono ?_
        rintro e w2 ⟨rfl, hb2⟩
        have x2 := blk_below hb2 l1 X1.out
        have c0_2 : w2.cell? ⟨w.heap.size, 0, none⟩ = some (.int .i64 (R : Int)) := by rw [cell_of_row _ _ _ _ _ _ x2]; rfl
        have c1_2 : w2.cell? ⟨w.heap.size, 1, none⟩ = some (.slice a bs.length cap) := by rw [cell_of_row _ _ _ _ _ _ x2]; rfl
        have l2 := lt_of_block x2
        have B2 := hidE (B1.out.trans (hb2.mono B1.out.size))
        have X2 := hidE x2
        clear hb2 x2 c0_1 c1_1
        go_wp2_with fail
        refine (HVA.out _ ((H3).out.below B2.out (Nat.le_refl _))).mono ?_
        rintro e w3 ⟨rfl, hb3⟩
        have x3 := blk_below hb3 l2 X2.out
        have c0_3 : w3.cell? ⟨w.heap.size, 0, none⟩ = some (.int .i64 (R : Int)) := by rw [cell_of_row _ _ _ _ _ _ x3]; rfl
        have c1_3 : w3.cell? ⟨w.heap.size, 1, none⟩ = some (.slice a bs.length cap) := by rw [cell_of_row _ _ _ _ _ _ x3]; rfl
        have l3 := lt_of_block x3
        have B3 := hidE (B2.out.trans (hb3.mono B2.out.size))
        have X3 := hidE x3
        clear hb3 x3 c0_2 c1_2
        go_wp2_with fail
        go_ret2
        exact ⟨rfl, B3.out⟩
      | true =>
        have HVB := hidE (valuesB_iff.1 hu)
        have hk0 := keptE_err0 HZ.out hu
        rw [hk0] at HKE
        rw [hu] at HVA
        unfold bestE at hP1 hP2
        rw [if_neg (by have := HZ.out; omega), if_neg (by simp [hq, hu])] at hP1 hP2
        obtain ⟨ix, hix⟩ : ∃ i, (keptE (R : Int) bs y).1 = i := ⟨_, rfl⟩
        obtain ⟨kp, hkp⟩ : ∃ i, (keptE (R : Int) bs y).2.1 = i := ⟨_, rfl⟩
        rw [hix, hkp] at HKE
        rw [hkp] at hP1 hP2
        clear hq hu hk0 hix hkp
        cases kp with
        | false =>
          rw [if_pos (.inl rfl)] at hP1 hP2
          obtain rfl : false = P1 := hP1
          obtain rfl : (0 : Int) = P2 := hP2
          go_enter Tryz.func60, Tryz.ntmps60
          go_wp2_with fail
          refine (HCH.out).mono ?_
          rintro e w1 ⟨rfl, hb1⟩
          have x1 := blk_below hb1 (by simp) (heap_alloc_new w (.cells #[.int .i64 (R : Int), .slice a bs.length cap] 24))
          have c0_1 : w1.cell? ⟨w.heap.size, 0, none⟩ = some (.int .i64 (R : Int)) := by rw [cell_of_row _ _ _ _ _ _ x1]; rfl
          have c1_1 : w1.cell? ⟨w.heap.size, 1, none⟩ = some (.slice a bs.length cap) := by rw [cell_of_row _ _ _ _ _ _ x1]; rfl
          have l1 := lt_of_block x1
          have B1 := hidE (B0.out.trans (hb1.mono B0.out.size))
          have X1 := hidE x1
          clear hb1 x1
          go_wp2_with fail
          refine (HWE.out _ ((H2).out.below B1.out (Nat.le_refl _))).mono ?_
          rintro e w2 ⟨rfl, hb2⟩
          have x2 := blk_below hb2 l1 X1.out
          have c0_2 : w2.cell? ⟨w.heap.size, 0, none⟩ = some (.int .i64 (R : Int)) := by rw [cell_of_row _ _ _ _ _ _ x2]; rfl
          have c1_2 : w2.cell? ⟨w.heap.size, 1, none⟩ = some (.slice a bs.length cap) := by rw [cell_of_row _ _ _ _ _ _ x2]; rfl
          have l2 := lt_of_block x2
          have B2 := hidE (B1.out.trans (hb2.mono B1.out.size))
          have X2 := hidE x2
          clear hb2 x2 c0_1 c1_1
          go_wp2_with fail
          refine (HVA.out _ ((H3).out.below B2.out (Nat.le_refl _))).mono ?_
          rintro e w3 ⟨rfl, hb3⟩
          have x3 := blk_below hb3 l2 X2.out
          have c0_3 : w3.cell? ⟨w.heap.size, 0, none⟩ = some (.int .i64 (R : Int)) := by rw [cell_of_row _ _ _ _ _ _ x3]; rfl
          have c1_3 : w3.cell? ⟨w.heap.size, 1, none⟩ = some (.slice a bs.length cap) := by rw [cell_of_row _ _ _ _ _ _ x3]; rfl
          have l3 := lt_of_block x3
          have B3 := hidE (B2.out.trans (hb3.mono B2.out.size))
          have X3 := hidE x3
          clear hb3 x3 c0_2 c1_2
          go_wp2_with fail
          refine (HKE.out _ ((H).out.below B3.out (Nat.le_refl _)) ((H3).out.below B3.out (Nat.le_refl _))).mono ?_
          rintro e w4 ⟨rfl, hb4⟩
          have x4 := blk_below hb4 l3 X3.out
          have c0_4 : w4.cell? ⟨w.heap.size, 0, none⟩ = some (.int .i64 (R : Int)) := by rw [cell_of_row _ _ _ _ _ _ x4]; rfl
          have c1_4 : w4.cell? ⟨w.heap.size, 1, none⟩ = some (.slice a bs.length cap) := by rw [cell_of_row _ _ _ _ _ _ x4]; rfl
          have l4 := lt_of_block x4
          have B4 := hidE (B3.out.trans (hb4.mono B3.out.size))
          have X4 := hidE x4
          clear hb4 x4 c0_3 c1_3
          go_wp2_with fail
          go_ret2
          exact ⟨rfl, B4.out⟩
        | true =>
          cases hf : flowingB bs.length flow with
          | false =>
            rw [if_pos (.inr hf)] at hP1 hP2
            obtain rfl : false = P1 := hP1
            obtain rfl : (0 : Int) = P2 := hP2
            rw [hf] at HFL
            clear hf
            go_enter Tryz.func60, Tryz.ntmps60
            go_wp2_with fail
            refine (HCH.out).mono ?_
            rintro e w1 ⟨rfl, hb1⟩
            have x1 := blk_below hb1 (by simp) (heap_alloc_new w (.cells #[.int .i64 (R : Int), .slice a bs.length cap] 24))
            have c0_1 : w1.cell? ⟨w.heap.size, 0, none⟩ = some (.int .i64 (R : Int)) := by rw [cell_of_row _ _ _ _ _ _ x1]; rfl
            have c1_1 : w1.cell? ⟨w.heap.size, 1, none⟩ = some (.slice a bs.length cap) := by rw [cell_of_row _ _ _ _ _ _ x1]; rfl
            have l1 := lt_of_block x1
            have B1 := hidE (B0.out.trans (hb1.mono B0.out.size))
            have X1 := hidE x1
            clear hb1 x1
            go_wp2_with fail
            refine (HWE.out _ ((H2).out.below B1.out (Nat.le_refl _))).mono ?_
            rintro e w2 ⟨rfl, hb2⟩
            have x2 := blk_below hb2 l1 X1.out
            have c0_2 : w2.cell? ⟨w.heap.size, 0, none⟩ = some (.int .i64 (R : Int)) := by rw [cell_of_row _ _ _ _ _ _ x2]; rfl
            have c1_2 : w2.cell? ⟨w.heap.size, 1, none⟩ = some (.slice a bs.length cap) := by rw [cell_of_row _ _ _ _ _ _ x2]; rfl
            have l2 := lt_of_block x2
            have B2 := hidE (B1.out.trans (hb2.mono B1.out.size))
            have X2 := hidE x2
            clear hb2 x2 c0_1 c1_1
            go_wp2_with fail
            refine (HVA.out _ ((H3).out.below B2.out (Nat.le_refl _))).mono ?_
            rintro e w3 ⟨rfl, hb3⟩
            have x3 := blk_below hb3 l2 X2.out
            have c0_3 : w3.cell? ⟨w.heap.size, 0, none⟩ = some (.int .i64 (R : Int)) := by rw [cell_of_row _ _ _ _ _ _ x3]; rfl
            have c1_3 : w3.cell? ⟨w.heap.size, 1, none⟩ = some (.slice a bs.length cap) := by rw [cell_of_row _ _ _ _ _ _ x3]; rfl
            have l3 := lt_of_block x3
            have B3 := hidE (B2.out.trans (hb3.mono B2.out.size))
            have X3 := hidE x3
            clear hb3 x3 c0_2 c1_2
            go_wp2_with fail
            refine (HKE.out _ ((H).out.below B3.out (Nat.le_refl _)) ((H3).out.below B3.out (Nat.le_refl _))).mono ?_
            rintro e w4 ⟨rfl, hb4⟩
            have x4 := blk_below hb4 l3 X3.out
            have c0_4 : w4.cell? ⟨w.heap.size, 0, none⟩ = some (.int .i64 (R : Int)) := by rw [cell_of_row _ _ _ _ _ _ x4]; rfl
            have c1_4 : w4.cell? ⟨w.heap.size, 1, none⟩ = some (.slice a bs.length cap) := by rw [cell_of_row _ _ _ _ _ _ x4]; rfl
            have l4 := lt_of_block x4
            have B4 := hidE (B3.out.trans (hb4.mono B3.out.size))
            have X4 := hidE x4
            clear hb4 x4 c0_3 c1_3
            go_wp2_with fail
            refine (HFL.out _ ((H4).out.below B4.out (Nat.le_refl _))).mono ?_
            rintro e w5 ⟨rfl, hb5⟩
            have x5 := blk_below hb5 l4 X4.out
            have c0_5 : w5.cell? ⟨w.heap.size, 0, none⟩ = some (.int .i64 (R : Int)) := by rw [cell_of_row _ _ _ _ _ _ x5]; rfl
            have c1_5 : w5.cell? ⟨w.heap.size, 1, none⟩ = some (.slice a bs.length cap) := by rw [cell_of_row _ _ _ _ _ _ x5]; rfl
            have l5 := lt_of_block x5
            have B5 := hidE (B4.out.trans (hb5.mono B4.out.size))
            have X5 := hidE x5
            clear hb5 x5 c0_4 c1_4
            go_wp2_with fail
            go_ret2
            exact ⟨rfl, B5.out⟩
          | true =>
            rw [if_neg (by simp [hf])] at hP1 hP2
            obtain rfl : (0 : Int) = P2 := hP2
            rw [hf] at HFL
            have HFB := hidE (flowing_bd hf)
            have HFO := hidE (fun W hx hy => form_any W a2 cap2 x a3 cap3 y (by have := HB.out.1; omega) (by have := HB.out.1; have := HVB.out.1; omega) hx hy HB.out.2 HVB.out.2.2)
            have HCR := hidE (fun W hb hx hf => carries_any W R a cap bs a2 cap2 x a4 cap4 flow hR2 (by omega) (by have := HB.out.1; omega) HFB.out.1 hb hx hf HV.out HFB.out.2)
            rw [Int.toNat_natCast] at hP1
            obtain ⟨c, hc⟩ : ∃ c, (carriesP R bs x flow).1 = c := ⟨_, rfl⟩
            obtain ⟨k, hk⟩ : ∃ k, (carriesP R bs x flow).2 = k := ⟨_, rfl⟩
            obtain ⟨fo, hfo⟩ : ∃ k, formP x y = k := ⟨_, rfl⟩
            rw [hc, hk] at HCR
            rw [hfo] at HFO
            simp only [hc, hk, hfo] at hP1
            have HP := hidE hP1
            clear hf hc hk hfo hP1
            go_enter Tryz.func60, Tryz.ntmps60
            go_wp2_with fail
            refine (HCH.out).mono ?_
            rintro e w1 ⟨rfl, hb1⟩
            have x1 := blk_below hb1 (by simp) (heap_alloc_new w (.cells #[.int .i64 (R : Int), .slice a bs.length cap] 24))
            have c0_1 : w1.cell? ⟨w.heap.size, 0, none⟩ = some (.int .i64 (R : Int)) := by rw [cell_of_row _ _ _ _ _ _ x1]; rfl
            have c1_1 : w1.cell? ⟨w.heap.size, 1, none⟩ = some (.slice a bs.length cap) := by rw [cell_of_row _ _ _ _ _ _ x1]; rfl
            have l1 := lt_of_block x1
            have B1 := hidE (B0.out.trans (hb1.mono B0.out.size))
            have X1 := hidE x1
            clear hb1 x1
            go_wp2_with fail
            refine (HWE.out _ ((H2).out.below B1.out (Nat.le_refl _))).mono ?_
            rintro e w2 ⟨rfl, hb2⟩
            have x2 := blk_below hb2 l1 X1.out
            have c0_2 : w2.cell? ⟨w.heap.size, 0, none⟩ = some (.int .i64 (R : Int)) := by rw [cell_of_row _ _ _ _ _ _ x2]; rfl
            have c1_2 : w2.cell? ⟨w.heap.size, 1, none⟩ = some (.slice a bs.length cap) := by rw [cell_of_row _ _ _ _ _ _ x2]; rfl
            have l2 := lt_of_block x2
            have B2 := hidE (B1.out.trans (hb2.mono B1.out.size))
            have X2 := hidE x2
            clear hb2 x2 c0_1 c1_1
            go_wp2_with fail
            refine (HVA.out _ ((H3).out.below B2.out (Nat.le_refl _))).mono ?_
            rintro e w3 ⟨rfl, hb3⟩
            have x3 := blk_below hb3 l2 X2.out
            have c0_3 : w3.cell? ⟨w.heap.size, 0, none⟩ = some (.int .i64 (R : Int)) := by rw [cell_of_row _ _ _ _ _ _ x3]; rfl
            have c1_3 : w3.cell? ⟨w.heap.size, 1, none⟩ = some (.slice a bs.length cap) := by rw [cell_of_row _ _ _ _ _ _ x3]; rfl
            have l3 := lt_of_block x3
            have B3 := hidE (B2.out.trans (hb3.mono B2.out.size))
            have X3 := hidE x3
            clear hb3 x3 c0_2 c1_2
            go_wp2_with fail
            refine (HKE.out _ ((H).out.below B3.out (Nat.le_refl _)) ((H3).out.below B3.out (Nat.le_refl _))).mono ?_
            rintro e w4 ⟨rfl, hb4⟩
            have x4 := blk_below hb4 l3 X3.out
            have c0_4 : w4.cell? ⟨w.heap.size, 0, none⟩ = some (.int .i64 (R : Int)) := by rw [cell_of_row _ _ _ _ _ _ x4]; rfl
            have c1_4 : w4.cell? ⟨w.heap.size, 1, none⟩ = some (.slice a bs.length cap) := by rw [cell_of_row _ _ _ _ _ _ x4]; rfl
            have l4 := lt_of_block x4
            have B4 := hidE (B3.out.trans (hb4.mono B3.out.size))
            have X4 := hidE x4
            clear hb4 x4 c0_3 c1_3
            go_wp2_with fail
            refine (HFL.out _ ((H4).out.below B4.out (Nat.le_refl _))).mono ?_
            rintro e w5 ⟨rfl, hb5⟩
            have x5 := blk_below hb5 l4 X4.out
            have c0_5 : w5.cell? ⟨w.heap.size, 0, none⟩ = some (.int .i64 (R : Int)) := by rw [cell_of_row _ _ _ _ _ _ x5]; rfl
            have c1_5 : w5.cell? ⟨w.heap.size, 1, none⟩ = some (.slice a bs.length cap) := by rw [cell_of_row _ _ _ _ _ _ x5]; rfl
            have l5 := lt_of_block x5
            have B5 := hidE (B4.out.trans (hb5.mono B4.out.size))
            have X5 := hidE x5
            clear hb5 x5 c0_4 c1_4
            go_wp2_with fail
            refine (HCR.out _ ((H).out.below B5.out (Nat.le_refl _)) ((H2).out.below B5.out (Nat.le_refl _)) ((H4).out.below B5.out (Nat.le_refl _))).mono ?_
            rintro e w6 ⟨rfl, hb6⟩
            have x6 := blk_below hb6 l5 X5.out
            have c0_6 : w6.cell? ⟨w.heap.size, 0, none⟩ = some (.int .i64 (R : Int)) := by rw [cell_of_row _ _ _ _ _ _ x6]; rfl
            have c1_6 : w6.cell? ⟨w.heap.size, 1, none⟩ = some (.slice a bs.length cap) := by rw [cell_of_row _ _ _ _ _ _ x6]; rfl
            have l6 := lt_of_block x6
            have B6 := hidE (B5.out.trans (hb6.mono B5.out.size))
            have X6 := hidE x6
            clear hb6 x6 c0_5 c1_5
            cases k with
            | false =>
              obtain rfl : false = P1 := by have := HP.out; simpa using this
              go_wp2_with fail
              go_ret2
              exact ⟨rfl, B6.out⟩
            | true =>
              by_cases hm : c = fo
              · have hmd : (c == fo) = true := by simpa using hm
                obtain rfl : true = P1 := by have := HP.out; simpa [hm] using this
                clear hm
                go_wp2_with fail
                refine (HFO.out _ ((H2).out.below B6.out (Nat.le_refl _)) ((H3).out.below B6.out (Nat.le_refl _))).mono ?_
                rintro e w7 ⟨rfl, rfl⟩
                go_wp2_with fail
                go_ret2
                exact ⟨rfl, B6.out⟩
              · have hmd : (c == fo) = false := by simpa using hm
                obtain rfl : false = P1 := by have := HP.out; rw [hmd] at this; exact this
                clear hm
                go_wp2_with fail
                refine (HFO.out _ ((H2).out.below B6.out (Nat.le_refl _)) ((H3).out.below B6.out (Nat.le_refl _))).mono ?_
                rintro e w7 ⟨rfl, rfl⟩
                go_wp2_with fail
                go_ret2
                exact ⟨rfl, B6.out⟩
  · have zb : (checkP N bs != 0) = true := by simpa using z
    unfold bestE at hP1 hP2
    rw [if_pos z] at hP1 hP2
    obtain rfl : false = P1 := hP1
    obtain rfl : checkP N bs = P2 := hP2
    have HCH := hidE hch
    obtain ⟨c, hc⟩ : ∃ c, checkP N bs = c := ⟨_, rfl⟩
    rw [hc] at zb HCH ⊢
    clear hch hc z
    go_enter Tryz.func60, Tryz.ntmps60
    go_wp2_with fail
    refine (HCH.out).mono ?_
    rintro e w1 ⟨rfl, hb1⟩
    have x1 := blk_below hb1 (by simp) (heap_alloc_new w (.cells #[.int .i64 N, .slice a bs.length cap] 24))
    have c0_1 : w1.cell? ⟨w.heap.size, 0, none⟩ = some (.int .i64 N) := by rw [cell_of_row _ _ _ _ _ _ x1]; rfl
    have c1_1 : w1.cell? ⟨w.heap.size, 1, none⟩ = some (.slice a bs.length cap) := by rw [cell_of_row _ _ _ _ _ _ x1]; rfl
    have l1 := lt_of_block x1
    have B1 := hidE (B0.out.trans (hb1.mono B0.out.size))
    have X1 := hidE x1
    clear hb1 x1
    go_wp2_with fail
    go_ret2
    exact ⟨rfl, B1.out⟩
end Go.Proofs.YthjmkmjojlfejaaGreat

namespace Go.Proofs.YthjmkmjojlfejaaGreat
open Go Go.RowKit Go.Shelf
theorem insAt_of : ∀ {l : List Int} {n : Int} {k : Nat}, k ≤ l.length → (∀ q (hq : q < l.length), q < k → l[q] < n) → (∀ h : k < l.length, ¬ l[k] < n) → insAt l n = k
  | [], n, k, hk, _, _ => by have : k = 0 := by simpa using hk
                             subst this; rfl
  | x :: l, n, 0, _, _, h2 => by
    have := h2 (by simp)
    simp at this
    unfold insAt
    rw [List.takeWhile_cons, if_neg (by simp; omega)]; rfl
  | x :: l, n, k + 1, hk, h1, h2 => by
    have h0 := h1 0 (by simp) (by omega)
    simp at h0
    have ih := insAt_of (l := l) (n := n) (k := k) (by simpa using hk) (fun q hq hqk => by
      have h3 := h1 (q + 1) (by simp; omega) (by omega)
      rwa [List.getElem_cons_succ] at h3) (fun h => by
      have h3 := h2 (by simp; omega)
      rwa [List.getElem_cons_succ] at h3)
    unfold insAt at ih ⊢
    rw [List.takeWhile_cons, if_pos (by simpa using h0), List.length_cons, ih]
theorem insertP_same {l : List Int} {n : Int} {k : Nat} (h : insAt l n = k) (hk : k < l.length) (e : l[k] = n) : insertP l n = l := by
  unfold insertP
  rw [h, if_pos]
  rw [List.head?_drop, List.getElem?_eq_getElem hk, e]
theorem insertP_new {l : List Int} {n : Int} {k : Nat} (h : insAt l n = k) (hk : ∀ hk : k < l.length, l[k] ≠ n) : insertP l n = l.take k ++ [n] ++ l.drop k := by
  unfold insertP
  rw [h, if_neg]
  intro e
  rw [List.head?_drop] at e
  obtain ⟨hk', e'⟩ := List.getElem?_eq_some_iff.1 e
  exact hk hk' e'
theorem owns_empty_ints {W : World} {base g : Nat} (h : W.heap[g]? = some (.cells #[] 3 (0,0))) (hb : base ≤ g) : W.ownsRow base 3 1 (.slice (some ⟨g, 0, none⟩) 0 0) ([] : List Int).length (intsV []) :=
  ⟨rfl, .inr ⟨g, 0, #[], rfl, hb, h, Nat.le_refl _, Nat.zero_le _, rfl, rfl⟩⟩
/-- Part of an owned list, as it lies. -/
theorem ints_part {W : World} {base g n cap : Nat} {l : List Int} (h : W.ownsRow base 3 1 (.slice (some ⟨g, 0, none⟩) n cap) l.length (intsV l)) {i : Nat} (r : List Int) (hr : ∀ q (hq : q < r.length), ∃ h : i + q < l.length, l[i + q] = r[q]) : IntsAt W (some ⟨g, i, none⟩) r := by
  rcases h.2 with ⟨e, _⟩ | ⟨gb, cp, cur, e, _, hh, hn, _, hsz, htk⟩
  · cases e
  · cases e
    refine .inr ⟨g, i, rfl, lt_of_block hh, fun q hq => ?_⟩
    obtain ⟨hl, e2⟩ := hr q hq
    rw [cell_of_row _ _ _ _ _ _ hh, ← e2]
    have h2 : (cur.toList.take (l.length * 1))[i + q]? = (intsV l)[i + q]? := by rw [htk]
    rw [List.getElem?_take_of_lt (by omega)] at h2
    rw [← Array.getElem?_toList, h2]
    simp [intsV, hl]
theorem ins_tail (wr : World) (base g cap k : Nat) (l : List Int) (n : Int) (hl : l.length ≤ 50000) (hk : k ≤ l.length) (hcap : l.length ≤ cap) (HO : Hid (wr.ownsRow base 3 1 (.slice (some ⟨g, 0, none⟩) l.length cap) l.length (intsV l))) (HB : Hid (base ≤ wr.heap.size)) (hnew : insertP l n = l.take k ++ [n] ++ l.drop k) :
    ∃ (v1 v2 v3 : Value) (W1 W2 W3 : World), Hid ((Builtin.append_ #[25, 25] 25 #[.slice (some ⟨wr.heap.size, 0, none⟩) 0 0, .slice (some ⟨g, 0, none⟩) k cap]).run Tryz.prog (wr.alloc (.cells #[] 3)) = .ok v1 W1) ∧
          Hid ((Builtin.append_ #[25, 25] 25 #[v1, .slice (some ⟨W1.heap.size, 0, none⟩) 1 1]).run Tryz.prog (W1.drew.alloc (.cells #[.int .i64 n] 3)) = .ok v2 W2) ∧
          Hid ((Builtin.append_ #[25, 25] 25 #[v2, .slice (if cap = k then some ⟨g, 0, none⟩ else some ⟨g, k, none⟩) (l.length - k) (cap - k)]).run Tryz.prog W2 = .ok v3 W3) ∧
          Hid (W3.ownsRow base 3 1 v3 (insertP l n).length (intsV (insertP l n))) ∧ Hid (Below wr.heap.size wr W3) := by
  have hgw : g < wr.heap.size := owns_lt' HO.out rfl
  have b1 : Below wr.heap.size wr (wr.alloc (.cells #[] 3)) := (Below.refl _ _).alloc (Nat.le_refl _) _
  have a1 : IntsAt (wr.alloc (.cells #[] 3)) (some ⟨g, 0, none⟩) (l.take k) := (ints_part HO.out (i := 0) (l.take k) (fun q hq => by
    have hq' : q < k := by simp at hq; omega
    exact ⟨by omega, by simp⟩)).below b1 (Nat.le_refl _)
  obtain ⟨v1, W1, hr1, ho1, hb1⟩ := append_ints (wr.alloc (.cells #[] 3)) wr.heap.size (.slice (some ⟨wr.heap.size, 0, none⟩) 0 0) [] (owns_empty_ints (heap_alloc_new wr _) (Nat.le_refl _)) (some ⟨g, 0, none⟩) cap (l.take k) a1 (by simp) (by simp; omega) (by simp) 25
  have b2 : Below wr.heap.size wr (W1.drew.alloc (.cells #[.int .i64 n] 3)) := (b1.trans hb1).drew.alloc (b1.trans hb1).size _
  obtain ⟨v2, W2, hr2, ho2, hb2⟩ := append_ints (W1.drew.alloc (.cells #[.int .i64 n] 3)) wr.heap.size v1 ([] ++ l.take k) (World.ownsRow.alloc (w := W1.drew) ho1 _) (some ⟨W1.heap.size, 0, none⟩) 1 [n] (ints_one W1.drew n) (by simp; omega) (by simp) (Nat.le_trans b2.size (Nat.le_refl _)) 25
  have b3 := b2.trans hb2
  have a3 : IntsAt W2 (if cap = k then some ⟨g, 0, none⟩ else some ⟨g, k, none⟩) (l.drop k) := by
    by_cases e : cap = k
    · exact .inl (List.drop_eq_nil_of_le (by omega))
    · rw [if_neg e]
      exact (ints_part HO.out (i := k) (l.drop k) (fun q hq => by
        have hq' : q < l.length - k := by simpa using hq
        exact ⟨by omega, by simp⟩)).below b3 (Nat.le_refl _)
  obtain ⟨v3, W3, hr3, ho3, hb3⟩ := append_ints W2 wr.heap.size v2 ([] ++ l.take k ++ [n]) ho2 (if cap = k then some ⟨g, 0, none⟩ else some ⟨g, k, none⟩) (cap - k) (l.drop k) a3 (by simp; omega) (by simp; omega) b3.size 25
  rw [List.length_take, Nat.min_eq_left hk] at hr1
  rw [List.length_drop] at hr3
  refine ⟨v1, v2, v3, W1, W2, W3, hidE hr1, hidE hr2, hidE hr3, hidE ?_, hidE (b3.trans hb3)⟩
  rw [hnew]
  exact ownsRow_base ho3 HB.out
set_option maxRecDepth 100000 in
set_option maxHeartbeats 4000000 in
theorem insert_any (w : World) (base : Nat) (v : Value) (l : List Int) (n : Int) (hl : l.length ≤ 50000) (ho : w.ownsRow base 3 1 v l.length (intsV l)) (hb : base ≤ w.heap.size) :
    Calls Tryz.prog 181 #[v, .int .i64 n] w fun e w' => ∃ v', e = .returned v' ∧ w'.ownsRow base 3 1 v' (insertP l n).length (intsV (insertP l n)) ∧ Below w.heap.size w w' := by
  by_cases hv : v = .slice none 0 0
  · subst hv
    have h0 : l = [] := by
      rcases ho.2 with ⟨_, e⟩ | ⟨g, cp, cu, e, _⟩
      · exact List.length_eq_zero_iff.1 e
      · cases e
    subst h0
    have hins : insertP [] n = [n] := by unfold insertP insAt; simp
    obtain ⟨v2, W2, hr2, ho2, hb2⟩ := append_ints (((w.alloc (.cells #[] 3)).drew).alloc (.cells #[.int .i64 n] 3)) w.heap.size (.slice (some ⟨w.heap.size, 0, none⟩) 0 0) [] ((owns_empty_ints (W := (w.alloc (.cells #[] 3)).drew) (heap_alloc_new w _) (Nat.le_refl _)).alloc _) (some ⟨w.heap.size + 1, 0, none⟩) 1 [n] (by have := ints_one ((w.alloc (.cells #[] 3)).drew) n; simpa using this) (by simp) (by simp) (by simp; omega) 25
    have hr1 := run_append_nil (w.alloc (.cells #[] 3)) w.heap.size 25 25 3 _ 1 Tryz.underlying25 (info_parts info3).choose_spec.1 (.slice (some ⟨w.heap.size, 0, none⟩) 0 0) _ _ (owns_empty_ints (W := w.alloc (.cells #[] 3)) (heap_alloc_new w _) (Nat.le_refl _)) 0
    have hr3 := run_append_nil W2 w.heap.size 25 25 3 _ 1 Tryz.underlying25 (info_parts info3).choose_spec.1 v2 _ _ ho2 0
    simp only [List.length_cons, List.length_nil] at hr2
    have HR1 := hidE hr1
    have HR2 := hidE hr2
    have HR3 := hidE hr3
    have HO2 := hidE ho2
    have HI := hidE hins
    have HB2 := hidE ((((Below.refl w.heap.size w).alloc (Nat.le_refl _) (.cells #[] 3)).drew.alloc (by simp) (.cells #[.int .i64 n] 3)).trans hb2)
    have HB := hidE hb
    clear hr1 hr2 hr3 ho2 hins hb2 ho hb hl
    go_enter Tryz.func181, Tryz.ntmps181
    go_wp2_with fail
    go_loopw [5] (fun i wr => i = .int .i64 ((0 : Nat) : Int) ∧ wr = w) (fun i _ => (intOf i).toNat)
    case atStart => exact ⟨rfl, rfl⟩
    case round =>
      obtain ⟨rfl, rfl⟩ := hrel
      go_wp2_with (at_builtin; refine wpList_op_append rfl (s := .tmp 34) (x := .tmp 37) (t := 25) rfl rfl rfl HR1.out ?_)
      go_region_held3 (fun _ => True) (trivial) (first | (refine step_op_append rfl (s := .tmp 39) (x := .tmp 41) (t := 25) rfl rfl rfl HR2.out ?_) | (refine step_op_append rfl (s := .tmp 42) (x := .tmp 45) (t := 25) rfl rfl rfl HR3.out ?_))
      go_wp2_with fail
      go_ret
      exact ⟨v2, rfl, by rw [HI.out]; exact ownsRow_base HO2.out HB.out, HB2.out⟩
  · obtain ⟨g, cap, hve, hcap⟩ : ∃ g cap, v = .slice (some ⟨g, 0, none⟩) l.length cap ∧ l.length ≤ cap := by
      rcases ho.2 with ⟨e, _⟩ | ⟨g', cp, cu, e, _, _, hn, _⟩
      · exact absurd e hv
      · exact ⟨g', cp, e, hn⟩
    subst hve
    have HO := hidE ho
    have HB := hidE hb
    clear ho hb hv
    go_enter Tryz.func181, Tryz.ntmps181
    go_wp2_with fail
    go_loopw [5] (fun i wr => ∃ k : Nat, k ≤ l.length ∧ i = .int .i64 k ∧ wr = w ∧ Hid (∀ q (hq : q < l.length), q < k → l[q] < n)) (fun i _ => l.length - (intOf i).toNat)
    case atStart => exact ⟨0, by omega, rfl, rfl, hidE (fun q _ hq => by omega)⟩
    case round =>
      obtain ⟨k, hk, rfl, rfl, HA⟩ := hrel
      have k1 : (0 : Int) ≤ (k : Int) := by omega
      have k2 : (k : Int) ≤ (l.length : Int) := by omega
      have k3 : (k : Int) ≤ (cap : Int) := by omega
      have k4 : k ≤ cap := by omega
      have k5 : (l.length : Int) ≤ (cap : Int) := by omega
      by_cases hlt : k < l.length
      · have hcl : wr.cell? ⟨g, k, none⟩ = some (.int .i64 l[k]) := by
          obtain ⟨C, h1, _, _, _, _, h6⟩ := owns_block HO.out
          rw [cell_of_row _ _ _ _ _ _ h1]
          have h7 : (C.toList.take l.length)[k]? = (intsV l)[k]? := by rw [h6]
          rw [List.getElem?_take_of_lt hlt] at h7
          rw [← Array.getElem?_toList, h7]
          simp [intsV, hlt]
        by_cases hx : l[k] < n
        · have hst : ∀ q (hq : q < l.length), q < k + 1 → l[q] < n := fun q hq hqk => by
            by_cases e : q = k
            · subst e; exact hx
            · exact HA.out q hq (by omega)
          have HST := hidE hst
          obtain ⟨x, hxe⟩ : ∃ x, l[k] = x := ⟨_, rfl⟩
          rw [hxe] at hcl hx
          clear hst hxe
          go_wp2_with fail
          go_roundw
          case rel => exact ⟨k + 1, by omega, by go_num, by trivial, HST⟩
          case measure => simp [intOf]; omega
        · have hat := insAt_of hk HA.out (fun _ => hx)
          by_cases hxe : l[k] = n
          · have hsame := insertP_same hat hlt hxe
            have HS := hidE hsame
            rw [hxe] at hcl
            clear hsame hx hxe hat
            go_wp2_with fail
            go_ret
            exact ⟨_, rfl, by rw [HS.out]; exact HO.out, Below.refl _ _⟩
          · obtain ⟨v1, v2, v3, W1, W2, W3, HR1, HR2, HR3, HO3, HB3⟩ := ins_tail wr base g cap k l n hl hk hcap HO HB (insertP_new hat (fun _ => hxe))
            obtain ⟨x, hxx⟩ : ∃ x, l[k] = x := ⟨_, rfl⟩
            rw [hxx] at hcl hx hxe
            have hne : (x == n) = false := by simpa using hxe
            have hd : decide (x < n) = false := by simpa using hx
            clear hxx hat
            go_wp2_with (at_builtin; refine wpList_op_append rfl (s := .tmp 34) (x := .tmp 37) (t := 25) rfl rfl rfl HR1.out ?_)
            go_region_held3 (fun _ => True) (trivial) (first | (refine step_op_append rfl (s := .tmp 39) (x := .tmp 41) (t := 25) rfl rfl rfl HR2.out ?_) | (refine step_op_append rfl (s := .tmp 42) (x := .tmp 45) (t := 25) rfl rfl rfl HR3.out ?_))
            go_wp2_with fail
            go_ret
            exact ⟨v3, rfl, HO3.out, HB3.out⟩
      · have hat := insAt_of hk HA.out (fun h => absurd h hlt)
        obtain ⟨v1, v2, v3, W1, W2, W3, HR1, HR2, HR3, HO3, HB3⟩ := ins_tail wr base g cap k l n hl hk hcap HO HB (insertP_new hat (fun h => absurd h hlt))
        clear hat
        go_wp2_with (at_builtin; refine wpList_op_append rfl (s := .tmp 34) (x := .tmp 37) (t := 25) rfl rfl rfl HR1.out ?_)
        go_region_held3 (fun _ => True) (trivial) (first | (refine step_op_append rfl (s := .tmp 39) (x := .tmp 41) (t := 25) rfl rfl rfl HR2.out ?_) | (refine step_op_append rfl (s := .tmp 42) (x := .tmp 45) (t := 25) rfl rfl rfl HR3.out ?_))
        go_wp2_with fail
        all_goals (go_ret; exact ⟨v3, rfl, HO3.out, HB3.out⟩)
end Go.Proofs.YthjmkmjojlfejaaGreat

namespace Go.Proofs.YthjmkmjojlfejaaGreat
open Go Go.RowKit Go.Shelf
theorem within5_any (n a b : Int) (w : World) : Calls Tryz.prog 94 #[.int .i64 n, .int .i64 a, .int .i64 b] w fun e w' => e = .returned (.bool (inR n a b)) ∧ w = w' := by
  unfold inR
  go_enter Tryz.func94, Tryz.ntmps94
  go_wp2
  all_goals go_ret
  all_goals refine ⟨?_, rfl⟩
  all_goals simp [*]
  all_goals omega
end Go.Proofs.YthjmkmjojlfejaaGreat

namespace Go.Proofs.YthjmkmjojlfejaaGreat
open Go Go.RowKit Go.Shelf
theorem all_take_succ {p : Int → Bool} {y : List Int} {k : Nat} (hk : k < y.length) : (y.take (k + 1)).all p = ((y.take k).all p && p y[k]) := by
  rw [List.take_succ_eq_append_getElem hk, List.all_append]; simp
theorem all_false {p : Int → Bool} {y : List Int} {k : Nat} (hk : k < y.length) (h : p y[k] = false) : y.all p = false := by
  rw [List.all_eq_false]
  exact ⟨_, List.getElem_mem hk, by simp [h]⟩
set_option maxHeartbeats 2000000 in
theorem refWeighed_any (w : World) (N : Int) (a : Option Addr) (cap : Nat) (y : List Int) (hl : y.length ≤ 9223372036854775807) (h : IntsAt w a y) :
    Calls Tryz.prog 143 #[.int .i64 N, .slice a y.length cap] w fun e w' => e = .returned (.bool (weighedB N y)) ∧ w' = w := by
  have H := hidE h
  have HW : Hid (weighedB N y = (decide ((y.length : Int) = N) && decide (nz y ≤ 60) && y.all fun v => inR v (-1000000) 1000000)) := hidE rfl
  clear h
  by_cases h1 : (y.length : Int) = N
  rotate_left
  · have h1b : ((y.length : Int) != N) = true := by simpa using h1
    have HV : Hid (weighedB N y = false) := hidE (by rw [HW.out]; simp [h1])
    clear h1 HW
    go_enter Tryz.func143, Tryz.ntmps143
    go_wp2_with fail
    go_ret
    exact ⟨by rw [HV.out]; rfl, rfl⟩
  have h1b : ((y.length : Int) != N) = false := by simpa using h1
  have HV : Hid (weighedB N y = (decide (nz y ≤ 60) && y.all fun v => inR v (-1000000) 1000000)) := hidE (by rw [HW.out]; simp [h1])
  clear h1 HW
  go_enter Tryz.func143, Tryz.ntmps143
  go_wp2_with fail
  go_loopw [5, 6] (fun n i wr => ∃ k : Nat, k ≤ y.length ∧ i = .int .i64 k ∧ n = .int .i64 (nz (y.take k) : Nat) ∧ Hid (((y.take k).all fun v => inR v (-1000000) 1000000) = true) ∧ wr = w) (fun _ i _ => y.length - (intOf i).toNat)
  case atStart => exact ⟨0, Nat.zero_le _, rfl, rfl, hidE rfl, rfl⟩
  case round =>
    obtain ⟨k, hk, rfl, rfl, HA, rfl⟩ := hrel
    obtain ⟨w, rfl⟩ : ∃ x : World, x = wr := ⟨wr, rfl⟩
    have hz := nz_le y k
    by_cases hlt : k < y.length
    · obtain ⟨b, off, rfl, hbl, hc⟩ := H.out.at hlt
      have HS := hidE (nz_succ hlt)
      have HT := hidE (all_take_succ (p := fun v => inR v (-1000000) 1000000) hlt)
      have HU := hidE (all_false (p := fun v => inR v (-1000000) 1000000) hlt)
      obtain ⟨v, hv⟩ : ∃ v, y[k] = v := ⟨_, rfl⟩
      rw [hv] at hc HS HT HU
      have HLT := hidE hlt
      clear hv
      go_wp2_with fail
      refine (within5_any v (-1000000) 1000000 _).mono ?_
      rintro e w5 ⟨rfl, hw5⟩
      rw [← hw5]
      clear hw5
      cases hr : inR v (-1000000) 1000000 with
      | false =>
        have HF : Hid (weighedB N y = false) := hidE (by rw [HV.out, HU.out hr]; simp)
        clear hr
        go_wp2_with fail
        go_ret
        exact ⟨by rw [HF.out]; rfl, rfl⟩
      | true =>
        have HA2 : Hid (((y.take (k + 1)).all fun v => inR v (-1000000) 1000000) = true) := hidE (by rw [HT.out, HA.out, hr]; rfl)
        clear hr
        by_cases h2 : v = 0
        · have h2b : (v != 0) = false := by simpa using h2
          rw [h2b] at HS
          clear h2
          go_wp2_with fail
          go_roundw
          case rel => exact ⟨k + 1, HLT.out, by go_num, by rw [HS.out]; rfl, HA2, trivial⟩
          case measure => have := HLT.out; simp [intOf]; omega
        · have h2b : (v != 0) = true := by simpa using h2
          rw [h2b] at HS
          clear h2
          go_wp2_with fail
          go_roundw
          case rel => exact ⟨k + 1, HLT.out, by go_num, by rw [HS.out]; go_num, HA2, trivial⟩
          case measure => have := HLT.out; simp [intOf]; omega
    · obtain rfl : k = y.length := by omega
      have e : y.take y.length = y := List.take_length
      rw [e] at hz HA ⊢
      have HV2 : Hid (weighedB N y = decide (nz y ≤ 60)) := hidE (by rw [HV.out, HA.out]; simp)
      by_cases h3 : nz y ≤ 60
      · have h3b : decide (nz y ≤ 60) = true := by simpa using h3
        have h3c : decide ((nz y : Int) ≤ 60) = true := by simp; omega
        have HV3 : Hid (weighedB N y = true) := hidE (by rw [HV2.out]; exact h3b)
        clear e h3
        go_wp2_with fail
        go_ret
        exact ⟨by rw [HV3.out]; rfl, rfl⟩
      · have h3b : decide (nz y ≤ 60) = false := by simpa using h3
        have h3c : decide ((nz y : Int) ≤ 60) = false := by simp; omega
        have HV3 : Hid (weighedB N y = false) := hidE (by rw [HV2.out]; exact h3b)
        clear e h3
        go_wp2_with fail
        go_ret
        exact ⟨by rw [HV3.out]; rfl, rfl⟩
set_option maxHeartbeats 2000000 in
theorem refform_any (w : World) (a : Option Addr) (cap : Nat) (x : List Int) (a2 : Option Addr) (cap2 : Nat) (y : List Int) (hx : x.length ≤ 128) (hl : x.length ≤ y.length) (h : IntsAt w a x) (h2 : IntsAt w a2 y)
    (bx : ∀ v ∈ x, -1000000 ≤ v ∧ v ≤ 1000000) (by_ : ∀ v ∈ y, -400000000 ≤ v ∧ v ≤ 400000000) :
    Calls Tryz.prog 113 #[.slice a x.length cap, .slice a2 y.length cap2] w fun e w' => e = .returned (.int .i64 (formP x y)) ∧ Below w.heap.size w w' := by
  have hp : ∀ i, i < x.length → -400000000000000 ≤ x.getD i 0 * y.getD i 0 ∧ x.getD i 0 * y.getD i 0 ≤ 400000000000000 := by
    intro i hi
    have h1 := bx (x.getD i 0) (by rw [getD_get x 0 hi]; exact List.getElem_mem hi)
    have h3 := by_ (y.getD i 0) (by rw [getD_get y 0 (show i < y.length by omega)]; exact List.getElem_mem _)
    have := mul_bd (A := 1000000) (B := 400000000) h1.1 h1.2 h3.1 h3.2
    omega
  have hs : ∀ k, k ≤ x.length → -51200000000000000 ≤ sumN (fun i => x.getD i 0 * y.getD i 0) k ∧ sumN (fun i => x.getD i 0 * y.getD i 0) k ≤ 51200000000000000 := by
    intro k hk
    have := sumN_bd (f := fun i => x.getD i 0 * y.getD i 0) (c := 400000000000000) (n := k) fun i hi => hp i (by omega)
    omega
  have HP := hidE hp
  have HS := hidE hs
  have H := hidE h
  have H2 := hidE h2
  clear hp hs h h2 bx by_
  unfold formP
  go_enter Tryz.func113, Tryz.ntmps113
  go_wp2_with fail
  go_loopw [5, 6] (fun n i wr => ∃ k : Nat, k ≤ x.length ∧ i = .int .i64 k ∧ n = .int .i64 (sumN (fun i => x.getD i 0 * y.getD i 0) k) ∧ Hid (OnlyG w.heap.size w wr)) (fun _ i _ => x.length - (intOf i).toNat)
  case atStart => exact ⟨0, Nat.zero_le _, rfl, rfl, hidE (OnlyG.refl _ _)⟩
  case round =>
    obtain ⟨k, hk, rfl, rfl, HD⟩ := hrel
    obtain ⟨wx, rfl⟩ : ∃ W : World, W = wr := ⟨wr, rfl⟩
    by_cases hlt : k < x.length
    · obtain ⟨b, off, rfl, hbl, hc⟩ := H.out.at hlt
      obtain ⟨b2, off2, rfl, hbl2, hc2⟩ := H2.out.at (show k < y.length by omega)
      rw [← getD_get x 0 hlt] at hc
      rw [← getD_get y 0 (show k < y.length by omega)] at hc2
      have c1 : wx.cell? ⟨b, off + k, none⟩ = some (.int .i64 (x.getD k 0)) := (HD.out.cell (p := ⟨b, off + k, none⟩) (Nat.ne_of_lt hbl)).trans hc
      have c2 : wx.cell? ⟨b2, off2 + k, none⟩ = some (.int .i64 (y.getD k 0)) := (HD.out.cell (p := ⟨b2, off2 + k, none⟩) (Nat.ne_of_lt hbl2)).trans hc2
      have s1 := HS.out (k + 1) hlt
      have s0 := HS.out k hk
      have p0 := HP.out k hlt
      have hse : sumN (fun i => x.getD i 0 * y.getD i 0) (k + 1) = sumN (fun i => x.getD i 0 * y.getD i 0) k + x.getD k 0 * y.getD k 0 := rfl
      rw [hse] at s1
      have HSE := hidE hse
      obtain ⟨xv, hxv⟩ : ∃ z, x.getD k 0 = z := ⟨_, rfl⟩
      obtain ⟨yv, hyv⟩ : ∃ z, y.getD k 0 = z := ⟨_, rfl⟩
      rw [hxv] at c1 s1 p0 HSE
      rw [hyv] at c2 s1 p0 HSE
      obtain ⟨sv, hsv⟩ : ∃ z, sumN (fun i => x.getD i 0 * y.getD i 0) k = z := ⟨_, rfl⟩
      rw [hsv] at s0 s1 HSE ⊢
      obtain ⟨m1, hm1⟩ : ∃ z, xv * yv = z := ⟨_, rfl⟩
      rw [hm1] at s1 p0 HSE
      have w1 : IntKind.i64.wrap m1 = m1 := IntWalk.i64_in _ (by omega)
      have w2 : IntKind.i64.wrap (sv + m1) = sv + m1 := IntWalk.i64_in _ (by omega)
      have HLT := hidE hlt
      clear hc hc2 hxv hyv hsv hse
      go_wp2_with fail
      go_upto_region 5 with fail
      go_quiet (fail)
      go_wp2_with fail
      go_roundw
      case rel => exact ⟨k + 1, HLT.out, by go_num, by rw [HSE.out], hidE (HD.out.trans (OnlyG.drewN _ _))⟩
      case measure => have := HLT.out; simp [intOf]; omega
    · obtain rfl : k = x.length := by omega
      go_wp2_with fail
      go_ret
      exact ⟨rfl, HD.out.bl⟩
set_option maxHeartbeats 1000000 in
theorem refvalued_any (w : World) (N : Int) (a : Option Addr) (cap : Nat) (y : List Int) (hN : 1 ≤ N) (hl : y.length ≤ 9223372036854775807) (h : IntsAt w a y) :
    Calls Tryz.prog 81 #[.int .i64 N, .slice a y.length cap] w fun e w' => e = .returned (.bool (valuesB N y)) ∧ Below w.heap.size w w' := by
  have HV := hidE (refvalues_any w N (.slice none 0 0) a cap y hN hl h)
  clear h
  go_enter Tryz.func81, Tryz.ntmps81
  go_wp2_with fail
  refine HV.out.mono ?_
  rintro e w1 ⟨rfl, hb1⟩
  go_wp2_with fail
  go_ret
  exact ⟨rfl, hb1⟩
/-- The reference's asked: without the question of a contradiction. -/
def asked5E (N : Int) (bs : List Bd) (x : List Int) : Int := if checkP N bs ≠ 0 then checkP N bs else if weighedB N x = false then 1 else 0
set_option maxHeartbeats 2000000 in
theorem refasked_any (w : World) (N : Int) (a : Option Addr) (cap : Nat) (bs : List Bd) (a2 : Option Addr) (cap2 : Nat) (x : List Int) (hN : i64ok N) (hl : bs.length ≤ 9223372036854775807) (hl2 : x.length ≤ 9223372036854775807) (h : BoundsAt w a bs) (h2 : IntsAt w a2 x) :
    Calls Tryz.prog 76 #[.agg #[.int .i64 N, .slice a bs.length cap], .slice a2 x.length cap2] w fun e w' => e = .returned (.int .i64 (asked5E N bs x)) ∧ Below w.heap.size w w' := by
  obtain ⟨W0, hW0⟩ : ∃ W0, W0 = w.alloc (.cells #[.int .i64 N, .slice a bs.length cap] 24) := ⟨_, rfl⟩
  have B0 := hidE (show Below w.heap.size w W0 by rw [hW0]; exact (Below.refl _ _).alloc (Nat.le_refl _) _)
  have X0 := hidE (show W0.heap[w.heap.size]? = some (.cells #[.int .i64 N, .slice a bs.length cap] 24 (0,0)) by rw [hW0]; exact heap_alloc_new _ _)
  have e0 : W0.cell? ⟨w.heap.size, 0, none⟩ = some (.int .i64 N) := by rw [cell_of_row _ _ _ _ _ _ X0.out]; rfl
  have e1 : W0.cell? ⟨w.heap.size, 1, none⟩ = some (.slice a bs.length cap) := by rw [cell_of_row _ _ _ _ _ _ X0.out]; rfl
  have HC := hidE (refcheck_any W0 N a cap bs hN hl (h.below B0.out (Nat.le_refl _)))
  have H2 := hidE (h2.below B0.out (Nat.le_refl _))
  obtain ⟨P, hP⟩ : ∃ P, asked5E N bs x = P := ⟨_, rfl⟩
  rw [hP]
  unfold asked5E at hP
  obtain ⟨E, hE⟩ : ∃ E, checkP N bs = E := ⟨_, rfl⟩
  rw [hE] at hP HC
  clear h h2 hN hE
  by_cases hz : E = 0
  · subst hz
    rw [if_neg (fun h => h rfl)] at hP
    go_enter Tryz.func76, Tryz.ntmps76
    go_upto_region 1 with fail
    rw [← hW0]
    clear hW0
    go_wp2_with fail
    refine HC.out.mono ?_
    rintro e w1 ⟨rfl, hb1⟩
    have x1 := blk_below hb1 (lt_of_block X0.out) X0.out
    have f0 : w1.cell? ⟨w.heap.size, 0, none⟩ = some (.int .i64 N) := by rw [cell_of_row _ _ _ _ _ _ x1]; rfl
    have B1 := hidE (B0.out.trans (hb1.mono B0.out.size))
    have HW := hidE (refWeighed_any w1 N a2 cap2 x hl2 (H2.out.below hb1 (Nat.le_refl _)))
    clear hb1 x1 e0 e1 HC
    go_wp2_with fail
    refine HW.out.mono ?_
    rintro e w2 ⟨rfl, rfl⟩
    cases hq : weighedB N x with
    | true =>
      rw [hq, if_neg (by simp)] at hP
      subst hP
      clear hq HW
      go_wp2_with fail
      go_ret
      exact ⟨rfl, B1.out⟩
    | false =>
      rw [hq, if_pos rfl] at hP
      subst hP
      clear hq HW
      go_wp2_with fail
      go_ret
      exact ⟨rfl, B1.out⟩
  · rw [if_pos hz] at hP
    subst hP
    have z3 : (E != 0) = true := by simpa using hz
    clear hz
    go_enter Tryz.func76, Tryz.ntmps76
    go_upto_region 1 with fail
    rw [← hW0]
    clear hW0
    go_wp2_with fail
    refine HC.out.mono ?_
    rintro e w1 ⟨rfl, hb1⟩
    have B1 := hidE (B0.out.trans (hb1.mono B0.out.size))
    clear hb1
    go_wp2_with fail
    go_ret
    exact ⟨rfl, B1.out⟩
end Go.Proofs.YthjmkmjojlfejaaGreat

namespace Go.Proofs.YthjmkmjojlfejaaGreat
theorem rep_getD (n j : Nat) : (List.replicate n (0 : Int)).getD j 0 = 0 := by
  simp only [List.getD_eq_getElem?_getD, List.getElem?_replicate]; split <;> rfl
/-- What best ends with. -/
structure BestOk (N : Nat) (bs : List Bd) (w y flow : List Int) : Prop where
  yl : y.length = N
  y0 : y.getD 0 0 = 0
  yb : ∀ v, -256000000 ≤ y.getD v 0 ∧ y.getD v 0 ≤ 256000000
  kept : ∀ b ∈ bs, getI y b.dst - getI y b.src ≤ b.most
  fl : flow.length = bs.length
  fb : ∀ j, 0 ≤ flow.getD j 0 ∧ flow.getD j 0 ≤ 256000000
  net : ∀ v : Nat, 1 ≤ v → v < N → netOf bs flow v = w.getD v 0
  cost : costOf bs flow = sumN (fun v => w.getD v 0 * y.getD v 0) N
end Go.Proofs.YthjmkmjojlfejaaGreat

namespace Go.Proofs.YthjmkmjojlfejaaGreat
theorem flowing_pos {m : Nat} {fl : List Int} (h : flowingB m fl = true) : fl.length = m ∧ ∀ j : Nat, 0 ≤ fl.getD j 0 ∧ fl.getD j 0 ≤ 1000000000 := by
  unfold flowingB at h
  simp only [Bool.and_eq_true, decide_eq_true_eq, List.all_eq_true] at h
  refine ⟨h.1, fun j => ?_⟩
  by_cases hj : j < fl.length
  · have := h.2 _ (List.getElem_mem hj)
    rw [List.getD_eq_getElem?_getD, List.getElem?_eq_getElem hj]
    unfold inR at this
    simpa using this
  · rw [List.getD_eq_getElem?_getD, List.getElem?_eq_none (by omega)]; simp
theorem carries_cost {n : Nat} {bs : List Bd} {w fl : List Int} (h : (carriesP n bs w fl).2 = true) : (carriesP n bs w fl).1 = costOf bs fl := by
  unfold carriesP at h ⊢
  split
  · rfl
  · rename_i e; rw [if_neg e] at h; cases h
theorem weighed_len {n : Nat} {w : List Int} (h : weighedB n w = true) : w.length = n := by
  unfold weighedB at h
  simp only [Bool.and_eq_true, decide_eq_true_eq] at h
  omega
theorem BestOk.keeps {N : Nat} {bs : List Bd} {w y fl : List Int} (h : BestOk N bs w y fl) : Keeps N bs y := ⟨h.yl, h.y0, fun v hv => by
  obtain ⟨j, e⟩ := mem_getD hv
  have := h.yb j
  omega, fun b hb => by have := h.kept b hb; omega⟩
end Go.Proofs.YthjmkmjojlfejaaGreat

namespace Go.Proofs.YthjmkmjojlfejaaGreat
open Go Go.RowKit Go.Shelf
set_option maxHeartbeats 2000000 in
theorem refIsFlow_any (w : World) (N : Int) (a : Option Addr) (len cap : Nat) (a2 : Option Addr) (cap2 : Nat) (y : List Int) (hl : y.length ≤ 9223372036854775807) (h : IntsAt w a2 y) :
    Calls Tryz.prog 126 #[.agg #[.int .i64 N, .slice a len cap], .slice a2 y.length cap2] w fun e w' => e = .returned (.bool (flowingB len y)) ∧ Below w.heap.size w w' := by
  obtain ⟨W0, hW0⟩ : ∃ W0, W0 = w.alloc (.cells #[.int .i64 N, .slice a len cap] 24) := ⟨_, rfl⟩
  have B0 := hidE (show Below w.heap.size w W0 by rw [hW0]; exact (Below.refl _ _).alloc (Nat.le_refl _) _)
  have X0 := hidE (show W0.heap[w.heap.size]? = some (.cells #[.int .i64 N, .slice a len cap] 24 (0,0)) by rw [hW0]; exact heap_alloc_new _ _)
  have e1 : W0.cell? ⟨w.heap.size, 1, none⟩ = some (.slice a len cap) := by rw [cell_of_row _ _ _ _ _ _ X0.out]; rfl
  have H := hidE (h.below B0.out (Nat.le_refl _))
  have HW : Hid (flowingB len y = (decide (y.length = len) && y.all fun v => inR v 0 1000000000)) := hidE rfl
  clear h
  by_cases h1 : y.length = len
  rotate_left
  · have h1b : ((y.length : Int) != (len : Int)) = true := by simp; omega
    have HV : Hid (flowingB len y = false) := hidE (by rw [HW.out]; simp [h1])
    clear h1 HW
    go_enter Tryz.func126, Tryz.ntmps126
    go_upto_region 1 with fail
    rw [← hW0]
    clear hW0
    go_wp2_with fail
    go_ret
    exact ⟨by rw [HV.out]; rfl, B0.out⟩
  have h1b : ((y.length : Int) != (len : Int)) = false := by simp; omega
  have HV : Hid (flowingB len y = y.all fun v => inR v 0 1000000000) := hidE (by rw [HW.out]; simp [h1])
  clear h1 HW
  go_enter Tryz.func126, Tryz.ntmps126
  go_upto_region 1 with fail
  rw [← hW0]
  clear hW0
  go_wp2_with fail
  go_loopw [5] (fun i wr => ∃ k : Nat, k ≤ y.length ∧ i = .int .i64 k ∧ Hid (((y.take k).all fun v => inR v 0 1000000000) = true) ∧ wr = W0) (fun i _ => y.length - (intOf i).toNat)
  case atStart => exact ⟨0, Nat.zero_le _, rfl, hidE rfl, rfl⟩
  case round =>
    obtain ⟨k, hk, rfl, HA, rfl⟩ := hrel
    obtain ⟨W0, rfl⟩ : ∃ x : World, x = wr := ⟨wr, rfl⟩
    by_cases hlt : k < y.length
    · obtain ⟨b, off, rfl, hbl, hc⟩ := H.out.at hlt
      have HT := hidE (all_take_succ (p := fun v => inR v 0 1000000000) hlt)
      have HU := hidE (all_false (p := fun v => inR v 0 1000000000) hlt)
      obtain ⟨v, hv⟩ : ∃ v, y[k] = v := ⟨_, rfl⟩
      rw [hv] at hc HT HU
      have HLT := hidE hlt
      clear hv
      go_wp2_with fail
      refine (within5_any v 0 1000000000 _).mono ?_
      rintro e w5 ⟨rfl, hw5⟩
      rw [← hw5]
      clear hw5
      cases hr : inR v 0 1000000000 with
      | false =>
        have HF : Hid (flowingB len y = false) := hidE (by rw [HV.out, HU.out hr])
        clear hr
        go_wp2_with fail
        go_ret
        exact ⟨by rw [HF.out]; rfl, B0.out⟩
      | true =>
        have HA2 : Hid (((y.take (k + 1)).all fun v => inR v 0 1000000000) = true) := hidE (by rw [HT.out, HA.out, hr]; rfl)
        clear hr
        go_wp2_with fail
        go_roundw
        case rel => exact ⟨k + 1, HLT.out, by go_num, HA2, trivial⟩
        case measure => have := HLT.out; simp [intOf]; omega
    · obtain rfl : k = y.length := by omega
      rw [List.take_length] at HA
      have HF : Hid (flowingB len y = true) := hidE (by rw [HV.out]; exact HA.out)
      go_wp2_with fail
      go_ret
      exact ⟨by rw [HF.out]; rfl, B0.out⟩
set_option maxHeartbeats 4000000 in
theorem refcost_any (w : World) (N : Int) (a : Option Addr) (cap : Nat) (bs : List Bd) (a2 : Option Addr) (cap2 : Nat) (flow : List Int) (hl : bs.length ≤ 4000) (hf : flow.length = bs.length) (h : BoundsAt w a bs) (h2 : IntsAt w a2 flow)
    (hm : ∀ b ∈ bs, -1000000 ≤ b.most ∧ b.most ≤ 1000000) (hfl : ∀ i, 0 ≤ flow.getD i 0 ∧ flow.getD i 0 ≤ 1000000000) :
    Calls Tryz.prog 128 #[.agg #[.int .i64 N, .slice a bs.length cap], .slice a2 flow.length cap2] w fun e w' => e = .returned (.int .i64 (costOf bs flow)) ∧ Below w.heap.size w w' := by
  have HCB0 := hidE (fun (k : Nat) (hk : k ≤ bs.length) => costTo_bd hfl hm hk hl)
  obtain ⟨n, hn⟩ : ∃ n, bs.length = n := ⟨_, rfl⟩
  rw [hn] at hl HCB0
  rw [hf, hn]
  obtain ⟨W0, hW0⟩ : ∃ W0, W0 = w.alloc (.cells #[.int .i64 N, .slice a n cap] 24) := ⟨_, rfl⟩
  have B0 := hidE (show Below w.heap.size w W0 by rw [hW0]; exact (Below.refl _ _).alloc (Nat.le_refl _) _)
  have X0 := hidE (show W0.heap[w.heap.size]? = some (.cells #[.int .i64 N, .slice a n cap] 24 (0,0)) by rw [hW0]; exact heap_alloc_new _ _)
  have HCB := HCB0
  have H := hidE (h.below B0.out (Nat.le_refl _))
  have H2 := hidE (h2.below B0.out (Nat.le_refl _))
  have HM := hidE hm
  have HFL := hidE hfl
  have HN := hidE hn
  have HF := hidE (hf.trans hn)
  rw [costOf_eq]
  clear h h2 hm hfl hf hn
  go_enter Tryz.func128, Tryz.ntmps128
  go_upto_region 1 with fail
  rw [← hW0]
  clear hW0
  go_wp2_with fail
  go_loopw [5, 6] (fun c i wr => ∃ k : Nat, k ≤ n ∧ i = .int .i64 k ∧ c = .int .i64 (costTo bs flow k) ∧ Hid (OnlyG W0.heap.size W0 wr)) (fun _ i _ => n - (intOf i).toNat)
  case atStart => exact ⟨0, Nat.zero_le _, rfl, rfl, hidE (OnlyG.refl _ _)⟩
  case round =>
    obtain ⟨k, hk, rfl, rfl, HD⟩ := hrel
    obtain ⟨wx, rfl⟩ : ∃ W : World, W = wr := ⟨wr, rfl⟩
    by_cases hlt : k < n
    · have hkb : k < bs.length := by rw [HN.out]; exact hlt
      have hkf : k < flow.length := by rw [HF.out]; exact hlt
      obtain ⟨b, off, rfl, hbl, hcs⟩ := H.out.at hkb
      obtain ⟨b2, off2, rfl, hbl2, hc2⟩ := H2.out.at hkf
      obtain ⟨d0, d1, d2, d3⟩ := hcs
      rw [← getD_get flow 0 hkf] at hc2
      have xl := lt_of_block X0.out
      have e1 : wx.cell? ⟨w.heap.size, 1, none⟩ = some (.slice (some ⟨b, off, none⟩) n cap) := (HD.out.cell (p := ⟨w.heap.size, 1, none⟩) (Nat.ne_of_lt xl)).trans (by rw [cell_of_row _ _ _ _ _ _ X0.out]; rfl)
      have c1 : wx.cell? ⟨b, off + k * 4 + 2, none⟩ = some (.int .i64 bs[k].most) := (HD.out.cell (p := ⟨b, off + k * 4 + 2, none⟩) (Nat.ne_of_lt hbl)).trans d2
      have c2 : wx.cell? ⟨b2, off2 + k, none⟩ = some (.int .i64 (flow.getD k 0)) := (HD.out.cell (p := ⟨b2, off2 + k, none⟩) (Nat.ne_of_lt hbl2)).trans hc2
      have s0 := HCB.out k hk
      have s1 := HCB.out (k + 1) hlt
      have hse : costTo bs flow (k + 1) = costTo bs flow k + flow.getD k 0 * (bnd bs k).most := rfl
      rw [bnd_get hkb] at hse
      have p1 := HM.out _ (List.getElem_mem hkb)
      have p2 := HFL.out k
      rw [hse] at s1
      have HSE := hidE hse
      obtain ⟨fv, hfv⟩ : ∃ z, flow.getD k 0 = z := ⟨_, rfl⟩
      obtain ⟨mv, hmv⟩ : ∃ z, bs[k].most = z := ⟨_, rfl⟩
      obtain ⟨sv, hsv⟩ : ∃ z, costTo bs flow k = z := ⟨_, rfl⟩
      rw [hfv] at c2 s1 p2 HSE
      rw [hmv] at c1 s1 p1 HSE
      rw [hsv] at s0 s1 HSE ⊢
      have pm := mul_bd (A := 1000000000) (B := 1000000) (a := fv) (b := mv) (by omega) p2.2 p1.1 p1.2
      obtain ⟨m1, hm1⟩ : ∃ z, fv * mv = z := ⟨_, rfl⟩
      rw [hm1] at s1 pm HSE
      have w1 : IntKind.i64.wrap m1 = m1 := IntWalk.i64_in _ (by omega)
      have w2 : IntKind.i64.wrap (sv + m1) = sv + m1 := IntWalk.i64_in _ (by omega)
      have HLT := hidE hlt
      clear d0 d1 d2 d3 hc2 hfv hmv hsv hse xl pm
      go_wp2_with fail
      go_upto_region 5 with fail
      go_quiet (fail)
      go_wp2_with fail
      go_roundw
      case rel => exact ⟨k + 1, HLT.out, by go_num, by rw [HSE.out], hidE (HD.out.trans (OnlyG.drewN _ _))⟩
      case measure => have := HLT.out; simp [intOf]; omega
    · obtain rfl : k = n := by omega
      go_wp2_with fail
      go_ret
      exact ⟨by first | (rw [HN.out]; done) | (rw [HN.out]; rfl), B0.out.trans (HD.out.bl.mono B0.out.size)⟩
/-- The sums underway, of the reference. -/
def NetR (N : Nat) (bs : List Bd) (flow : List Int) (k : Nat) (s : List Int) : Prop := s.length = N ∧ (∀ v : Nat, v < N → s.getD v 0 = netTo bs flow v k) ∧ ∀ v : Nat, -(k * 1000000000 : Int) ≤ s.getD v 0 ∧ s.getD v 0 ≤ k * 1000000000
theorem NetR.start (N : Nat) (bs : List Bd) (flow : List Int) : NetR N bs flow 0 (List.replicate N 0) := by
  have e : ∀ v : Nat, (List.replicate N (0 : Int)).getD v 0 = 0 := fun v => rep_getD N v
  exact ⟨List.length_replicate .., fun v _ => by rw [e]; rfl, fun v => by rw [e]; simp⟩
theorem NetR.step {N : Nat} {bs : List Bd} {flow : List Int} {k : Nat} {s : List Int} (h : NetR N bs flow k s) {si di : Nat} {f : Int} (hk : k < bs.length) (hs : (bs[k]).src = si) (hd : (bs[k]).dst = di) (hne : si ≠ di) (hsN : si < N) (hdN : di < N)
    (hf : flow.getD k 0 = f) (f0 : 0 ≤ f) (f1 : f ≤ 1000000000) : NetR N bs flow (k + 1) ((s.set di (s.getD di 0 + f)).set si (s.getD si 0 - f)) := by
  obtain ⟨h1, h2, h3⟩ := h
  have hg : ∀ v : Nat, ((s.set di (s.getD di 0 + f)).set si (s.getD si 0 - f)).getD v 0 = if v = si then s.getD si 0 - f else if v = di then s.getD di 0 + f else s.getD v 0 := by
    intro v
    rw [getD_set_at, getD_set_at, List.length_set]
    by_cases e1 : v = si
    · rw [if_pos e1, if_pos ⟨e1.symm, by omega⟩]
    · rw [if_neg e1, if_neg (fun h => e1 h.1.symm)]
      by_cases e2 : v = di
      · rw [if_pos e2, if_pos ⟨e2.symm, by omega⟩]
      · rw [if_neg e2, if_neg (fun h => e2 h.1.symm)]
  refine ⟨by simp [h1], fun v hv => ?_, fun v => ?_⟩
  · rw [hg]
    unfold netTo
    rw [sumN_succ]
    have e := h2 v hv
    unfold netTo at e
    rw [bnd_get hk, hs, hd, hf, ← e]
    by_cases e1 : v = si
    · subst e1
      rw [if_pos rfl, if_neg (by omega), if_pos rfl]; omega
    · rw [if_neg e1]
      by_cases e2 : v = di
      · subst e2
        rw [if_pos rfl, if_pos rfl, if_neg (by omega)]; omega
      · rw [if_neg e2, if_neg (by omega), if_neg (by omega)]; omega
  · rw [hg]
    have a1 := h3 si
    have a2 := h3 di
    have a3 := h3 v
    rw [Int.natCast_add, Int.add_mul]
    simp only [Int.natCast_one, Int.one_mul]
    split
    · omega
    · split <;> omega
set_option maxRecDepth 100000 in
set_option maxHeartbeats 4000000 in
theorem refcarries_any (w : World) (N : Nat) (a : Option Addr) (cap : Nat) (bs : List Bd) (a2 : Option Addr) (cap2 : Nat) (x : List Int) (a3 : Option Addr) (cap3 : Nat) (flow : List Int) (hN1 : N ≤ 128) (hl : bs.length ≤ 4000) (hx : x.length = N) (hf : flow.length = bs.length)
    (h : BoundsAt w a bs) (h2 : IntsAt w a2 x) (h3 : IntsAt w a3 flow) (hv : ∀ b ∈ bs, b.valid N ∧ b.src ≠ b.dst) (hfl : ∀ i, 0 ≤ flow.getD i 0 ∧ flow.getD i 0 ≤ 1000000000) :
    Calls Tryz.prog 127 #[.agg #[.int .i64 (N : Int), .slice a bs.length cap], .slice a2 x.length cap2, .slice a3 flow.length cap3] w fun e w' => e = .returned (.bool (carriesP N bs x flow).2) ∧ Below w.heap.size w w' := by
  have HP2 : Hid ((carriesP N bs x flow).2 = carriedTo bs flow x N) := hidE (by unfold carriesP; cases carriedTo bs flow x N <;> rfl)
  have H := hidE h
  have H2 := hidE h2
  have H3 := hidE h3
  have HV := hidE hv
  have HFL := hidE hfl
  have HX := hidE hx
  obtain ⟨n, hn⟩ : ∃ n, bs.length = n := ⟨_, rfl⟩
  have HN0 := hidE hn
  have HFE := hidE (hf.trans hn)
  rw [hn] at hl
  rw [hf, hn, hx]
  obtain ⟨W0, hW0⟩ : ∃ W0, W0 = w.alloc (.cells #[.int .i64 (N : Int), .slice a n cap] 24) := ⟨_, rfl⟩
  obtain ⟨W1, hW1⟩ : ∃ W1, W1 = W0.alloc (.cells (madeCells #[.int .i64 0] N) 3) := ⟨_, rfl⟩
  have h0s : W0.heap.size = w.heap.size + 1 := by rw [hW0]; simp
  have X0 := hidE (show W0.heap[w.heap.size]? = some (.cells #[.int .i64 (N : Int), .slice a n cap] 24 (0,0)) by rw [hW0]; exact heap_alloc_new _ _)
  have e0 : W0.cell? ⟨w.heap.size, 0, none⟩ = some (.int .i64 (N : Int)) := by rw [cell_of_row _ _ _ _ _ _ X0.out]; rfl
  have B1 := hidE (show Below w.heap.size w W1 by rw [hW1, hW0]; exact ((Below.refl _ _).alloc (Nat.le_refl _) _).alloc (by simp) _)
  have X1 := hidE (show W1.heap[w.heap.size]? = some (.cells #[.int .i64 (N : Int), .slice a n cap] 24 (0,0)) by rw [hW1]; exact (heap_alloc_old _ _ (by rw [h0s]; omega)).trans X0.out)
  have R1 := hidE (show W1.heap[w.heap.size + 1]? = some (.cells (rowA (List.replicate N 0)) 3 (0,0)) by rw [hW1, ← h0s, heap_alloc_new, madeInts])
  have hmk3 := fun W => run_make_row' (P := Tryz.prog) 25 3 (.int .i64 0) 8 Tryz.underlying25 Tryz.info3' rfl .i64 .i64 N (by omega) (by omega) W
  have H0S := hidE h0s
  clear h h2 h3 hv hfl hx hf hn h0s
  go_enter Tryz.func127, Tryz.ntmps127
  go_upto_region 1 with fail
  rw [← hW0]
  clear hW0
  go_upto_region 2 with fail
  rw [← hW1, H0S.out]
  clear hW1 hmk3 e0
  go_wp2_with fail
  go_loopw [8] (fun i wr => ∃ (k : Nat) (s : List Int), k ≤ n ∧ i = .int .i64 k ∧ Hid (NetR N bs flow k s) ∧
      Hid (wr.heap[w.heap.size]? = some (.cells #[.int .i64 (N : Int), .slice a n cap] 24 (0,0))) ∧ Hid (wr.heap[w.heap.size + 1]? = some (.cells (rowA s) 3 (0,0))) ∧ Hid (Below w.heap.size w wr))
      (fun i _ => n - (intOf i).toNat)
  case atStart => exact ⟨0, List.replicate N 0, Nat.zero_le _, rfl, hidE (NetR.start N bs flow), X1, R1, B1⟩
  case round =>
    obtain ⟨k, s, hk, rfl, HN, H1, HA, HB⟩ := hrel
    obtain ⟨wx, rfl⟩ : ∃ W : World, W = wr := ⟨wr, rfl⟩
    by_cases hlt : k < n
    · have hkb : k < bs.length := by rw [HN0.out]; exact hlt
      have hkf : k < flow.length := by rw [HFE.out]; exact hlt
      obtain ⟨b, off, rfl, hbl, hcs⟩ := H.out.at hkb
      obtain ⟨d0, d1, d2, d3⟩ := hcs.below HB.out hbl
      have hval := HV.out bs[k] (List.getElem_mem hkb)
      obtain ⟨bf, off3, rfl, hbf, hfc⟩ := H3.out.at hkf
      rw [← HB.out.cell hbf, ← getD_get flow 0 hkf] at hfc
      have hflk := HFL.out k
      obtain ⟨f, hfe⟩ : ∃ f, flow.getD k 0 = f := ⟨_, rfl⟩
      obtain ⟨y, hy⟩ : ∃ y, bs[k] = y := ⟨_, rfl⟩
      rw [hy] at d0 d1 d2 d3 hval
      rw [hfe] at hfc hflk
      obtain ⟨xs, xd, xm, xr⟩ := y
      obtain ⟨⟨v1, v2, v3, v4, v5, v6⟩, vne⟩ := hval
      simp only at d0 d1 d2 d3 v1 v2 v3 v4 v5 v6 vne
      obtain ⟨si, rfl⟩ := Int.eq_ofNat_of_zero_le v1
      obtain ⟨di, rfl⟩ := Int.eq_ofNat_of_zero_le v3
      have hne : si ≠ di := by omega
      have HSTEP := hidE (HN.out.step hkb (by rw [hy]) (by rw [hy]) hne (by omega) (by omega) hfe hflk.1 hflk.2)
      have HNE := hidE hne
      have HSL := hidE HN.out.1
      have hsz : w.heap.size + 1 < wx.heap.size := lt_of_block HA.out
      have b3s := HN.out.2.2 si
      have b3d := HN.out.2.2 di
      have s1 : (si : Int) < (N : Int) := by omega
      have s2 : (di : Int) < (N : Int) := by omega
      obtain ⟨vs, hvs⟩ : ∃ v, s.getD si 0 = v := ⟨_, rfl⟩
      obtain ⟨vd, hvd⟩ : ∃ v, s.getD di 0 = v := ⟨_, rfl⟩
      rw [hvs] at b3s HSTEP
      rw [hvd] at b3d HSTEP
      have HVS := hidE hvs
      have HVD := hidE hvd
      have HWD := hidE (show IntKind.i64.wrap (vd + f) = vd + f from IntWalk.i64_in _ (by omega))
      have HWS := hidE (show IntKind.i64.wrap (vs - f) = vs - f from IntWalk.i64_in _ (by omega))
      have HLT := hidE hlt
      have lbb : b < wx.heap.size := Nat.lt_of_lt_of_le hbl HB.out.size
      have lbf : bf < wx.heap.size := Nat.lt_of_lt_of_le hbf HB.out.size
      have e1 : wx.cell? ⟨w.heap.size, 1, none⟩ = some (.slice (some ⟨b, off, none⟩) n cap) := by rw [cell_of_row _ _ _ _ _ _ H1.out]; rfl
      have zd : wx.cell? ⟨w.heap.size + 1, di, none⟩ = some (.int .i64 vd) := by rw [cell_of_row _ _ _ _ _ _ HA.out, rowA_get (by rw [HSL.out]; omega), HVD.out]
      have zf : wx.frozen? ⟨w.heap.size + 1, di, none⟩ = false := frozen_of_row _ _ _ _ _ HA.out
      have hww := HWD.out
      clear hfe hy hcs hvs hvd vne hne d2 d3
      have D0 := hidE d0
      go_wp2_with fail
      go_upto_region 5 with fail
      go_still_tail 21, (by kernel_rfl)
      go_upto_region 6 with fail
      clear hww
      obtain ⟨Y, hY⟩ : ∃ Y, Y = (wx.setCell ⟨w.heap.size + 1, di, none⟩ (.int .i64 (vd + f))).drew := ⟨_, rfl⟩
      rw [← hY]
      have ya : Y.heap[w.heap.size + 1]? = some (.cells (rowA (s.set di (vd + f))) 3 (0,0)) := by rw [hY]; exact (heap_setCell_same _ _ _ _ _ _ HA.out).trans (by rw [rowA_set])
      have y1 : Y.heap[w.heap.size]? = some (.cells #[.int .i64 (N : Int), .slice (some ⟨b, off, none⟩) n cap] 24 (0,0)) := by rw [hY]; exact (heap_setCell_other _ _ _ _ (by simp)).trans H1.out
      have yB : Below w.heap.size w Y := by rw [hY]; exact (HB.out.setCell (by simp) _).drew
      have yf : Y.cell? ⟨bf, off3 + k, none⟩ = some (.int .i64 f) := by rw [hY]; exact (World.cell?_setCell_other _ _ _ _ (by intro e; have := congrArg Addr.block e; simp at this; omega)).trans hfc
      have y0 : Y.cell? ⟨b, off + k * 4, none⟩ = some (.int .i64 (si : Int)) := by rw [hY]; exact (World.cell?_setCell_other _ _ _ _ (by intro e; have := congrArg Addr.block e; simp at this; omega)).trans D0.out
      have e2 : Y.cell? ⟨w.heap.size, 1, none⟩ = some (.slice (some ⟨b, off, none⟩) n cap) := by rw [cell_of_row _ _ _ _ _ _ y1]; rfl
      have zs : Y.cell? ⟨w.heap.size + 1, si, none⟩ = some (.int .i64 vs) := by rw [cell_of_row _ _ _ _ _ _ ya, rowA_get (by rw [List.length_set, HSL.out]; omega), getD_set_at, if_neg (fun h => HNE.out h.1.symm), HVS.out]
      have zf' : Y.frozen? ⟨w.heap.size + 1, si, none⟩ = false := frozen_of_row _ _ _ _ _ ya
      have YA := hidE ya
      have Y1 := hidE y1
      have YB := hidE yB
      have hww := HWS.out
      clear hY ya y1 yB d0 d1 zd zf e1 hfc D0
      go_still_tail 21, (by kernel_rfl)
      go_upto_region 4 with fail
      clear hww
      obtain ⟨Z, hZ⟩ : ∃ Z, Z = (Y.setCell ⟨w.heap.size + 1, si, none⟩ (.int .i64 (vs - f))).drew := ⟨_, rfl⟩
      rw [← hZ]
      have ZA := hidE (show Z.heap[w.heap.size + 1]? = some (.cells (rowA ((s.set di (vd + f)).set si (vs - f))) 3 (0,0)) by rw [hZ]; exact (heap_setCell_same _ _ _ _ _ _ YA.out).trans (by rw [rowA_set]))
      have Z1 := hidE (show Z.heap[w.heap.size]? = some (.cells #[.int .i64 (N : Int), .slice (some ⟨b, off, none⟩) n cap] 24 (0,0)) by rw [hZ]; exact (heap_setCell_other _ _ _ _ (by simp)).trans Y1.out)
      have ZB := hidE (show Below w.heap.size w Z by rw [hZ]; exact (YB.out.setCell (by simp) _).drew)
      clear hZ yf y0 e2 zs zf'
      go_wp2_with fail
      go_roundw
      case rel => exact ⟨k + 1, _, HLT.out, by go_num, HSTEP, Z1, ZA, ZB⟩
      case measure => have := HLT.out; simp [intOf]; omega
    · obtain rfl : k = n := by omega
      have HNN := hidE (fun (v : Nat) (hv : v < N) => show s.getD v 0 = netOf bs flow v from by rw [HN.out.2.1 v hv, netOf_eq, HN0.out])
      have HSL := hidE HN.out.1
      go_wp2_with fail
      go_loopw [9] (fun i wr => ∃ (v : Nat), 1 ≤ v ∧ (v ≤ N ∨ v = 1) ∧ i = .int .i64 v ∧ Hid (carriedTo bs flow x v = true) ∧ Hid (OnlyG wx.heap.size wx wr)) (fun i _ => N - (intOf i).toNat)
      case atStart => exact ⟨1, Nat.le_refl _, .inr rfl, rfl, hidE (by simp [carriedTo, List.range_succ]), hidE (OnlyG.refl _ _)⟩
      case round =>
        obtain ⟨v, hv1, hv2, rfl, HCA, HD⟩ := hrel
        obtain ⟨A, rfl⟩ : ∃ W : World, W = wr := ⟨wr, rfl⟩
        have xl := lt_of_block H1.out
        have c1 : A.cell? ⟨w.heap.size, 0, none⟩ = some (.int .i64 (N : Int)) := (HD.out.cell (p := ⟨w.heap.size, 0, none⟩) (Nat.ne_of_lt xl)).trans (by rw [cell_of_row _ _ _ _ _ _ H1.out]; rfl)
        have hvv : v ≤ 128 := by omega
        have wv : IntKind.i64.wrap ((v : Int) + 1) = (v : Int) + 1 := IntWalk.i64_in _ (by omega)
        by_cases hvl : v < N
        · have hvx : v < x.length := by rw [HX.out]; exact hvl
          obtain ⟨bw, offw, rfl, hbw, hwc⟩ := H2.out.at hvx
          rw [← HB.out.cell hbw, ← getD_get x 0 hvx] at hwc
          have xl2 := lt_of_block HA.out
          have lbw : bw < wx.heap.size := Nat.lt_of_lt_of_le hbw HB.out.size
          have cw : A.cell? ⟨bw, offw + v, none⟩ = some (.int .i64 (x.getD v 0)) := (HD.out.cell (p := ⟨bw, offw + v, none⟩) (Nat.ne_of_lt lbw)).trans hwc
          have cv : A.cell? ⟨w.heap.size + 1, v, none⟩ = some (.int .i64 (netOf bs flow v)) := (HD.out.cell (p := ⟨w.heap.size + 1, v, none⟩) (Nat.ne_of_lt xl2)).trans (by rw [cell_of_row _ _ _ _ _ _ HA.out, rowA_get (by rw [HSL.out]; omega), HNN.out v hvl])
          have HSUC := hidE (carriedTo_succ bs flow x v)
          have hvdec : decide ((v : Int) < (N : Int)) = true := by simp; omega
          obtain ⟨p, hp⟩ : ∃ p, netOf bs flow v = p := ⟨_, rfl⟩
          obtain ⟨q, hq⟩ : ∃ q, x.getD v 0 = q := ⟨_, rfl⟩
          rw [hp] at cv HSUC
          rw [hq] at cw HSUC
          have HVL := hidE hvl
          clear hp hq hwc xl
          by_cases hpq : p = q
          · have d0 : (p != q) = false := by simpa using hpq
            have HC2 : Hid (carriedTo bs flow x (v + 1) = true) := hidE (by rw [HSUC.out, HCA.out]; simp [hpq])
            clear hpq
            go_wp2_with fail
            go_upto_region 10 with fail
            go_quiet (fail)
            go_wp2_with fail
            go_roundw
            case rel => exact ⟨v + 1, by omega, .inl HVL.out, by go_num, HC2, hidE (HD.out.trans (OnlyG.drewN _ _))⟩
            case measure => have := HVL.out; simp [intOf]; omega
          · have d0 : (p != q) = true := by simpa using hpq
            have HC2 : Hid (carriedTo bs flow x N = false) := hidE (by
              cases hc : carriedTo bs flow x N with
              | false => rfl
              | true =>
                have := carriedTo_mono (k := v + 1) HVL.out hc
                rw [HSUC.out, HCA.out] at this
                simp [hpq] at this
                omega)
            clear hpq
            go_wp2_with fail
            go_upto_region 10 with fail
            go_quiet (fail)
            go_wp2_with fail
            go_ret
            exact ⟨by rw [HP2.out, HC2.out]; rfl, (HB.out.trans (HD.out.bl.mono HB.out.size)).trans (below_drewN' _ _)⟩
        · have hvdec : decide ((v : Int) < (N : Int)) = false := by simp; omega
          have HC2 : Hid (carriedTo bs flow x N = true) := hidE (carriedTo_mono (by omega) HCA.out)
          go_wp2_with fail
          go_ret
          exact ⟨by rw [HP2.out, HC2.out]; rfl, HB.out.trans (HD.out.bl.mono HB.out.size)⟩
end Go.Proofs.YthjmkmjojlfejaaGreat

namespace Go.Proofs.YthjmkmjojlfejaaGreat
open Go Go.RowKit Go.Shelf
/-- What stands at the head of the two functions Join: the two systems, and the result. -/
structure JSt (w W : World) (N M : Int) (a a2 : Option Addr) (cap cap2 : Nat) (bs cs : List Bd) : Prop where
  x0 : W.heap[w.heap.size]? = some (.cells #[.int .i64 N, .slice a bs.length cap] 24 (0,0))
  x1 : W.heap[w.heap.size + 1]? = some (.cells #[.int .i64 M, .slice a2 cs.length cap2] 24 (0,0))
  x2 : W.heap[w.heap.size + 1 + 1]? = some (.cells #[.int .i64 0, .slice none 0 0] 24 (0,0))
  bl : Below w.heap.size w W
theorem JSt.next {w W W' : World} {N M : Int} {a a2 : Option Addr} {cap cap2 : Nat} {bs cs : List Bd} (h : JSt w W N M a a2 cap cap2 bs cs) (hb : Below W.heap.size W W') : JSt w W' N M a a2 cap cap2 bs cs :=
  ⟨blk_below hb (lt_of_block h.x0) h.x0, blk_below hb (lt_of_block h.x1) h.x1, blk_below hb (lt_of_block h.x2) h.x2, h.bl.trans (hb.mono h.bl.size)⟩
theorem JSt.cells {w W : World} {N M : Int} {a a2 : Option Addr} {cap cap2 : Nat} {bs cs : List Bd} (h : JSt w W N M a a2 cap cap2 bs cs) :
    W.cell? ⟨w.heap.size, 0, none⟩ = some (.int .i64 N) ∧ W.cell? ⟨w.heap.size, 1, none⟩ = some (.slice a bs.length cap) ∧ W.cell? ⟨w.heap.size + 1, 0, none⟩ = some (.int .i64 M) ∧ W.cell? ⟨w.heap.size + 1, 1, none⟩ = some (.slice a2 cs.length cap2) ∧
    W.cell? ⟨w.heap.size + 1 + 1, 0, none⟩ = some (.int .i64 0) ∧ W.cell? ⟨w.heap.size + 1 + 1, 1, none⟩ = some (.slice none 0 0) ∧ (∀ i, W.frozen? ⟨w.heap.size + 1 + 1, i, none⟩ = false) ∧ w.heap.size + 1 + 1 < W.heap.size :=
  ⟨by rw [cell_of_row _ _ _ _ _ _ h.x0]; rfl, by rw [cell_of_row _ _ _ _ _ _ h.x0]; rfl, by rw [cell_of_row _ _ _ _ _ _ h.x1]; rfl, by rw [cell_of_row _ _ _ _ _ _ h.x1]; rfl, by rw [cell_of_row _ _ _ _ _ _ h.x2]; rfl, by rw [cell_of_row _ _ _ _ _ _ h.x2]; rfl, fun i => frozen_of_row _ _ _ _ _ h.x2, lt_of_block h.x2⟩
/-- The end where nothing is handed back but an error. -/
theorem JSt.zero {w W : World} {N M : Int} {a a2 : Option Addr} {cap cap2 : Nat} {bs cs : List Bd} (h : JSt w W N M a a2 cap cap2 bs cs) : Below w.heap.size w ((W.setCell ⟨w.heap.size + 1 + 1, 0, none⟩ (.int .i64 0)).setCell ⟨w.heap.size + 1 + 1, 1, none⟩ (.slice none 0 0)) :=
  (h.bl.setCell (by simp; omega) _).setCell (by simp; omega) _
/-- The end where a system is handed back. -/
theorem JSt.done {w W W2 : World} {N M : Int} {a a2 : Option Addr} {cap cap2 : Nat} {bs cs : List Bd} (h : JSt w W N M a a2 cap cap2 bs cs) {n : Nat} {l : List Bd} {u v : Value} (ho : W2.ownsRow W.heap.size 81 4 v n (flat l)) (hn : n = l.length) :
    BoundsOut l w.heap.size v ((W2.setCell ⟨w.heap.size + 1 + 1, 0, none⟩ u).setCell ⟨w.heap.size + 1 + 1, 1, none⟩ v) := by
  subst hn
  have hl := lt_of_block h.x2
  exact ownsRow_base (ownsRow_setCell_below (ownsRow_setCell_below ho hl _) hl _) h.bl.size
theorem JSt.after {w W : World} {N M : Int} {a a2 : Option Addr} {cap cap2 : Nat} {bs cs : List Bd} (h : JSt w W N M a a2 cap cap2 bs cs) (u v : Value) : Below w.heap.size w ((W.setCell ⟨w.heap.size + 1 + 1, 0, none⟩ u).setCell ⟨w.heap.size + 1 + 1, 1, none⟩ v) :=
  (h.bl.setCell (by simp; omega) _).setCell (by simp; omega) _
end Go.Proofs.YthjmkmjojlfejaaGreat

namespace Go.Proofs.YthjmkmjojlfejaaGreat
open Go Go.RowKit Go.Shelf
theorem ownsRow_kept0 {W W' : World} {base : Nat} {e : TypeId} {size : Nat} {v : Value} {n : Nat} {xs : List Value} (h : W.ownsRow base e size v n xs) (hb : Below W.heap.size W W') : W'.ownsRow base e size v n xs :=
  ownsRow_of_block h (fun q hq => hb.block q (owns_lt' h hq))
def recordsE (N : Int) (bs : List Bd) (l : List Int) : List Int × Int := if checkP N bs ≠ 0 then ([], checkP N bs) else if indexP bs.length l = true then (recordsP (l.map (bAt bs)), 0) else ([], 1)
theorem bAt_at {bs : List Bd} {q : Nat} (h : q < bs.length) : bAt bs (q : Int) = bs[q] := by
  unfold bAt; rw [Int.toNat_natCast, List.getD_eq_getElem?_getD, List.getElem?_eq_getElem h]; rfl
theorem map_take_succY {α β : Type} (f : α → β) {l : List α} {k : Nat} (hk : k < l.length) : (l.take (k + 1)).map f = (l.take k).map f ++ [f l[k]] := by
  rw [List.take_succ_eq_append_getElem hk, List.map_append]; rfl
theorem index_bad {n : Nat} {l : List Int} {k : Nat} (hk : k < l.length) (h : l[k] < 0 ∨ (n : Int) ≤ l[k]) : indexP n l = false := by
  cases hq : indexP n l with
  | false => rfl
  | true => have := indexP_iff.1 hq l[k] (List.getElem_mem hk); omega
set_option maxRecDepth 100000 in
set_option maxHeartbeats 2000000 in
theorem refrecordsS_any (w : World) (N : Int) (a : Option Addr) (cap : Nat) (bs : List Bd) (a2 : Option Addr) (cap2 : Nat) (l : List Int) (hN : i64ok N) (hl : bs.length ≤ 9223372036854775807) (h : BoundsAt w a bs) (hl2 : l.length ≤ 4000) (h2 : IntsAt w a2 l) :
    Calls Tryz.prog 131 #[.agg #[.int .i64 N, .slice a bs.length cap], .slice a2 l.length cap2] w fun e w' => PathPost (recordsE N bs l).1 (recordsE N bs l).2 w.heap.size e w' ∧ Below w.heap.size w w' := by
  have b0 : Below w.heap.size w (w.alloc (.cells #[.int .i64 N, .slice a bs.length cap] 24)) := (Below.refl _ _).alloc (Nat.le_refl _) _
  have hck := refcheck_any (w.alloc (.cells #[.int .i64 N, .slice a bs.length cap] 24)) N a cap bs hN hl (h.below b0 (Nat.le_refl _))
  have B0 := hidE b0
  have H := hidE h
  have H2 := hidE h2
  clear b0 h h2
  by_cases hc : checkP N bs = 0
  · obtain ⟨n0, n1, n2, _⟩ := checkP_zero hc
    rw [hc] at hck
    have hE : recordsE N bs l = if indexP bs.length l = true then ((l.map (bAt bs)).foldl (blStep (fun _ => true)) [], 0) else ([], 1) := by
      have hf : (l.map (bAt bs)).foldl (blStep (fun _ => true)) [] = recordsP (l.map (bAt bs)) := by rw [blame_fold]; exact List.filter_eq_self.2 (fun _ _ => rfl)
      unfold recordsE; rw [if_neg (by simp [hc]), hf]
    have HCK := hidE hck
    have HE := hidE hE
    clear hck hc hN hE
    go_enter Tryz.func131, Tryz.ntmps131
    go_wp2_with fail
    refine HCK.out.mono ?_
    rintro e w1 ⟨rfl, hb1⟩
    have x1 := blk_below hb1 (by simp) (heap_alloc_new w (.cells #[.int .i64 N, .slice a bs.length cap] 24))
    have X1 := hidE x1
    have B1 := hidE (B0.out.trans (hb1.mono B0.out.size))
    clear x1 hb1
    go_wp2_with fail
    go_loopw [7, 8] (fun v i wr => ∃ k : Nat, k ≤ l.length ∧ i = .int .i64 k ∧ Hid (∀ q (hq : q < l.length), q < k → 0 ≤ l[q] ∧ l[q] < bs.length) ∧ Hid (wr.heap[w.heap.size]? = some (.cells #[.int .i64 N, .slice a bs.length cap] 24 (0,0))) ∧ Hid (wr.ownsRow w.heap.size 3 1 v (((l.take k).map (bAt bs)).foldl (blStep (fun _ => true)) []).length (intsV (((l.take k).map (bAt bs)).foldl (blStep (fun _ => true)) []))) ∧ Hid (Below w.heap.size w wr)) (fun _ i _ => l.length - (intOf i).toNat)
    case atStart => exact ⟨0, by omega, rfl, hidE (fun q _ hq => by omega), X1, hidE (World.ownsRow_nil _ _ _ _), B1⟩
    case round =>
      obtain ⟨k, hk, rfl, hin, hx, hown, hb⟩ := hrel
      have l0 : w.heap.size < wr.heap.size := lt_of_block hx.out
      by_cases hlt : k < l.length
      · have e1 : wr.cell? ⟨w.heap.size, 1, none⟩ = some (.slice a bs.length cap) := by rw [cell_of_row _ _ _ _ _ _ hx.out]; rfl
        obtain ⟨b2, off2, rfl, hbl2, c9⟩ := (H2.out.below hb.out (Nat.le_refl _)).at hlt
        have kI : (k : Int) < (l.length : Int) := by omega
        by_cases hneg : l[k] < 0
        · have hbad := index_bad (n := bs.length) hlt (.inl hneg)
          obtain ⟨x, hxx⟩ : ∃ x, l[k] = x := ⟨_, rfl⟩
          rw [hxx] at hneg c9
          have hd : decide (x < 0) = true := by simpa using hneg
          have HBAD := hidE hbad
          clear hbad hxx
          go_wp2_with fail
          go_quiet (fail)
          go_wp2_with fail
          refine bodyPost_ret (v := .tuple #[.slice none 0 0, .int .i64 1]) (by simp [results, Tryz.results131, go_sem]) rfl ⟨?_, hb.out.trans (below_drewN' _ _)⟩
          rw [show recordsE N bs l = ([], 1) by rw [HE.out, HBAD.out]; simp]
          exact ⟨_, rfl, World.ownsRow_nil _ _ _ _⟩
        · obtain ⟨q, hqe⟩ : ∃ q : Nat, l[k] = (q : Int) := ⟨l[k].toNat, by omega⟩
          by_cases hge : bs.length ≤ q
          · have hbad := index_bad (n := bs.length) hlt (.inr (by omega))
            rw [hqe] at c9
            have hd : decide ((q : Int) < 0) = false := by simp
            have hd2 : decide ((q : Int) ≥ (bs.length : Int)) = true := by simp; omega
            have HBAD := hidE hbad
            clear hbad hqe hneg
            go_wp2_with fail
            go_quiet (fail)
            go_wp2_with fail
            refine bodyPost_ret (v := .tuple #[.slice none 0 0, .int .i64 1]) (by simp [results, Tryz.results131, go_sem]) rfl ⟨?_, hb.out.trans (below_drewN' _ _)⟩
            rw [show recordsE N bs l = ([], 1) by rw [HE.out, HBAD.out]; simp]
            exact ⟨_, rfl, World.ownsRow_nil _ _ _ _⟩
          · have hql : q < bs.length := by omega
            have qI : (q : Int) < (bs.length : Int) := by omega
            have hd : decide ((q : Int) < 0) = false := by simp
            have hd2 : decide ((q : Int) ≥ (bs.length : Int)) = false := by simp; omega
            have hin2 : ∀ p (hp : p < l.length), p < k + 1 → 0 ≤ l[p] ∧ l[p] < bs.length := fun p hp hpk => by
              by_cases e : p = k
              · subst e; rw [hqe]; omega
              · exact hin.out p hp (by omega)
            have htk := map_take_succY (bAt bs) hlt
            rw [hqe, bAt_at hql] at htk
            rw [hqe] at c9
            obtain ⟨b, off, rfl, hbl, hcs⟩ := (H.out.below hb.out (Nat.le_refl _)).at hql
            obtain ⟨c0, c1, c2, c3⟩ := hcs
            have hfl := blFold_len (fun _ => true) ((l.take k).map (bAt bs)) []
            obtain ⟨out, hout⟩ : ∃ o, ((l.take k).map (bAt bs)).foldl (blStep (fun _ => true)) [] = o := ⟨_, rfl⟩
            have hst : ((l.take (k + 1)).map (bAt bs)).foldl (blStep (fun _ => true)) [] = blStep (fun _ => true) out bs[q] := by rw [htk, List.foldl_append, hout]; rfl
            rw [hout] at hown hfl
            have hol : out.length ≤ 5000 := by simp at hfl; omega
            obtain ⟨x, hxx⟩ : ∃ x, bs[q] = x := ⟨_, rfl⟩
            rw [hxx] at c0 c1 c2 c3 hst
            obtain ⟨xs, xd, xm, xr⟩ := x
            simp only at c0 c1 c2 c3
            have HIN2 := hidE hin2
            have HST := hidE hst
            clear hin2 hst hin htk hout hfl hxx hqe hneg hge c0 c1 c2
            go_wp2_with fail
            go_quiet (fail)
            go_wp2_with fail
            obtain ⟨Y, hY⟩ : ∃ Y : World, Y = World.drewN wr nq := ⟨_, rfl⟩
            rw [← hY]
            have hbY : Below wr.heap.size wr Y := by rw [hY]; exact below_drewN' _ _
            have xY := blk_below hbY l0 hx.out
            have BY := hidE (hb.out.trans (hbY.mono hb.out.size))
            have OY := hidE (ownsRow_kept0 hown.out hbY)
            have g1 : Y.cell? ⟨w.heap.size, 1, none⟩ = some (.slice (some ⟨b, off, none⟩) bs.length cap) := by rw [cell_of_row _ _ _ _ _ _ xY]; rfl
            have g9 : Y.cell? ⟨b2, off2 + k, none⟩ = some (.int .i64 (q : Int)) := (hbY.cell (by exact hbl2)).trans c9
            have g3 : Y.cell? ⟨b, off + q * 4 + 3, none⟩ = some (.int .i64 xr) := (hbY.cell (by exact hbl)).trans c3
            have XY := hidE xY
            clear hY hbY xY c9 c3 e1 hx hown hb hbl hbl2 hd hd2
            have lY : w.heap.size < Y.heap.size := lt_of_block XY.out
            by_cases hp : 0 < xr
            · have hdp : decide (xr > 0) = true := by simpa using hp
              have hins := fun W (hW : Below Y.heap.size Y W) => insert_any W w.heap.size u7 out xr (by omega) (ownsRow_kept0 OY.out hW) (Nat.le_trans BY.out.size hW.size)
              have HINS := hidE hins
              clear hins
              go_quiet (fail)
              go_wp2_with fail
              refine (HINS.out _ (below_drewN' _ _)).mono ?_
              rintro e w5 ⟨v5, rfl, ho5, hb5⟩
              have hY5 : Below Y.heap.size Y w5 := (below_drewN' (B := Y.heap.size) Y _).trans hb5
              have X5 := hidE (blk_below hY5 lY XY.out)
              have B5 := hidE (BY.out.trans (hY5.mono BY.out.size))
              have O5 := hidE ho5
              clear hY5 hb5 ho5 g1 g9 g3
              go_wp2_with fail
              go_roundw
              case rel => exact ⟨k + 1, by omega, by go_num, HIN2, X5, hidE (by rw [HST.out]; unfold blStep; rw [if_pos ⟨hp, rfl⟩]; exact O5.out), B5⟩
              case measure => simp [intOf]; omega
            · have hdp : decide (xr > 0) = false := by simpa using hp
              go_quiet (fail)
              go_wp2_with fail
              go_roundw
              case rel => exact ⟨k + 1, by omega, by go_num, HIN2, hidE (blk_below (below_drewN' (B := Y.heap.size) Y _) lY XY.out), hidE (by rw [HST.out]; unfold blStep; rw [if_neg (by simp; omega)]; exact ownsRow_kept0 OY.out (below_drewN' _ _)), hidE (BY.out.trans (below_drewN' _ _))⟩
              case measure => simp [intOf]; omega
      · have hall : l.take k = l := List.take_of_length_le (by omega)
        rw [hall] at hown
        have hok : indexP bs.length l = true := indexP_iff.2 (fun i hi => by
          obtain ⟨q, hq, rfl⟩ := List.getElem_of_mem hi
          exact hin.out q hq (by omega))
        obtain ⟨o3, c3, rfl, _⟩ := intsAt_of_owns hown.out
        have HOK := hidE hok
        clear hok hall hx hin
        go_wp2_with fail
        refine bodyPost_ret (v := .tuple #[.slice o3 ((l.map (bAt bs)).foldl (blStep (fun _ => true)) []).length c3, .int .i64 0]) (by simp [results, Tryz.results131, go_sem]) rfl ⟨?_, hb.out⟩
        rw [show recordsE N bs l = ((l.map (bAt bs)).foldl (blStep (fun _ => true)) [], 0) by rw [HE.out, HOK.out]; simp]
        exact ⟨_, rfl, hown.out⟩
  · have hE : recordsE N bs l = ([], checkP N bs) := by unfold recordsE; rw [if_pos hc]
    obtain ⟨cc, hcc⟩ : ∃ c, checkP N bs = c := ⟨_, rfl⟩
    rw [hcc] at hE hc hck
    have hcb : (cc != 0) = true := by simpa using hc
    have HCK := hidE hck
    have HE := hidE hE
    clear hck hE hc hcc hN
    go_enter Tryz.func131, Tryz.ntmps131
    go_wp2_with fail
    refine HCK.out.mono ?_
    rintro e w1 ⟨rfl, hb1⟩
    go_wp2_with fail
    refine bodyPost_ret (v := .tuple #[.slice none 0 0, .int .i64 cc]) (by simp [results, Tryz.results131, go_sem]) rfl ⟨?_, B0.out.trans (hb1.mono B0.out.size)⟩
    rw [HE.out]
    exact ⟨_, rfl, World.ownsRow_nil _ _ _ _⟩
end Go.Proofs.YthjmkmjojlfejaaGreat

namespace Go.Proofs.YthjmkmjojlfejaaGreat
open Go Go.RowKit Go.Shelf
theorem asked5_ok {N : Int} {bs : List Bd} {x : List Int} (h : asked5E N bs x = 0) : checkP N bs = 0 ∧ weighedB N x = true ∧ ∃ R : Nat, N = R ∧ 1 ≤ R ∧ R ≤ 128 ∧ bs.length ≤ 2000 ∧ (∀ b ∈ bs, b.valid R ∧ b.src ≠ b.dst) ∧ x.length = R ∧ ∀ v ∈ x, -1000000 ≤ v ∧ v ≤ 1000000 := by
  unfold asked5E at h
  split at h
  · rename_i h1; exact absurd h h1
  · rename_i h1
    have hz := Classical.not_not.1 h1
    split at h
    · cases h
    · rename_i h2
      have hw : weighedB N x = true := by simpa using h2
      obtain ⟨R, rfl, a1, a2, a3, a4⟩ := allOk_of hz
      refine ⟨hz, hw, R, rfl, a1, a2, a3, a4, weighed_len hw, fun v hv => ?_⟩
      unfold weighedB at hw
      simp only [Bool.and_eq_true, decide_eq_true_eq] at hw
      have := List.all_eq_true.1 hw.2 v hv
      unfold inR at this
      simpa using this
theorem asked5_err {N : Int} {bs : List Bd} {x y flow : List Int} {most : Int} (h : asked5E N bs x ≠ 0) : formE N bs x y = (0, asked5E N bs x) ∧ bestE N bs x y flow = (false, asked5E N bs x) ∧ flowE N bs x flow most = (false, asked5E N bs x) := by
  unfold asked5E at h ⊢
  unfold formE bestE flowE
  by_cases hc : checkP N bs = 0
  · rw [if_neg (fun q => q hc)] at h
    have hw : weighedB N x = false := by
      cases e : weighedB N x with
      | true => rw [e, if_neg (by simp)] at h; exact absurd rfl h
      | false => rfl
    simp only [hc, hw, ne_eq, not_true_eq_false, if_false, true_or, if_true, and_self]
  · simp only [hc, ne_eq, not_false_eq_true, if_true, and_self]
end Go.Proofs.YthjmkmjojlfejaaGreat

namespace Go.Proofs.YthjmkmjojlfejaaGreat
open Go Go.RowKit Go.Shelf
/-- The reference's best: what is asked behind the errors. -/
def best5B (N : Nat) (bs : List Bd) (x y flow : List Int) : Bool := (keptE N bs y).2.1 && flowingB bs.length flow && (carriesP N bs x flow).2 && (costOf bs flow == formP x y)
set_option maxRecDepth 100000 in
set_option maxHeartbeats 8000000 in
theorem refbest_any (w : World) (N : Nat) (a : Option Addr) (cap : Nat) (bs : List Bd) (a2 : Option Addr) (cap2 : Nat) (x : List Int) (a3 : Option Addr) (cap3 : Nat) (y : List Int) (a4 : Option Addr) (cap4 : Nat) (flow : List Int) (hN1 : N ≤ 128) (hl : bs.length ≤ 2000) (h : BoundsAt w a bs) (hx : x.length = N) (h2 : IntsAt w a2 x) (hl3 : y.length ≤ 9223372036854775807) (h3 : IntsAt w a3 y) (hl4 : flow.length ≤ 9223372036854775807) (h4 : IntsAt w a4 flow)
    (hv : ∀ b ∈ bs, b.valid N ∧ b.src ≠ b.dst) (hxb : ∀ v ∈ x, -1000000 ≤ v ∧ v ≤ 1000000) :
    Calls Tryz.prog 82 #[.agg #[.int .i64 (N : Int), .slice a bs.length cap], .slice a2 x.length cap2, .slice a3 y.length cap3, .slice a4 flow.length cap4] w fun e w' => e = .returned (.bool (best5B N bs x y flow)) ∧ Below w.heap.size w w' := by
  obtain ⟨W0, hW0⟩ : ∃ W0, W0 = w.alloc (.cells #[.int .i64 (N : Int), .slice a bs.length cap] 24) := ⟨_, rfl⟩
  have B0 := hidE (show Below w.heap.size w W0 by rw [hW0]; exact (Below.refl _ _).alloc (Nat.le_refl _) _)
  have X0 := hidE (show W0.heap[w.heap.size]? = some (.cells #[.int .i64 (N : Int), .slice a bs.length cap] 24 (0,0)) by rw [hW0]; exact heap_alloc_new _ _)
  have e0 : W0.cell? ⟨w.heap.size, 0, none⟩ = some (.int .i64 (N : Int)) := by rw [cell_of_row _ _ _ _ _ _ X0.out]; rfl
  have e1 : W0.cell? ⟨w.heap.size, 1, none⟩ = some (.slice a bs.length cap) := by rw [cell_of_row _ _ _ _ _ _ X0.out]; rfl
  have H := hidE (h.below B0.out (Nat.le_refl _))
  have H2 := hidE (h2.below B0.out (Nat.le_refl _))
  have H3 := hidE (h3.below B0.out (Nat.le_refl _))
  have H4 := hidE (h4.below B0.out (Nat.le_refl _))
  have HV := hidE hv
  have HXB := hidE hxb
  have HXL := hidE hx
  have HK := hidE (refkept_any W0 (N : Int) a cap bs a3 cap3 y (by unfold i64ok; omega) (by omega) hl3 H.out H3.out)
  have HB5 : Hid (best5B N bs x y flow = ((keptE N bs y).2.1 && flowingB bs.length flow && (carriesP N bs x flow).2 && (costOf bs flow == formP x y))) := hidE rfl
  obtain ⟨P, hP⟩ : ∃ P, best5B N bs x y flow = P := ⟨_, rfl⟩
  rw [hP] at HB5 ⊢
  obtain ⟨k1, hk1⟩ : ∃ z, (keptE N bs y).1 = z := ⟨_, rfl⟩
  obtain ⟨k3, hk3⟩ : ∃ z, (keptE N bs y).2.2 = z := ⟨_, rfl⟩
  rw [hk1, hk3] at HK
  clear h h2 h3 h4 hv hxb hP hk1 hk3 hx
  go_enter Tryz.func82, Tryz.ntmps82
  go_upto_region 1 with fail
  rw [← hW0]
  clear hW0
  go_wp2_with fail
  refine HK.out.mono ?_
  rintro e w1 ⟨rfl, hb1⟩
  have X1 := hidE (blk_below hb1 (lt_of_block X0.out) X0.out)
  have f0 : w1.cell? ⟨w.heap.size, 0, none⟩ = some (.int .i64 (N : Int)) := by rw [cell_of_row _ _ _ _ _ _ X1.out]; rfl
  have f1 : w1.cell? ⟨w.heap.size, 1, none⟩ = some (.slice a bs.length cap) := by rw [cell_of_row _ _ _ _ _ _ X1.out]; rfl
  have B1 := hidE (B0.out.trans (hb1.mono B0.out.size))
  have I1 := hidE (H.out.below hb1 (Nat.le_refl _))
  have I2 := hidE (H2.out.below hb1 (Nat.le_refl _))
  have I3 := hidE (H3.out.below hb1 (Nat.le_refl _))
  have I4 := hidE (H4.out.below hb1 (Nat.le_refl _))
  clear hb1 e0 e1 HK H H2 H3 H4
  cases hk : (keptE N bs y).2.1 with
  | false =>
    obtain rfl : P = false := by rw [HB5.out, hk]; simp
    clear hk
    go_wp2_with fail
    go_ret
    exact ⟨rfl, B1.out⟩
  | true =>
    have hc : checkP N bs = 0 := (keptE_bad hk).2
    have hK := (keptE_iff hc).1 hk
    have HKV := hidE hK
    have HKK := hidE hk
    clear hK hk hc
    have HIF := hidE (refIsFlow_any w1 (N : Int) a bs.length cap a4 cap4 flow hl4 I4.out)
    go_wp2_with fail
    refine HIF.out.mono ?_
    rintro e w2 ⟨rfl, hb2⟩
    have X2 := hidE (blk_below hb2 (lt_of_block X1.out) X1.out)
    have g0 : w2.cell? ⟨w.heap.size, 0, none⟩ = some (.int .i64 (N : Int)) := by rw [cell_of_row _ _ _ _ _ _ X2.out]; rfl
    have g1 : w2.cell? ⟨w.heap.size, 1, none⟩ = some (.slice a bs.length cap) := by rw [cell_of_row _ _ _ _ _ _ X2.out]; rfl
    have B2 := hidE (B1.out.trans (hb2.mono B1.out.size))
    have J1 := hidE (I1.out.below hb2 (Nat.le_refl _))
    have J2 := hidE (I2.out.below hb2 (Nat.le_refl _))
    have J3 := hidE (I3.out.below hb2 (Nat.le_refl _))
    have J4 := hidE (I4.out.below hb2 (Nat.le_refl _))
    clear hb2 f0 f1 HIF I1 I2 I3 I4
    cases hq : flowingB bs.length flow with
    | false =>
      obtain rfl : P = false := by rw [HB5.out, HKK.out, hq]; simp
      clear hq
      go_wp2_with fail
      go_ret
      exact ⟨rfl, B2.out⟩
    | true =>
      obtain ⟨fl1, fl2⟩ := flowing_pos hq
      have HCA := hidE (refcarries_any w2 N a cap bs a2 cap2 x a4 cap4 flow hN1 (by omega) HXL.out fl1 J1.out J2.out J4.out HV.out fl2)
      have HF2 := hidE fl2
      have HF1 := hidE fl1
      have HQQ := hidE hq
      clear hq fl2 fl1
      go_wp2_with fail
      refine HCA.out.mono ?_
      rintro e w3 ⟨rfl, hb3⟩
      have X3 := hidE (blk_below hb3 (lt_of_block X2.out) X2.out)
      have p0 : w3.cell? ⟨w.heap.size, 0, none⟩ = some (.int .i64 (N : Int)) := by rw [cell_of_row _ _ _ _ _ _ X3.out]; rfl
      have p1 : w3.cell? ⟨w.heap.size, 1, none⟩ = some (.slice a bs.length cap) := by rw [cell_of_row _ _ _ _ _ _ X3.out]; rfl
      have B3 := hidE (B2.out.trans (hb3.mono B2.out.size))
      have K1 := hidE (J1.out.below hb3 (Nat.le_refl _))
      have K2 := hidE (J2.out.below hb3 (Nat.le_refl _))
      have K3 := hidE (J3.out.below hb3 (Nat.le_refl _))
      have K4 := hidE (J4.out.below hb3 (Nat.le_refl _))
      clear hb3 g0 g1 HCA J1 J2 J3 J4
      cases hca : (carriesP N bs x flow).2 with
      | false =>
        obtain rfl : P = false := by rw [HB5.out, HKK.out, HQQ.out, hca]; simp
        clear hca
        go_wp2_with fail
        go_ret
        exact ⟨rfl, B3.out⟩
      | true =>
        have HCO := hidE (refcost_any w3 (N : Int) a cap bs a4 cap4 flow (by omega) HF1.out K1.out K4.out (fun b hb => ⟨(HV.out b hb).1.2.2.2.2.1, (HV.out b hb).1.2.2.2.2.2⟩) HF2.out)
        have HPE : Hid (P = (costOf bs flow == formP x y)) := hidE (by rw [HB5.out, HKK.out, HQQ.out, hca]; simp)
        clear hca
        go_wp2_with fail
        refine HCO.out.mono ?_
        rintro e w4 ⟨rfl, hb4⟩
        have B4 := hidE (B3.out.trans (hb4.mono B3.out.size))
        have HFO := hidE (refform_any w4 a2 cap2 x a3 cap3 y (by rw [HXL.out]; exact hN1) (by rw [HXL.out, HKV.out.len]; exact Nat.le_refl _) (K2.out.below hb4 (Nat.le_refl _)) (K3.out.below hb4 (Nat.le_refl _)) HXB.out HKV.out.bd)
        clear hb4 HCO
        go_wp2_with fail
        refine HFO.out.mono ?_
        rintro e w5 ⟨rfl, hb5⟩
        have B5 := hidE (B4.out.trans (hb5.mono B4.out.size))
        clear hb5 HFO
        go_wp2_with fail
        go_ret
        exact ⟨by rw [HPE.out]; rfl, B5.out⟩
theorem best5_eq {N : Nat} {bs : List Bd} {x y flow : List Int} (hc : checkP N bs = 0) (hw : weighedB N x = true) (hv : valuesB N y = true) : bestE N bs x y flow = (best5B N bs x y flow, 0) := by
  unfold bestE best5B
  rw [if_neg (fun q => q hc), if_neg (by rw [hw, hv]; simp), Int.toNat_natCast]
  cases hk : (keptE N bs y).2.1 with
  | false => rw [if_pos (.inl rfl)]; simp
  | true =>
    cases hq : flowingB bs.length flow with
    | false => rw [if_pos (.inr rfl)]; simp
    | true =>
      rw [if_neg (by simp)]
      cases hca : (carriesP N bs x flow).2 with
      | false => simp
      | true => rw [carries_cost hca]; simp
set_option maxRecDepth 100000 in
set_option maxHeartbeats 8000000 in
theorem refCheckBest_any (w : World) (N : Int) (a : Option Addr) (cap : Nat) (bs : List Bd) (a2 : Option Addr) (cap2 : Nat) (x : List Int) (a3 : Option Addr) (cap3 : Nat) (y : List Int) (a4 : Option Addr) (cap4 : Nat) (flow : List Int) (hN : i64ok N) (hl : bs.length ≤ 9223372036854775807) (h : BoundsAt w a bs) (hl2 : x.length ≤ 9223372036854775807) (h2 : IntsAt w a2 x) (hl3 : y.length ≤ 9223372036854775807) (h3 : IntsAt w a3 y) (hl4 : flow.length ≤ 9223372036854775807) (h4 : IntsAt w a4 flow) :
    Calls Tryz.prog 27 #[.agg #[.int .i64 N, .slice a bs.length cap], .slice a2 x.length cap2, .slice a3 y.length cap3, .slice a4 flow.length cap4] w fun e w' => e = .returned (.tuple #[.bool (bestE N bs x y flow).1, .int .i64 (bestE N bs x y flow).2]) ∧ Below w.heap.size w w' := by
  obtain ⟨W0, hW0⟩ : ∃ W0, W0 = w.alloc (.cells #[.int .i64 N, .slice a bs.length cap] 24) := ⟨_, rfl⟩
  have B0 := hidE (show Below w.heap.size w W0 by rw [hW0]; exact (Below.refl _ _).alloc (Nat.le_refl _) _)
  have X0 := hidE (show W0.heap[w.heap.size]? = some (.cells #[.int .i64 N, .slice a bs.length cap] 24 (0,0)) by rw [hW0]; exact heap_alloc_new _ _)
  have e0 : W0.cell? ⟨w.heap.size, 0, none⟩ = some (.int .i64 N) := by rw [cell_of_row _ _ _ _ _ _ X0.out]; rfl
  have e1 : W0.cell? ⟨w.heap.size, 1, none⟩ = some (.slice a bs.length cap) := by rw [cell_of_row _ _ _ _ _ _ X0.out]; rfl
  have HA := hidE (refasked_any W0 N a cap bs a2 cap2 x hN hl hl2 (h.below B0.out (Nat.le_refl _)) (h2.below B0.out (Nat.le_refl _)))
  have H := hidE (h.below B0.out (Nat.le_refl _))
  have H2 := hidE (h2.below B0.out (Nat.le_refl _))
  have H3 := hidE (h3.below B0.out (Nat.le_refl _))
  have H4 := hidE (h4.below B0.out (Nat.le_refl _))
  obtain ⟨P, hP⟩ : ∃ P, bestE N bs x y flow = P := ⟨_, rfl⟩
  rw [hP]
  obtain ⟨E, hE⟩ : ∃ E, asked5E N bs x = E := ⟨_, rfl⟩
  rw [hE] at HA
  clear h h2 h3 h4 hN
  by_cases hz : E = 0
  · subst hz
    obtain ⟨hc, hw, R, rfl, r1, r2, r3, r4, r5, r6⟩ := asked5_ok hE
    have HR4 := hidE r4
    have HR6 := hidE r6
    have HR5 := hidE r5
    have HCC := hidE hc
    have HWW := hidE hw
    have HP := hidE hP
    clear hE r4 r6 r5 hc hw hP
    go_enter Tryz.func27, Tryz.ntmps27
    go_upto_region 1 with fail
    rw [← hW0]
    clear hW0
    go_wp2_with fail
    refine HA.out.mono ?_
    rintro e w1 ⟨rfl, hb1⟩
    have X1 := hidE (blk_below hb1 (lt_of_block X0.out) X0.out)
    have f0 : w1.cell? ⟨w.heap.size, 0, none⟩ = some (.int .i64 (R : Int)) := by rw [cell_of_row _ _ _ _ _ _ X1.out]; rfl
    have B1 := hidE (B0.out.trans (hb1.mono B0.out.size))
    have I1 := hidE (H.out.below hb1 (Nat.le_refl _))
    have I2 := hidE (H2.out.below hb1 (Nat.le_refl _))
    have I3 := hidE (H3.out.below hb1 (Nat.le_refl _))
    have I4 := hidE (H4.out.below hb1 (Nat.le_refl _))
    have HV := hidE (refvalued_any w1 (R : Int) a3 cap3 y (by omega) hl3 I3.out)
    clear hb1 e0 e1 HA H H2 H3 H4
    go_wp2_with fail
    refine HV.out.mono ?_
    rintro e w2 ⟨rfl, hb2⟩
    have B2 := hidE (B1.out.trans (hb2.mono B1.out.size))
    have X2 := hidE (blk_below hb2 (lt_of_block X1.out) X1.out)
    have g0 : w2.cell? ⟨w.heap.size, 0, none⟩ = some (.int .i64 (R : Int)) := by rw [cell_of_row _ _ _ _ _ _ X2.out]; rfl
    have g1 : w2.cell? ⟨w.heap.size, 1, none⟩ = some (.slice a bs.length cap) := by rw [cell_of_row _ _ _ _ _ _ X2.out]; rfl
    have HBB := hidE (refbest_any w2 R a cap bs a2 cap2 x a3 cap3 y a4 cap4 flow r2 r3 (I1.out.below hb2 (Nat.le_refl _)) HR5.out (I2.out.below hb2 (Nat.le_refl _)) hl3 (I3.out.below hb2 (Nat.le_refl _)) hl4 (I4.out.below hb2 (Nat.le_refl _)) HR4.out HR6.out)
    clear hb2 HV f0 I1 I2 I3 I4
    cases hq : valuesB (R : Int) y with
    | false =>
      obtain rfl : (false, (1 : Int)) = P := by rw [← HP.out]; unfold bestE; rw [if_neg (fun q => q HCC.out), if_pos (.inr hq)]
      clear hq HP
      go_wp2_with fail
      go_ret2
      exact ⟨rfl, B2.out⟩
    | true =>
      have hP := HP.out
      rw [best5_eq HCC.out HWW.out hq] at hP
      subst hP
      clear hq HP
      go_wp2_with fail
      refine HBB.out.mono ?_
      rintro e w3 ⟨rfl, hb3⟩
      go_wp2_with fail
      go_ret2
      exact ⟨rfl, B2.out.trans (hb3.mono B2.out.size)⟩
  · have hP2 : (false, E) = P := by
      rw [← hP, ← hE]
      exact (asked5_err (most := 0) (by rw [hE]; exact hz)).2.1.symm
    subst hP2
    have z3 : (E != 0) = true := by simpa using hz
    clear hz hE hP
    go_enter Tryz.func27, Tryz.ntmps27
    go_upto_region 1 with fail
    rw [← hW0]
    clear hW0
    go_wp2_with fail
    refine HA.out.mono ?_
    rintro e w1 ⟨rfl, hb1⟩
    have B1 := hidE (B0.out.trans (hb1.mono B0.out.size))
    clear hb1
    go_wp2_with fail
    go_ret2
    exact ⟨rfl, B1.out⟩
end Go.Proofs.YthjmkmjojlfejaaGreat

namespace Go.Proofs.YthjmkmjojlfejaaGreat
open Go Go.RowKit Go.Shelf
def flow5B (N : Nat) (bs : List Bd) (x flow : List Int) (most : Int) : Bool := flowingB bs.length flow && (carriesP N bs x flow).2 && decide (costOf bs flow ≤ most)
theorem flow5_eq {N : Nat} {bs : List Bd} {x flow : List Int} {most : Int} (hc : checkP N bs = 0) (hw : weighedB N x = true) : flowE N bs x flow most = (flow5B N bs x flow most, 0) := by
  unfold flowE flow5B
  rw [if_neg (fun q => q hc), if_neg (by rw [hw]; simp), Int.toNat_natCast]
  cases hq : flowingB bs.length flow with
  | false => rw [if_pos rfl]; simp
  | true =>
    rw [if_neg (by simp)]
    cases hca : (carriesP N bs x flow).2 with
    | false => simp
    | true => rw [carries_cost hca]; simp
set_option maxRecDepth 100000 in
set_option maxHeartbeats 8000000 in
theorem refCheckFlow_any (w : World) (N : Int) (a : Option Addr) (cap : Nat) (bs : List Bd) (a2 : Option Addr) (cap2 : Nat) (x : List Int) (a4 : Option Addr) (cap4 : Nat) (flow : List Int) (most : Int) (hN : i64ok N) (hl : bs.length ≤ 9223372036854775807) (h : BoundsAt w a bs) (hl2 : x.length ≤ 9223372036854775807) (h2 : IntsAt w a2 x) (hl4 : flow.length ≤ 9223372036854775807) (h4 : IntsAt w a4 flow) :
    Calls Tryz.prog 59 #[.agg #[.int .i64 N, .slice a bs.length cap], .slice a2 x.length cap2, .slice a4 flow.length cap4, .int .i64 most] w fun e w' => e = .returned (.tuple #[.bool (flowE N bs x flow most).1, .int .i64 (flowE N bs x flow most).2]) ∧ Below w.heap.size w w' := by
  obtain ⟨W0, hW0⟩ : ∃ W0, W0 = w.alloc (.cells #[.int .i64 N, .slice a bs.length cap] 24) := ⟨_, rfl⟩
  have B0 := hidE (show Below w.heap.size w W0 by rw [hW0]; exact (Below.refl _ _).alloc (Nat.le_refl _) _)
  have X0 := hidE (show W0.heap[w.heap.size]? = some (.cells #[.int .i64 N, .slice a bs.length cap] 24 (0,0)) by rw [hW0]; exact heap_alloc_new _ _)
  have e0 : W0.cell? ⟨w.heap.size, 0, none⟩ = some (.int .i64 N) := by rw [cell_of_row _ _ _ _ _ _ X0.out]; rfl
  have e1 : W0.cell? ⟨w.heap.size, 1, none⟩ = some (.slice a bs.length cap) := by rw [cell_of_row _ _ _ _ _ _ X0.out]; rfl
  have HA := hidE (refasked_any W0 N a cap bs a2 cap2 x hN hl hl2 (h.below B0.out (Nat.le_refl _)) (h2.below B0.out (Nat.le_refl _)))
  have H := hidE (h.below B0.out (Nat.le_refl _))
  have H2 := hidE (h2.below B0.out (Nat.le_refl _))
  have H4 := hidE (h4.below B0.out (Nat.le_refl _))
  obtain ⟨P, hP⟩ : ∃ P, flowE N bs x flow most = P := ⟨_, rfl⟩
  rw [hP]
  obtain ⟨E, hE⟩ : ∃ E, asked5E N bs x = E := ⟨_, rfl⟩
  rw [hE] at HA
  clear h h2 h4 hN
  by_cases hz : E = 0
  · subst hz
    obtain ⟨hc, hw, R, rfl, r1, r2, r3, r4, r5, r6⟩ := asked5_ok hE
    rw [flow5_eq hc hw] at hP
    subst hP
    have HV := hidE r4
    have HR5 := hidE r5
    have HB5 : Hid (flow5B R bs x flow most = (flowingB bs.length flow && (carriesP R bs x flow).2 && decide (costOf bs flow ≤ most))) := hidE rfl
    obtain ⟨P, hPP⟩ : ∃ P, flow5B R bs x flow most = P := ⟨_, rfl⟩
    rw [hPP] at HB5 ⊢
    clear hE r4 r6 r5 hc hw hPP
    go_enter Tryz.func59, Tryz.ntmps59
    go_upto_region 1 with fail
    rw [← hW0]
    clear hW0
    go_wp2_with fail
    refine HA.out.mono ?_
    rintro e w1 ⟨rfl, hb1⟩
    have X1 := hidE (blk_below hb1 (lt_of_block X0.out) X0.out)
    have f0 : w1.cell? ⟨w.heap.size, 0, none⟩ = some (.int .i64 (R : Int)) := by rw [cell_of_row _ _ _ _ _ _ X1.out]; rfl
    have f1 : w1.cell? ⟨w.heap.size, 1, none⟩ = some (.slice a bs.length cap) := by rw [cell_of_row _ _ _ _ _ _ X1.out]; rfl
    have B1 := hidE (B0.out.trans (hb1.mono B0.out.size))
    have I1 := hidE (H.out.below hb1 (Nat.le_refl _))
    have I2 := hidE (H2.out.below hb1 (Nat.le_refl _))
    have I4 := hidE (H4.out.below hb1 (Nat.le_refl _))
    have HIF := hidE (refIsFlow_any w1 (R : Int) a bs.length cap a4 cap4 flow hl4 I4.out)
    clear hb1 e0 e1 HA H H2 H4
    go_wp2_with fail
    refine HIF.out.mono ?_
    rintro e w2 ⟨rfl, hb2⟩
    have X2 := hidE (blk_below hb2 (lt_of_block X1.out) X1.out)
    have g0 : w2.cell? ⟨w.heap.size, 0, none⟩ = some (.int .i64 (R : Int)) := by rw [cell_of_row _ _ _ _ _ _ X2.out]; rfl
    have g1 : w2.cell? ⟨w.heap.size, 1, none⟩ = some (.slice a bs.length cap) := by rw [cell_of_row _ _ _ _ _ _ X2.out]; rfl
    have B2 := hidE (B1.out.trans (hb2.mono B1.out.size))
    have J1 := hidE (I1.out.below hb2 (Nat.le_refl _))
    have J2 := hidE (I2.out.below hb2 (Nat.le_refl _))
    have J4 := hidE (I4.out.below hb2 (Nat.le_refl _))
    clear hb2 f0 f1 HIF I1 I2 I4
    cases hq : flowingB bs.length flow with
    | false =>
      obtain rfl : P = false := by rw [HB5.out, hq]; simp
      clear hq
      go_wp2_with fail
      go_ret2
      exact ⟨rfl, B2.out⟩
    | true =>
      obtain ⟨fl1, fl2⟩ := flowing_pos hq
      have HCA := hidE (refcarries_any w2 R a cap bs a2 cap2 x a4 cap4 flow r2 (by omega) HR5.out fl1 J1.out J2.out J4.out HV.out fl2)
      have HF2 := hidE fl2
      have HF1 := hidE fl1
      have HQQ := hidE hq
      clear hq fl2 fl1
      go_wp2_with fail
      refine HCA.out.mono ?_
      rintro e w3 ⟨rfl, hb3⟩
      have X3 := hidE (blk_below hb3 (lt_of_block X2.out) X2.out)
      have p0 : w3.cell? ⟨w.heap.size, 0, none⟩ = some (.int .i64 (R : Int)) := by rw [cell_of_row _ _ _ _ _ _ X3.out]; rfl
      have p1 : w3.cell? ⟨w.heap.size, 1, none⟩ = some (.slice a bs.length cap) := by rw [cell_of_row _ _ _ _ _ _ X3.out]; rfl
      have B3 := hidE (B2.out.trans (hb3.mono B2.out.size))
      have K1 := hidE (J1.out.below hb3 (Nat.le_refl _))
      have K4 := hidE (J4.out.below hb3 (Nat.le_refl _))
      clear hb3 g0 g1 HCA J1 J2 J4
      cases hca : (carriesP R bs x flow).2 with
      | false =>
        obtain rfl : P = false := by rw [HB5.out, HQQ.out, hca]; simp
        clear hca
        go_wp2_with fail
        go_ret2
        exact ⟨rfl, B3.out⟩
      | true =>
        have HCO := hidE (refcost_any w3 (R : Int) a cap bs a4 cap4 flow (by omega) HF1.out K1.out K4.out (fun b hb => ⟨(HV.out b hb).1.2.2.2.2.1, (HV.out b hb).1.2.2.2.2.2⟩) HF2.out)
        have HPE : Hid (P = decide (costOf bs flow ≤ most)) := hidE (by rw [HB5.out, HQQ.out, hca]; simp)
        clear hca
        go_wp2_with fail
        refine HCO.out.mono ?_
        rintro e w4 ⟨rfl, hb4⟩
        have B4 := hidE (B3.out.trans (hb4.mono B3.out.size))
        clear hb4 HCO
        go_wp2_with fail
        go_ret2
        exact ⟨by rw [HPE.out]; rfl, B4.out⟩
  · have hP2 : (false, E) = P := by
      rw [← hP, ← hE]
      exact (asked5_err (y := []) (by rw [hE]; exact hz)).2.2.symm
    subst hP2
    have z3 : (E != 0) = true := by simpa using hz
    clear hz hE hP
    go_enter Tryz.func59, Tryz.ntmps59
    go_upto_region 1 with fail
    rw [← hW0]
    clear hW0
    go_wp2_with fail
    refine HA.out.mono ?_
    rintro e w1 ⟨rfl, hb1⟩
    have B1 := hidE (B0.out.trans (hb1.mono B0.out.size))
    clear hb1
    go_wp2_with fail
    go_ret2
    exact ⟨rfl, B1.out⟩
def posTo (flow : List Int) (k : Nat) : List Int := ((List.range k).filter fun i => decide (0 < flow.getD i 0)).map fun (i : Nat) => (i : Int)
theorem posTo_succ (flow : List Int) (k : Nat) : posTo flow (k + 1) = posTo flow k ++ (if 0 < flow.getD k 0 then [(k : Int)] else []) := by
  unfold posTo
  rw [List.range_succ, List.filter_append, List.map_append]
  congr 1
  rw [List.filter_cons, List.filter_nil]
  by_cases h : 0 < flow.getD k 0
  · rw [if_pos h, if_pos (decide_eq_true h)]; rfl
  · rw [if_neg h, if_neg (fun q => h (of_decide_eq_true q))]; rfl
theorem posTo_len (flow : List Int) : ∀ k, (posTo flow k).length ≤ k
  | 0 => by simp [posTo]
  | k + 1 => by
    have := posTo_len flow k
    rw [posTo_succ, List.length_append]
    split <;> simp <;> omega
theorem posTo_mem {flow : List Int} {k : Nat} {v : Int} (h : v ∈ posTo flow k) : 0 ≤ v ∧ v < k := by
  obtain ⟨i, hi, rfl⟩ := List.mem_map.1 h
  have := List.mem_range.1 (List.mem_filter.1 hi).1
  omega
theorem rcds_pos (bs : List Bd) (flow : List Int) : ∀ k, k ≤ bs.length → rcds ((posTo flow k).map (bAt bs)) = usedTo bs flow k
  | 0, _ => rfl
  | k + 1, hk => by
    rw [posTo_succ, usedTo_succ, List.map_append, ← rcds_pos bs flow k (by omega)]
    unfold usedAt
    by_cases h : 0 < flow.getD k 0
    · rw [if_pos h]
      simp only [List.map_cons, List.map_nil]
      rw [rcds_snoc, bAt_at (show k < bs.length by omega), bnd_get (show k < bs.length by omega)]
      by_cases h2 : 0 < bs[k].rcd
      · rw [if_pos h2, if_pos ⟨h, h2⟩]
      · rw [if_neg h2, if_neg (fun q => h2 q.2)]
    · rw [if_neg h, if_neg (fun q => h q.1)]
      simp
theorem used_ref {N : Int} {bs : List Bd} {flow : List Int} (hc : checkP N bs = 0) (hq : flowingB bs.length flow = true) : usedE N bs flow = recordsE N bs (posTo flow flow.length) := by
  obtain ⟨fl1, _⟩ := flowing_pos hq
  unfold usedE recordsE
  rw [if_neg (fun q => q hc), if_neg (by rw [hq]; simp), if_neg (fun q => q hc), if_pos (indexP_iff.2 fun v hv => by have := posTo_mem hv; omega)]
  unfold recordsP
  rw [rcds_pos bs flow _ (by omega), fl1]
set_option maxRecDepth 100000 in
set_option maxHeartbeats 8000000 in
theorem refRecords_any (w : World) (N : Int) (a : Option Addr) (cap : Nat) (bs : List Bd) (a2 : Option Addr) (cap2 : Nat) (flow : List Int) (hN : i64ok N) (hl : bs.length ≤ 9223372036854775807) (hl2 : flow.length ≤ 9223372036854775807) (h : BoundsAt w a bs) (h2 : IntsAt w a2 flow) :
    Calls Tryz.prog 62 #[.agg #[.int .i64 N, .slice a bs.length cap], .slice a2 flow.length cap2] w fun e w' => PathPost (usedE N bs flow).1 (usedE N bs flow).2 w.heap.size e w' ∧ Below w.heap.size w w' := by
  obtain ⟨W0, hW0⟩ : ∃ W0, W0 = w.alloc (.cells #[.int .i64 N, .slice a bs.length cap] 24) := ⟨_, rfl⟩
  have B0 := hidE (show Below w.heap.size w W0 by rw [hW0]; exact (Below.refl _ _).alloc (Nat.le_refl _) _)
  have X0 := hidE (show W0.heap[w.heap.size]? = some (.cells #[.int .i64 N, .slice a bs.length cap] 24 (0,0)) by rw [hW0]; exact heap_alloc_new _ _)
  have e0 : W0.cell? ⟨w.heap.size, 0, none⟩ = some (.int .i64 N) := by rw [cell_of_row _ _ _ _ _ _ X0.out]; rfl
  have e1 : W0.cell? ⟨w.heap.size, 1, none⟩ = some (.slice a bs.length cap) := by rw [cell_of_row _ _ _ _ _ _ X0.out]; rfl
  have HA := hidE (refcheck_any W0 N a cap bs hN hl (h.below B0.out (Nat.le_refl _)))
  have H := hidE (h.below B0.out (Nat.le_refl _))
  have H2 := hidE (h2.below B0.out (Nat.le_refl _))
  have HNN := hidE hN
  obtain ⟨P, hP⟩ : ∃ P, usedE N bs flow = P := ⟨_, rfl⟩
  rw [hP]
  obtain ⟨E, hE⟩ : ∃ E, checkP N bs = E := ⟨_, rfl⟩
  rw [hE] at HA
  clear h h2 hN
  by_cases hz : E = 0
  · subst hz
    have HP := hidE hP
    have HE := hidE hE
    clear hP hE
    go_enter Tryz.func62, Tryz.ntmps62
    go_upto_region 1 with fail
    rw [← hW0]
    clear hW0
    go_wp2_with fail
    refine HA.out.mono ?_
    rintro e w1 ⟨rfl, hb1⟩
    have X1 := hidE (blk_below hb1 (lt_of_block X0.out) X0.out)
    have f0 : w1.cell? ⟨w.heap.size, 0, none⟩ = some (.int .i64 N) := by rw [cell_of_row _ _ _ _ _ _ X1.out]; rfl
    have f1 : w1.cell? ⟨w.heap.size, 1, none⟩ = some (.slice a bs.length cap) := by rw [cell_of_row _ _ _ _ _ _ X1.out]; rfl
    have B1 := hidE (B0.out.trans (hb1.mono B0.out.size))
    have I1 := hidE (H.out.below hb1 (Nat.le_refl _))
    have I2 := hidE (H2.out.below hb1 (Nat.le_refl _))
    have HIF := hidE (refIsFlow_any w1 N a bs.length cap a2 cap2 flow hl2 I2.out)
    clear hb1 e0 e1 HA H H2
    go_wp2_with fail
    refine HIF.out.mono ?_
    rintro e w2 ⟨rfl, hb2⟩
    have X2 := hidE (blk_below hb2 (lt_of_block X1.out) X1.out)
    have B2 := hidE (B1.out.trans (hb2.mono B1.out.size))
    have J1 := hidE (I1.out.below hb2 (Nat.le_refl _))
    have J2 := hidE (I2.out.below hb2 (Nat.le_refl _))
    clear hb2 f0 f1 HIF I1 I2
    cases hq : flowingB bs.length flow with
    | false =>
      obtain rfl : ([], (1 : Int)) = P := by rw [← HP.out]; unfold usedE; rw [if_neg (fun q => q HE.out), if_pos hq]
      clear hq HP
      go_wp2_with fail
      go_ret2
      exact ⟨⟨.slice none 0 0, rfl, World.ownsRow_nil _ _ _ _⟩, B2.out⟩
    | true =>
      have HR := hidE (used_ref HE.out hq)
      have hfl := (flowing_pos hq).1
      have hb2000 : bs.length ≤ 2000 := by
        obtain ⟨R, rfl, _, _, q, _⟩ := allOk_of HE.out
        exact q
      rw [HP.out] at HR
      obtain ⟨n, hn⟩ : ∃ n, flow.length = n := ⟨_, rfl⟩
      have HFN := hidE hn
      rw [hn] at HR ⊢
      have hn2 : n ≤ 2000 := by omega
      clear hq hfl hn HP hb2000
      go_wp2_with fail
      go_loopw [8, 9] (fun v i wr => ∃ k : Nat, k ≤ n ∧ i = .int .i64 k ∧ Hid (wr.ownsRow w2.heap.size 3 1 v (posTo flow k).length (intsV (posTo flow k))) ∧ Hid (Below w2.heap.size w2 wr)) (fun _ i _ => n - (intOf i).toNat)
      case atStart => exact ⟨0, Nat.zero_le _, rfl, hidE (World.ownsRow_nil _ _ _ _), hidE (Below.refl _ _)⟩
      case round =>
        obtain ⟨k, hk, rfl, HO, HBB⟩ := hrel
        obtain ⟨wx, rfl⟩ : ∃ x : World, x = wr := ⟨wr, rfl⟩
        by_cases hlt : k < n
        · have hkf : k < flow.length := by rw [HFN.out]; exact hlt
          obtain ⟨b, off, rfl, hbl, hc⟩ := J2.out.at hkf
          rw [← HBB.out.cell hbl, ← getD_get flow 0 hkf] at hc
          have HS := hidE (posTo_succ flow k)
          have hpl := posTo_len flow k
          obtain ⟨q, hq⟩ : ∃ q, flow.getD k 0 = q := ⟨_, rfl⟩
          rw [hq] at hc HS
          have HLT := hidE hlt
          clear hq
          by_cases hpos : 0 < q
          · have d0 : decide (q > 0) = true := by simpa using hpos
            have d0' : decide (0 < q) = true := by simpa using hpos
            rw [if_pos hpos] at HS
            obtain ⟨v5, wa, hrun1, own5, hbx, _⟩ := append_int HO.out (k : Int) (by omega) HBB.out.size
            have HRUN1 := hidE hrun1
            have HO5 := hidE own5
            have HB5 := hidE (HBB.out.trans hbx)
            clear hrun1 own5 hbx hpos
            go_wp2_with (at_builtin; (refine wpList_op_append rfl (s := .tmp 31) (x := .tmp 33) (t := 25) rfl rfl rfl HRUN1.out ?_))
            go_roundw
            case rel => exact ⟨k + 1, HLT.out, by go_num, hidE (by rw [HS.out]; exact HO5.out), HB5⟩
            case measure => have := HLT.out; simp [intOf]; omega
          · have d0 : decide (q > 0) = false := by simpa using hpos
            have d0' : decide (0 < q) = false := by simpa using hpos
            rw [if_neg hpos, List.append_nil] at HS
            clear hpos
            go_wp2_with fail
            go_roundw
            case rel => exact ⟨k + 1, HLT.out, by go_num, hidE (by rw [HS.out]; exact HO.out), HBB⟩
            case measure => have := HLT.out; simp [intOf]; omega
        · obtain rfl : k = n := by omega
          have xx := blk_below (HBB.out) (lt_of_block X2.out) X2.out
          have g0 : wx.cell? ⟨w.heap.size, 0, none⟩ = some (.int .i64 N) := by rw [cell_of_row _ _ _ _ _ _ xx]; rfl
          have g1 : wx.cell? ⟨w.heap.size, 1, none⟩ = some (.slice a bs.length cap) := by rw [cell_of_row _ _ _ _ _ _ xx]; rfl
          obtain ⟨o9, c9, rfl, hi9, _⟩ := intsAt_of_owns HO.out
          have hpl := posTo_len flow k
          have HRC := hidE (refrecordsS_any wx N a cap bs o9 c9 (posTo flow k) HNN.out hl (J1.out.below HBB.out (Nat.le_refl _)) (by omega) hi9)
          rw [← HR.out] at HRC
          have B9 := hidE (B2.out.trans (HBB.out.mono B2.out.size))
          clear xx hi9 hpl
          go_wp2_with fail
          refine HRC.out.mono ?_
          rintro e w6 ⟨⟨v6, rfl, ho6⟩, hb6⟩
          have HO6 := hidE (ho6.mono B9.out.size)
          have B6 := hidE (B9.out.trans (hb6.mono B9.out.size))
          clear ho6 hb6 HRC
          go_wp2_with fail
          go_ret2
          exact ⟨⟨_, rfl, HO6.out⟩, B6.out⟩
  · obtain rfl : ([], E) = P := by rw [← hP, ← hE]; unfold usedE; rw [if_pos (by rw [hE]; exact hz)]
    have z3 : (E != 0) = true := by simpa using hz
    clear hz hE hP
    go_enter Tryz.func62, Tryz.ntmps62
    go_upto_region 1 with fail
    rw [← hW0]
    clear hW0
    go_wp2_with fail
    refine HA.out.mono ?_
    rintro e w1 ⟨rfl, hb1⟩
    have B1 := hidE (B0.out.trans (hb1.mono B0.out.size))
    clear hb1
    go_wp2_with fail
    go_ret2
    exact ⟨⟨.slice none 0 0, rfl, World.ownsRow_nil _ _ _ _⟩, B1.out⟩
end Go.Proofs.YthjmkmjojlfejaaGreat

namespace Go.Proofs.YthjmkmjojlfejaaGreat
open Go Go.RowKit Go.Shelf
/-- Few variables and bounds, or far too many. -/
def fewA (N : Int) (m : Nat) : Bool := (decide ((m : Int) ≤ 70) && (decide (N ≤ 26) || decide (N > 128))) || (decide ((m : Int) > 2000) && decide ((m : Int) ≤ 2005))
set_option maxHeartbeats 4000000 in
theorem fewA_any (w : World) (N : Int) (a : Option Addr) (n cap : Nat) (hn : n ≤ 9223372036854775807) :
    Calls Tryz.prog 21 #[.agg #[.int .i64 N, .slice a n cap]] w fun e w' => e = .returned (.bool (fewA N n)) ∧ Below w.heap.size w w' := by
  have B0 := hidE (show Below w.heap.size w (w.alloc (.cells #[.int .i64 N, .slice a n cap] 24)) from (Below.refl _ _).alloc (Nat.le_refl _) _)
  obtain ⟨P, hP⟩ : ∃ P, fewA N n = P := ⟨_, rfl⟩
  rw [hP]
  unfold fewA at hP
  by_cases h1 : n ≤ 70
  · by_cases h2 : N ≤ 26
    · have f0 : decide ((n : Int) ≤ 70) = true := by simp; omega
      have f1 : decide (n ≤ 70) = true := by simp; omega
      have f2 : decide (N ≤ 26) = true := by simp; omega
      have HP := hidE (show true = P by rw [← hP]; simp [h2, show (n : Int) ≤ 70 by omega] <;> omega)
      clear hP
      go_enter Tryz.func21, Tryz.ntmps21
      go_wp2_with fail
      go_ret
      exact ⟨by rw [← HP.out]; rfl, B0.out⟩
    · by_cases h3 : 128 < N
      · have f0 : decide ((n : Int) ≤ 70) = true := by simp; omega
        have f1 : decide (n ≤ 70) = true := by simp; omega
        have f2 : decide (N ≤ 26) = false := by simp; omega
        have f3 : decide (N > 128) = true := by simp; omega
        have f4 : decide (128 < N) = true := by simp; omega
        have HP := hidE (show true = P by rw [← hP]; simp [h3, show (n : Int) ≤ 70 by omega] <;> omega)
        clear hP
        go_enter Tryz.func21, Tryz.ntmps21
        go_wp2_with fail
        go_ret
        exact ⟨by rw [← HP.out]; rfl, B0.out⟩
      · have f0 : decide ((n : Int) ≤ 70) = true := by simp; omega
        have f1 : decide (n ≤ 70) = true := by simp; omega
        have f2 : decide (N ≤ 26) = false := by simp; omega
        have f3 : decide (N > 128) = false := by simp; omega
        have f4 : decide (128 < N) = false := by simp; omega
        have f5 : decide ((n : Int) > 2000) = false := by simp; omega
        have f6 : decide (2000 < n) = false := by simp; omega
        have HP := hidE (show false = P by rw [← hP]; simp [h2, h3] <;> omega)
        clear hP
        go_enter Tryz.func21, Tryz.ntmps21
        go_wp2_with fail
        go_ret
        exact ⟨by rw [← HP.out]; rfl, B0.out⟩
  · by_cases h2 : 2000 < n
    · by_cases h3 : n ≤ 2005
      · have f0 : decide ((n : Int) ≤ 70) = false := by simp; omega
        have f1 : decide (n ≤ 70) = false := by simp; omega
        have f2 : decide ((n : Int) > 2000) = true := by simp; omega
        have f3 : decide (2000 < n) = true := by simp; omega
        have f4 : decide ((n : Int) ≤ 2005) = true := by simp; omega
        have f5 : decide (n ≤ 2005) = true := by simp; omega
        have HP := hidE (show true = P by rw [← hP]; simp [show (n : Int) ≤ 2005 by omega, show 2000 < (n : Int) by omega] <;> omega)
        clear hP
        go_enter Tryz.func21, Tryz.ntmps21
        go_wp2_with fail
        go_ret
        exact ⟨by rw [← HP.out]; rfl, B0.out⟩
      · have f0 : decide ((n : Int) ≤ 70) = false := by simp; omega
        have f1 : decide (n ≤ 70) = false := by simp; omega
        have f2 : decide ((n : Int) > 2000) = true := by simp; omega
        have f3 : decide (2000 < n) = true := by simp; omega
        have f4 : decide ((n : Int) ≤ 2005) = false := by simp; omega
        have f5 : decide (n ≤ 2005) = false := by simp; omega
        have HP := hidE (show false = P by rw [← hP]; simp [show ¬ (n : Int) ≤ 2005 by omega, show ¬ (n : Int) ≤ 70 by omega] <;> omega)
        clear hP
        go_enter Tryz.func21, Tryz.ntmps21
        go_wp2_with fail
        go_ret
        exact ⟨by rw [← HP.out]; rfl, B0.out⟩
    · have f0 : decide ((n : Int) ≤ 70) = false := by simp; omega
      have f1 : decide (n ≤ 70) = false := by simp; omega
      have f2 : decide ((n : Int) > 2000) = false := by simp; omega
      have f3 : decide (2000 < n) = false := by simp; omega
      have HP := hidE (show false = P by rw [← hP]; simp [show ¬ (n : Int) ≤ 70 by omega] <;> omega)
      clear hP
      go_enter Tryz.func21, Tryz.ntmps21
      go_wp2_with fail
      go_ret
      exact ⟨by rw [← HP.out]; rfl, B0.out⟩
end Go.Proofs.YthjmkmjojlfejaaGreat

namespace Go.Proofs.YthjmkmjojlfejaaGreat
open Go Go.RowKit Go.Shelf
theorem same_refl (W : World) (o1 o2 : Option Addr) (c1 c2 : Nat) (Q : List Int) (hq : Q.length ≤ 4000) (h1 : IntsAt W o1 Q) (h2 : IntsAt W o2 Q) :
    Calls Tryz.prog 32 #[.slice o1 Q.length c1, .slice o2 Q.length c2] W fun e w' => e = .returned (.bool true) ∧ Below W.heap.size W w' := by
  have H := same_any W o1 c1 Q o2 c2 Q (by omega) (by omega) h1 h2
  rw [decide_eq_true rfl] at H
  exact H.mono fun e w' ⟨a, b⟩ => ⟨a, by rw [b]; exact Below.refl _ _⟩
end Go.Proofs.YthjmkmjojlfejaaGreat

namespace Go.Proofs.YthjmkmjojlfejaaGreat
open Go Go.RowKit Go.Shelf
theorem usedE_len (N : Int) (bs : List Bd) (flow : List Int) : (usedE N bs flow).1.length ≤ 2000 := by
  unfold usedE
  split
  · simp
  · rename_i h
    obtain ⟨R, rfl, _, _, q, _⟩ := allOk_of (Classical.not_not.1 h)
    split
    · simp
    · have h1 := Lib.compact_length_le (sortP (usedTo bs flow bs.length))
      rw [sortP_length] at h1
      have h2 := usedTo_len bs flow bs.length
      show (Lib.compact (sortP (usedTo bs flow bs.length))).length ≤ 2000
      omega
set_option maxRecDepth 100000 in
set_option maxHeartbeats 16000000 in
theorem areaChecks_of (hal : AliveOk) (w : World) (N : Int) (a : Option Addr) (cap : Nat) (bs : List Bd) (a2 : Option Addr) (cap2 : Nat) (wt : List Int) (a3 : Option Addr) (cap3 : Nat) (y : List Int) (a4 : Option Addr) (cap4 : Nat) (fl : List Int) (most : Int) (hN : i64ok N) (hl : bs.length ≤ 9223372036854775807) (h : BoundsAt w a bs) (hl2 : wt.length ≤ 9223372036854775807) (h2 : IntsAt w a2 wt) (hl3 : y.length ≤ 9223372036854775807) (h3 : IntsAt w a3 y) (hl4 : fl.length ≤ 9223372036854775807) (h4 : IntsAt w a4 fl) :
    Calls Tryz.prog 14 #[.agg #[.int .i64 N, .slice a bs.length cap], .slice a2 wt.length cap2, .slice a3 y.length cap3, .slice a4 fl.length cap4, .int .i64 most] w fun e w' => e = .returned (.bool true) ∧ Below w.heap.size w w' := by
  have HAL := hidE hal
  obtain ⟨W0, hW0⟩ : ∃ W0, W0 = w.alloc (.cells #[.int .i64 N, .slice a bs.length cap] 24) := ⟨_, rfl⟩
  have BB0 : Hid (Below w.heap.size w W0) := hidE (by rw [hW0]; exact (Below.refl _ _).alloc (Nat.le_refl _) _)
  have SS0 : Hid (BoundsAt W0 a bs) := hidE (by rw [hW0]; exact h.alloc _)
  have XS0 : Hid (W0.heap[w.heap.size]? = some (.cells #[.int .i64 N, .slice a bs.length cap] 24 (0,0))) := hidE (by rw [hW0]; exact heap_alloc_new _ _)
  have HFW := hidE (fun W => fewA_any W N a bs.length cap hl)
  have II0 : Hid (IntsAt W0 a2 wt) := hidE (by rw [hW0]; exact h2.alloc _)
  have JJ0 : Hid (IntsAt W0 a3 y) := hidE (by rw [hW0]; exact h3.alloc _)
  have KK0 : Hid (IntsAt W0 a4 fl) := hidE (by rw [hW0]; exact h4.alloc _)
  have HFL := hidE (fun W (p : BoundsAt W a bs) (q : IntsAt W a2 wt) (r : IntsAt W a4 fl) => checkFlow_any W N a cap bs a2 cap2 wt a4 cap4 fl most hN hl p hl2 q hl4 r)
  have HFL5 := hidE (fun W (p : BoundsAt W a bs) (q : IntsAt W a2 wt) (r : IntsAt W a4 fl) => refCheckFlow_any W N a cap bs a2 cap2 wt a4 cap4 fl most hN hl p hl2 q hl4 r)
  have HBE := hidE (fun W (p : BoundsAt W a bs) (q : IntsAt W a2 wt) (r : IntsAt W a3 y) (s : IntsAt W a4 fl) => checkBest_any W N a cap bs a2 cap2 wt a3 cap3 y a4 cap4 fl hN hl p hl2 q hl3 r hl4 s)
  have HBE5 := hidE (fun W (p : BoundsAt W a bs) (q : IntsAt W a2 wt) (r : IntsAt W a3 y) (s : IntsAt W a4 fl) => refCheckBest_any W N a cap bs a2 cap2 wt a3 cap3 y a4 cap4 fl hN hl p hl2 q hl3 r hl4 s)
  have HRE := hidE (fun W (p : BoundsAt W a bs) (s : IntsAt W a4 fl) => recordsA_any W N a cap bs a4 cap4 fl hN hl hl4 p s)
  have HRE5 := hidE (fun W (p : BoundsAt W a bs) (s : IntsAt W a4 fl) => refRecords_any W N a cap bs a4 cap4 fl hN hl hl4 p s)
  have hul := usedE_len N bs fl
  obtain ⟨s1, hs1⟩ : ∃ z, (flowE N bs wt fl most).1 = z := ⟨_, rfl⟩
  obtain ⟨s2, hs2⟩ : ∃ z, (flowE N bs wt fl most).2 = z := ⟨_, rfl⟩
  obtain ⟨b1, hb1⟩ : ∃ z, (bestE N bs wt y fl).1 = z := ⟨_, rfl⟩
  obtain ⟨b2, hb2⟩ : ∃ z, (bestE N bs wt y fl).2 = z := ⟨_, rfl⟩
  obtain ⟨u1, hu1⟩ : ∃ z, (usedE N bs fl).1 = z := ⟨_, rfl⟩
  obtain ⟨u2, hu2⟩ : ∃ z, (usedE N bs fl).2 = z := ⟨_, rfl⟩
  rw [hs1, hs2] at HFL HFL5
  rw [hb1, hb2] at HBE HBE5
  rw [hu1, hu2] at HRE HRE5
  rw [hu1] at hul
  clear hal h h2 h3 h4 hs1 hs2 hb1 hb2 hu1 hu2
  by_cases hp : fewA N bs.length = false
  · rw [hp] at HFW
    go_enter Tryz.func14, Tryz.ntmps14
    go_upto_region 1 with fail
    rw [← hW0]
    clear hW0
    have f0 : W0.cell? ⟨w.heap.size, 0, none⟩ = some (.int .i64 N) := by rw [cell_of_row _ _ _ _ _ _ XS0.out]; rfl
    have f1 : W0.cell? ⟨w.heap.size, 1, none⟩ = some (.slice a bs.length cap) := by rw [cell_of_row _ _ _ _ _ _ XS0.out]; rfl
    have HC := hidE (HFW.out W0)
    go_wp2_with fail
    refine HC.out.mono ?_
    rintro e W1 ⟨rfl, hbx⟩
    clear HC f0 f1
    have hb : Below W0.heap.size W0 W1 := hbx
    have BB1 : Hid (Below w.heap.size w W1) := hidE (BB0.out.trans (hb.mono BB0.out.size))
    have SS1 : Hid (BoundsAt W1 a bs) := hidE (SS0.out.below hb (Nat.le_refl _))
    have XS1 : Hid (W1.heap[w.heap.size]? = some (.cells #[.int .i64 N, .slice a bs.length cap] 24 (0,0))) := hidE (blk_below hb (lt_of_block XS0.out) XS0.out)
    have II1 : Hid (IntsAt W1 a2 wt) := hidE (II0.out.below hb (Nat.le_refl _))
    have JJ1 : Hid (IntsAt W1 a3 y) := hidE (JJ0.out.below hb (Nat.le_refl _))
    have KK1 : Hid (IntsAt W1 a4 fl) := hidE (KK0.out.below hb (Nat.le_refl _))
    clear hb BB0 SS0 XS0 II0 JJ0 KK0
    clear hbx
    go_wp2_with fail
    refine (HAL.out _).mono ?_
    rintro e w9 ⟨rfl, hb9⟩
    have B9 := hidE (BB1.out.trans (hb9.mono BB1.out.size))
    clear hb9
    go_wp2_with fail
    go_ret
    exact ⟨by simp, B9.out⟩
  have hp2 : fewA N bs.length = true := by simpa using hp
  rw [hp2] at HFW
  clear hp hp2
  by_cases hv0 : 200 < wt.length
  · have hd : decide ((wt.length : Int) > 200) = true := by simp; omega
    have hd' : decide (200 < wt.length) = true := by simp; omega
    go_enter Tryz.func14, Tryz.ntmps14
    go_upto_region 1 with fail
    rw [← hW0]
    clear hW0
    have f0 : W0.cell? ⟨w.heap.size, 0, none⟩ = some (.int .i64 N) := by rw [cell_of_row _ _ _ _ _ _ XS0.out]; rfl
    have f1 : W0.cell? ⟨w.heap.size, 1, none⟩ = some (.slice a bs.length cap) := by rw [cell_of_row _ _ _ _ _ _ XS0.out]; rfl
    have HC := hidE (HFW.out W0)
    go_wp2_with fail
    refine HC.out.mono ?_
    rintro e W1 ⟨rfl, hbx⟩
    clear HC f0 f1
    have hb : Below W0.heap.size W0 W1 := hbx
    have BB1 : Hid (Below w.heap.size w W1) := hidE (BB0.out.trans (hb.mono BB0.out.size))
    have SS1 : Hid (BoundsAt W1 a bs) := hidE (SS0.out.below hb (Nat.le_refl _))
    have XS1 : Hid (W1.heap[w.heap.size]? = some (.cells #[.int .i64 N, .slice a bs.length cap] 24 (0,0))) := hidE (blk_below hb (lt_of_block XS0.out) XS0.out)
    have II1 : Hid (IntsAt W1 a2 wt) := hidE (II0.out.below hb (Nat.le_refl _))
    have JJ1 : Hid (IntsAt W1 a3 y) := hidE (JJ0.out.below hb (Nat.le_refl _))
    have KK1 : Hid (IntsAt W1 a4 fl) := hidE (KK0.out.below hb (Nat.le_refl _))
    clear hb BB0 SS0 XS0 II0 JJ0 KK0
    clear hbx
    go_wp2_with fail
    refine (HAL.out _).mono ?_
    rintro e w9 ⟨rfl, hb9⟩
    have B9 := hidE (BB1.out.trans (hb9.mono BB1.out.size))
    clear hb9
    go_wp2_with fail
    go_ret
    exact ⟨by simp, B9.out⟩
  have hd0 : decide ((wt.length : Int) > 200) = false := by simp; omega
  have hd0' : decide (200 < wt.length) = false := by simp; omega
  by_cases hv1 : 200 < y.length
  · have hd : decide ((y.length : Int) > 200) = true := by simp; omega
    have hd' : decide (200 < y.length) = true := by simp; omega
    go_enter Tryz.func14, Tryz.ntmps14
    go_upto_region 1 with fail
    rw [← hW0]
    clear hW0
    have f0 : W0.cell? ⟨w.heap.size, 0, none⟩ = some (.int .i64 N) := by rw [cell_of_row _ _ _ _ _ _ XS0.out]; rfl
    have f1 : W0.cell? ⟨w.heap.size, 1, none⟩ = some (.slice a bs.length cap) := by rw [cell_of_row _ _ _ _ _ _ XS0.out]; rfl
    have HC := hidE (HFW.out W0)
    go_wp2_with fail
    refine HC.out.mono ?_
    rintro e W1 ⟨rfl, hbx⟩
    clear HC f0 f1
    have hb : Below W0.heap.size W0 W1 := hbx
    have BB1 : Hid (Below w.heap.size w W1) := hidE (BB0.out.trans (hb.mono BB0.out.size))
    have SS1 : Hid (BoundsAt W1 a bs) := hidE (SS0.out.below hb (Nat.le_refl _))
    have XS1 : Hid (W1.heap[w.heap.size]? = some (.cells #[.int .i64 N, .slice a bs.length cap] 24 (0,0))) := hidE (blk_below hb (lt_of_block XS0.out) XS0.out)
    have II1 : Hid (IntsAt W1 a2 wt) := hidE (II0.out.below hb (Nat.le_refl _))
    have JJ1 : Hid (IntsAt W1 a3 y) := hidE (JJ0.out.below hb (Nat.le_refl _))
    have KK1 : Hid (IntsAt W1 a4 fl) := hidE (KK0.out.below hb (Nat.le_refl _))
    clear hb BB0 SS0 XS0 II0 JJ0 KK0
    clear hbx
    go_wp2_with fail
    refine (HAL.out _).mono ?_
    rintro e w9 ⟨rfl, hb9⟩
    have B9 := hidE (BB1.out.trans (hb9.mono BB1.out.size))
    clear hb9
    go_wp2_with fail
    go_ret
    exact ⟨by simp, B9.out⟩
  have hd1 : decide ((y.length : Int) > 200) = false := by simp; omega
  have hd1' : decide (200 < y.length) = false := by simp; omega
  by_cases hv2 : 2010 < fl.length
  · have hd : decide ((fl.length : Int) > 2010) = true := by simp; omega
    have hd' : decide (2010 < fl.length) = true := by simp; omega
    go_enter Tryz.func14, Tryz.ntmps14
    go_upto_region 1 with fail
    rw [← hW0]
    clear hW0
    have f0 : W0.cell? ⟨w.heap.size, 0, none⟩ = some (.int .i64 N) := by rw [cell_of_row _ _ _ _ _ _ XS0.out]; rfl
    have f1 : W0.cell? ⟨w.heap.size, 1, none⟩ = some (.slice a bs.length cap) := by rw [cell_of_row _ _ _ _ _ _ XS0.out]; rfl
    have HC := hidE (HFW.out W0)
    go_wp2_with fail
    refine HC.out.mono ?_
    rintro e W1 ⟨rfl, hbx⟩
    clear HC f0 f1
    have hb : Below W0.heap.size W0 W1 := hbx
    have BB1 : Hid (Below w.heap.size w W1) := hidE (BB0.out.trans (hb.mono BB0.out.size))
    have SS1 : Hid (BoundsAt W1 a bs) := hidE (SS0.out.below hb (Nat.le_refl _))
    have XS1 : Hid (W1.heap[w.heap.size]? = some (.cells #[.int .i64 N, .slice a bs.length cap] 24 (0,0))) := hidE (blk_below hb (lt_of_block XS0.out) XS0.out)
    have II1 : Hid (IntsAt W1 a2 wt) := hidE (II0.out.below hb (Nat.le_refl _))
    have JJ1 : Hid (IntsAt W1 a3 y) := hidE (JJ0.out.below hb (Nat.le_refl _))
    have KK1 : Hid (IntsAt W1 a4 fl) := hidE (KK0.out.below hb (Nat.le_refl _))
    clear hb BB0 SS0 XS0 II0 JJ0 KK0
    clear hbx
    go_wp2_with fail
    refine (HAL.out _).mono ?_
    rintro e w9 ⟨rfl, hb9⟩
    have B9 := hidE (BB1.out.trans (hb9.mono BB1.out.size))
    clear hb9
    go_wp2_with fail
    go_ret
    exact ⟨by simp, B9.out⟩
  have hd2 : decide ((fl.length : Int) > 2010) = false := by simp; omega
  have hd2' : decide (2010 < fl.length) = false := by simp; omega
  clear hv0 hv1 hv2
  go_enter Tryz.func14, Tryz.ntmps14
  go_upto_region 1 with fail
  rw [← hW0]
  clear hW0
  have f0 : W0.cell? ⟨w.heap.size, 0, none⟩ = some (.int .i64 N) := by rw [cell_of_row _ _ _ _ _ _ XS0.out]; rfl
  have f1 : W0.cell? ⟨w.heap.size, 1, none⟩ = some (.slice a bs.length cap) := by rw [cell_of_row _ _ _ _ _ _ XS0.out]; rfl
  have HC := hidE (HFW.out W0)
  go_wp2_with fail
  refine HC.out.mono ?_
  rintro e W1 ⟨rfl, hbx⟩
  clear HC f0 f1
  have hb : Below W0.heap.size W0 W1 := hbx
  have BB1 : Hid (Below w.heap.size w W1) := hidE (BB0.out.trans (hb.mono BB0.out.size))
  have SS1 : Hid (BoundsAt W1 a bs) := hidE (SS0.out.below hb (Nat.le_refl _))
  have XS1 : Hid (W1.heap[w.heap.size]? = some (.cells #[.int .i64 N, .slice a bs.length cap] 24 (0,0))) := hidE (blk_below hb (lt_of_block XS0.out) XS0.out)
  have II1 : Hid (IntsAt W1 a2 wt) := hidE (II0.out.below hb (Nat.le_refl _))
  have JJ1 : Hid (IntsAt W1 a3 y) := hidE (JJ0.out.below hb (Nat.le_refl _))
  have KK1 : Hid (IntsAt W1 a4 fl) := hidE (KK0.out.below hb (Nat.le_refl _))
  clear hb BB0 SS0 XS0 II0 JJ0 KK0
  clear hbx
  have f0 : W1.cell? ⟨w.heap.size, 0, none⟩ = some (.int .i64 N) := by rw [cell_of_row _ _ _ _ _ _ XS1.out]; rfl
  have f1 : W1.cell? ⟨w.heap.size, 1, none⟩ = some (.slice a bs.length cap) := by rw [cell_of_row _ _ _ _ _ _ XS1.out]; rfl
  have HC := hidE (HFL.out W1 SS1.out II1.out KK1.out)
  go_wp2_with fail
  refine HC.out.mono ?_
  rintro e W2 ⟨rfl, hbx⟩
  clear HC f0 f1
  have hb : Below W1.heap.size W1 W2 := hbx
  have BB2 : Hid (Below w.heap.size w W2) := hidE (BB1.out.trans (hb.mono BB1.out.size))
  have SS2 : Hid (BoundsAt W2 a bs) := hidE (SS1.out.below hb (Nat.le_refl _))
  have XS2 : Hid (W2.heap[w.heap.size]? = some (.cells #[.int .i64 N, .slice a bs.length cap] 24 (0,0))) := hidE (blk_below hb (lt_of_block XS1.out) XS1.out)
  have II2 : Hid (IntsAt W2 a2 wt) := hidE (II1.out.below hb (Nat.le_refl _))
  have JJ2 : Hid (IntsAt W2 a3 y) := hidE (JJ1.out.below hb (Nat.le_refl _))
  have KK2 : Hid (IntsAt W2 a4 fl) := hidE (KK1.out.below hb (Nat.le_refl _))
  clear hb BB1 SS1 XS1 II1 JJ1 KK1
  clear hbx
  have f0 : W2.cell? ⟨w.heap.size, 0, none⟩ = some (.int .i64 N) := by rw [cell_of_row _ _ _ _ _ _ XS2.out]; rfl
  have f1 : W2.cell? ⟨w.heap.size, 1, none⟩ = some (.slice a bs.length cap) := by rw [cell_of_row _ _ _ _ _ _ XS2.out]; rfl
  have HC := hidE (HFL5.out W2 SS2.out II2.out KK2.out)
  go_wp2_with fail
  refine HC.out.mono ?_
  rintro e W3 ⟨rfl, hbx⟩
  clear HC f0 f1
  have hb : Below W2.heap.size W2 W3 := hbx
  have BB3 : Hid (Below w.heap.size w W3) := hidE (BB2.out.trans (hb.mono BB2.out.size))
  have SS3 : Hid (BoundsAt W3 a bs) := hidE (SS2.out.below hb (Nat.le_refl _))
  have XS3 : Hid (W3.heap[w.heap.size]? = some (.cells #[.int .i64 N, .slice a bs.length cap] 24 (0,0))) := hidE (blk_below hb (lt_of_block XS2.out) XS2.out)
  have II3 : Hid (IntsAt W3 a2 wt) := hidE (II2.out.below hb (Nat.le_refl _))
  have JJ3 : Hid (IntsAt W3 a3 y) := hidE (JJ2.out.below hb (Nat.le_refl _))
  have KK3 : Hid (IntsAt W3 a4 fl) := hidE (KK2.out.below hb (Nat.le_refl _))
  clear hb BB2 SS2 XS2 II2 JJ2 KK2
  clear hbx
  have f0 : W3.cell? ⟨w.heap.size, 0, none⟩ = some (.int .i64 N) := by rw [cell_of_row _ _ _ _ _ _ XS3.out]; rfl
  have f1 : W3.cell? ⟨w.heap.size, 1, none⟩ = some (.slice a bs.length cap) := by rw [cell_of_row _ _ _ _ _ _ XS3.out]; rfl
  have HC := hidE (HBE.out W3 SS3.out II3.out JJ3.out KK3.out)
  go_wp2_with fail
  refine HC.out.mono ?_
  rintro e W4 ⟨rfl, hbx⟩
  clear HC f0 f1
  have hb : Below W3.heap.size W3 W4 := hbx
  have BB4 : Hid (Below w.heap.size w W4) := hidE (BB3.out.trans (hb.mono BB3.out.size))
  have SS4 : Hid (BoundsAt W4 a bs) := hidE (SS3.out.below hb (Nat.le_refl _))
  have XS4 : Hid (W4.heap[w.heap.size]? = some (.cells #[.int .i64 N, .slice a bs.length cap] 24 (0,0))) := hidE (blk_below hb (lt_of_block XS3.out) XS3.out)
  have II4 : Hid (IntsAt W4 a2 wt) := hidE (II3.out.below hb (Nat.le_refl _))
  have JJ4 : Hid (IntsAt W4 a3 y) := hidE (JJ3.out.below hb (Nat.le_refl _))
  have KK4 : Hid (IntsAt W4 a4 fl) := hidE (KK3.out.below hb (Nat.le_refl _))
  clear hb BB3 SS3 XS3 II3 JJ3 KK3
  clear hbx
  have f0 : W4.cell? ⟨w.heap.size, 0, none⟩ = some (.int .i64 N) := by rw [cell_of_row _ _ _ _ _ _ XS4.out]; rfl
  have f1 : W4.cell? ⟨w.heap.size, 1, none⟩ = some (.slice a bs.length cap) := by rw [cell_of_row _ _ _ _ _ _ XS4.out]; rfl
  have HC := hidE (HBE5.out W4 SS4.out II4.out JJ4.out KK4.out)
  go_wp2_with fail
  refine HC.out.mono ?_
  rintro e W5 ⟨rfl, hbx⟩
  clear HC f0 f1
  have hb : Below W4.heap.size W4 W5 := hbx
  have BB5 : Hid (Below w.heap.size w W5) := hidE (BB4.out.trans (hb.mono BB4.out.size))
  have SS5 : Hid (BoundsAt W5 a bs) := hidE (SS4.out.below hb (Nat.le_refl _))
  have XS5 : Hid (W5.heap[w.heap.size]? = some (.cells #[.int .i64 N, .slice a bs.length cap] 24 (0,0))) := hidE (blk_below hb (lt_of_block XS4.out) XS4.out)
  have II5 : Hid (IntsAt W5 a2 wt) := hidE (II4.out.below hb (Nat.le_refl _))
  have JJ5 : Hid (IntsAt W5 a3 y) := hidE (JJ4.out.below hb (Nat.le_refl _))
  have KK5 : Hid (IntsAt W5 a4 fl) := hidE (KK4.out.below hb (Nat.le_refl _))
  clear hb BB4 SS4 XS4 II4 JJ4 KK4
  clear hbx
  have f0 : W5.cell? ⟨w.heap.size, 0, none⟩ = some (.int .i64 N) := by rw [cell_of_row _ _ _ _ _ _ XS5.out]; rfl
  have f1 : W5.cell? ⟨w.heap.size, 1, none⟩ = some (.slice a bs.length cap) := by rw [cell_of_row _ _ _ _ _ _ XS5.out]; rfl
  have HC := hidE (HRE.out W5 SS5.out KK5.out)
  go_wp2_with fail
  refine HC.out.mono ?_
  rintro e W6 ⟨⟨vp, rfl, hop⟩, hbx⟩
  clear HC f0 f1
  have hb : Below W5.heap.size W5 W6 := hbx
  have BB6 : Hid (Below w.heap.size w W6) := hidE (BB5.out.trans (hb.mono BB5.out.size))
  have SS6 : Hid (BoundsAt W6 a bs) := hidE (SS5.out.below hb (Nat.le_refl _))
  have XS6 : Hid (W6.heap[w.heap.size]? = some (.cells #[.int .i64 N, .slice a bs.length cap] 24 (0,0))) := hidE (blk_below hb (lt_of_block XS5.out) XS5.out)
  have II6 : Hid (IntsAt W6 a2 wt) := hidE (II5.out.below hb (Nat.le_refl _))
  have JJ6 : Hid (IntsAt W6 a3 y) := hidE (JJ5.out.below hb (Nat.le_refl _))
  have KK6 : Hid (IntsAt W6 a4 fl) := hidE (KK5.out.below hb (Nat.le_refl _))
  clear hb BB5 SS5 XS5 II5 JJ5 KK5
  clear hbx
  obtain ⟨op, cp, rfl, hip, _⟩ := intsAt_of_owns hop
  have Lp6 : Hid (IntsAt W6 op u1) := hidE hip
  clear hop hip
  have f0 : W6.cell? ⟨w.heap.size, 0, none⟩ = some (.int .i64 N) := by rw [cell_of_row _ _ _ _ _ _ XS6.out]; rfl
  have f1 : W6.cell? ⟨w.heap.size, 1, none⟩ = some (.slice a bs.length cap) := by rw [cell_of_row _ _ _ _ _ _ XS6.out]; rfl
  have HC := hidE (HRE5.out W6 SS6.out KK6.out)
  go_wp2_with fail
  refine HC.out.mono ?_
  rintro e W7 ⟨⟨vq, rfl, hoq⟩, hbx⟩
  clear HC f0 f1
  have hb : Below W6.heap.size W6 W7 := hbx
  have BB7 : Hid (Below w.heap.size w W7) := hidE (BB6.out.trans (hb.mono BB6.out.size))
  have SS7 : Hid (BoundsAt W7 a bs) := hidE (SS6.out.below hb (Nat.le_refl _))
  have XS7 : Hid (W7.heap[w.heap.size]? = some (.cells #[.int .i64 N, .slice a bs.length cap] 24 (0,0))) := hidE (blk_below hb (lt_of_block XS6.out) XS6.out)
  have II7 : Hid (IntsAt W7 a2 wt) := hidE (II6.out.below hb (Nat.le_refl _))
  have JJ7 : Hid (IntsAt W7 a3 y) := hidE (JJ6.out.below hb (Nat.le_refl _))
  have KK7 : Hid (IntsAt W7 a4 fl) := hidE (KK6.out.below hb (Nat.le_refl _))
  have Lp7 : Hid (IntsAt W7 op u1) := hidE (Lp6.out.below hb (Nat.le_refl _))
  clear hb BB6 SS6 XS6 II6 JJ6 KK6 Lp6
  clear hbx
  obtain ⟨oq, cq, rfl, hiq, _⟩ := intsAt_of_owns hoq
  have Lq7 : Hid (IntsAt W7 oq u1) := hidE hiq
  clear hoq hiq
  have HC := hidE (HAL.out W7)
  go_wp2_with fail
  refine HC.out.mono ?_
  rintro e W8 ⟨rfl, hbx⟩
  clear HC 
  have hb : Below W7.heap.size W7 W8 := hbx
  have BB8 : Hid (Below w.heap.size w W8) := hidE (BB7.out.trans (hb.mono BB7.out.size))
  have SS8 : Hid (BoundsAt W8 a bs) := hidE (SS7.out.below hb (Nat.le_refl _))
  have XS8 : Hid (W8.heap[w.heap.size]? = some (.cells #[.int .i64 N, .slice a bs.length cap] 24 (0,0))) := hidE (blk_below hb (lt_of_block XS7.out) XS7.out)
  have II8 : Hid (IntsAt W8 a2 wt) := hidE (II7.out.below hb (Nat.le_refl _))
  have JJ8 : Hid (IntsAt W8 a3 y) := hidE (JJ7.out.below hb (Nat.le_refl _))
  have KK8 : Hid (IntsAt W8 a4 fl) := hidE (KK7.out.below hb (Nat.le_refl _))
  have Lp8 : Hid (IntsAt W8 op u1) := hidE (Lp7.out.below hb (Nat.le_refl _))
  have Lq8 : Hid (IntsAt W8 oq u1) := hidE (Lq7.out.below hb (Nat.le_refl _))
  clear hb BB7 SS7 XS7 II7 JJ7 KK7 Lp7 Lq7
  clear hbx
  have z1 : (s1 == s1) = true := by simp
  have z2 : (b1 == b1) = true := by simp
  have HC := hidE (same_refl W8 op oq cp cq u1 (by omega) Lp8.out Lq8.out)
  go_wp2_with fail
  refine HC.out.mono ?_
  rintro e W9 ⟨rfl, hbx⟩
  clear HC 
  have hb : Below W8.heap.size W8 W9 := hbx
  have BB9 : Hid (Below w.heap.size w W9) := hidE (BB8.out.trans (hb.mono BB8.out.size))
  have SS9 : Hid (BoundsAt W9 a bs) := hidE (SS8.out.below hb (Nat.le_refl _))
  have XS9 : Hid (W9.heap[w.heap.size]? = some (.cells #[.int .i64 N, .slice a bs.length cap] 24 (0,0))) := hidE (blk_below hb (lt_of_block XS8.out) XS8.out)
  have II9 : Hid (IntsAt W9 a2 wt) := hidE (II8.out.below hb (Nat.le_refl _))
  have JJ9 : Hid (IntsAt W9 a3 y) := hidE (JJ8.out.below hb (Nat.le_refl _))
  have KK9 : Hid (IntsAt W9 a4 fl) := hidE (KK8.out.below hb (Nat.le_refl _))
  have Lp9 : Hid (IntsAt W9 op u1) := hidE (Lp8.out.below hb (Nat.le_refl _))
  have Lq9 : Hid (IntsAt W9 oq u1) := hidE (Lq8.out.below hb (Nat.le_refl _))
  clear hb BB8 SS8 XS8 II8 JJ8 KK8 Lp8 Lq8
  clear hbx
  go_wp2_with fail
  go_ret
  exact ⟨by simp, BB9.out⟩
end Go.Proofs.YthjmkmjojlfejaaGreat
